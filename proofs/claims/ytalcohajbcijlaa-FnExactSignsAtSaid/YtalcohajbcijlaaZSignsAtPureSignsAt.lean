import Derived.Test.YtalcohajbcijlaaZSignsAtLSignsAt
namespace Go.Proofs.Ytalcohajbcijlaa.QSiA
open Go.RowKit Go.Proofs.YtalcohajbcijlaaW.PrintWords Go.Proofs.YtalcohajbcijlaaW.PrintLast Go.Proofs.YtalcohajbcijlaaW.PrintMore
set_option linter.unusedVariables false
set_option linter.unusedSimpArgs false
theorem Ev_if {α : Type} {c : Prop} [Decidable c] {g f : Nat → Option α} {r : α} (hp : c → Ev g r) (hn : ¬ c → Ev f r) : Ev (fun k => if c then g k else f k) r := by
 by_cases h : c
 ·simp only [if_pos h]; exact hp h
 ·simp only [if_neg h]; exact hn h
theorem Ev_bindS {α β : Type} {a : Option α} {x : α} {f : Nat → α → Option β} {r : β} (h : a = some x) (k : Ev (fun n => f n x) r) : Ev (fun n => a.bind (f n)) r := by
 subst h; simpa only [Option.bind_some] using k
theorem Ev_eq {α : Type} {g : Nat → Option α} {r r' : α} (h : Ev g r) (e : r = r') : Ev g r' := e ▸ h
theorem Ev_both {α β : Type} {g : Nat → Option α} {f : Nat → Option β} {r : α} {q : β} (h : Ev g r) (h' : Ev f q) : ∃ ks ki, g ks = some r ∧ f ki = some q := by
 obtain ⟨a, ha⟩ := h.rounds
 obtain ⟨b, hb⟩ := h'.rounds
 exact ⟨a, b, ha, hb⟩
theorem l1In_eq (a b c : Int) : spec_l1In.f a b c = some (decide (b ≤ a ∧ a ≤ c)) := by
 unfold spec_l1In.f; by_cases h : b ≤ a <;> simp [h]
theorem inside_eq (a b c : Int) : impl_inside.f a b c = some (decide (b ≤ a ∧ a ≤ c)) := by
 unfold impl_inside.f; by_cases h : b ≤ a <;> simp [h]
theorem wrap_next (i : Nat) (h : i < 9223372036854775807) : wrap64 ((i : Int) + 1) = ((i + 1 : Nat) : Int) := by unfold wrap64; omega
def sgnI (x : Int) : Int := if x > 0 then 1 else if x < 0 then -1 else 0
theorem l1Sign_eq (x : Int) : spec_l1Sign.f x = some (sgnI x) := by
 unfold spec_l1Sign.f sgnI; split
 ·rfl
 ·split <;> rfl
def hasB (t : S107) : Bool := decide ((0 : Int) ≤ t.f1 ∧ t.f1 ≤ 4) && (decide ((0 : Int) ≤ t.f2 ∧ t.f2 ≤ 4) && (decide ((0 : Int) ≤ t.f3 ∧ t.f3 ≤ 4) && decide (t.f1 + t.f2 + t.f3 ≤ 4)))
def tB (t : S107) : Bool := decide ((-1000 : Int) ≤ t.f0 ∧ t.f0 ≤ 1000) && hasB t
theorem hasB_bounds (t : S107) (h : hasB t = true) : ((0 : Int) ≤ t.f1 ∧ t.f1 ≤ 4) ∧ ((0 : Int) ≤ t.f2 ∧ t.f2 ≤ 4) ∧ ((0 : Int) ≤ t.f3 ∧ t.f3 ≤ 4) ∧ t.f1 + t.f2 + t.f3 ≤ 4 := by
 unfold hasB at h
 simp only [Bool.and_eq_true, decide_eq_true_eq] at h
 exact h
theorem tB_bounds (t : S107) (h : tB t = true) : ((-1000 : Int) ≤ t.f0 ∧ t.f0 ≤ 1000) ∧ ((0 : Int) ≤ t.f1 ∧ t.f1 ≤ 4) ∧ ((0 : Int) ≤ t.f2 ∧ t.f2 ≤ 4) ∧ ((0 : Int) ≤ t.f3 ∧ t.f3 ≤ 4) ∧ t.f1 + t.f2 + t.f3 ≤ 4 := by
 unfold tB at h
 simp only [Bool.and_eq_true, decide_eq_true_eq] at h
 exact ⟨h.1, hasB_bounds t h.2⟩
theorem sum3 (a b c : Int) (h1 : (0 : Int) ≤ a ∧ a ≤ 4) (h2 : (0 : Int) ≤ b ∧ b ≤ 4) (h3 : (0 : Int) ≤ c ∧ c ≤ 4) : wrap64 (wrap64 (a + b) + c) = a + b + c := by unfold wrap64; omega
theorem poTerm_eq (t : S107) : spec_poTerm.f t.f0 t.f1 t.f2 t.f3 = some (tB t) := by
 unfold spec_poTerm.f tB hasB
 simp only [l1In_eq, Option.bind_some]
 by_cases h0 : (-1000 : Int) ≤ t.f0 ∧ t.f0 ≤ 1000
 ·by_cases h1 : (0 : Int) ≤ t.f1 ∧ t.f1 ≤ 4
  ·by_cases h2 : (0 : Int) ≤ t.f2 ∧ t.f2 ≤ 4
   ·by_cases h3 : (0 : Int) ≤ t.f3 ∧ t.f3 ≤ 4
    ·simp only [decide_eq_true h0, decide_eq_true h1, decide_eq_true h2, decide_eq_true h3, if_true, Bool.true_and, sum3 _ _ _ h1 h2 h3]
    ·simp only [decide_eq_true h0, decide_eq_true h1, decide_eq_true h2, decide_eq_false h3, if_true, Bool.true_and, Bool.false_eq_true, if_false, Bool.false_and]
   ·simp only [decide_eq_true h0, decide_eq_true h1, decide_eq_false h2, if_true, Bool.true_and, Bool.false_eq_true, if_false, Bool.false_and]
  ·simp only [decide_eq_true h0, decide_eq_false h1, if_true, Bool.true_and, Bool.false_eq_true, if_false, Bool.false_and]
 ·simp only [decide_eq_false h0, Bool.false_eq_true, if_false, Bool.false_and]
theorem hasDegree_eq (t : S107) : impl_hasDegree.f t.f0 t.f1 t.f2 t.f3 = some (hasB t) := by
 unfold impl_hasDegree.f impl_Term_degree.f hasB
 simp only [inside_eq, Option.bind_some]
 by_cases h1 : (0 : Int) ≤ t.f1 ∧ t.f1 ≤ 4
 ·by_cases h2 : (0 : Int) ≤ t.f2 ∧ t.f2 ≤ 4
  ·by_cases h3 : (0 : Int) ≤ t.f3 ∧ t.f3 ≤ 4
   ·simp only [decide_eq_true h1, decide_eq_true h2, decide_eq_true h3, if_true, Bool.true_and, sum3 _ _ _ h1 h2 h3]
   ·simp only [decide_eq_true h1, decide_eq_true h2, decide_eq_false h3, if_true, Bool.true_and, Bool.false_eq_true, if_false, Bool.false_and]
  ·simp only [decide_eq_true h1, decide_eq_false h2, if_true, Bool.true_and, Bool.false_eq_true, if_false, Bool.false_and]
 ·simp only [decide_eq_false h1, Bool.false_eq_true, if_false, Bool.false_and]
def ordI (s t : S107) : Int := if s.f1 = t.f1 then (if s.f2 = t.f2 then sgnI (s.f3 - t.f3) else sgnI (s.f2 - t.f2)) else sgnI (s.f1 - t.f1)
theorem poOrder_eq (s t : S107) (hs : hasB s = true) (ht : hasB t = true) : spec_poOrder.f s.f0 s.f1 s.f2 s.f3 t.f0 t.f1 t.f2 t.f3 = some (ordI s t) := by
 obtain ⟨a1, a2, a3, _⟩ := hasB_bounds s hs
 obtain ⟨b1, b2, b3, _⟩ := hasB_bounds t ht
 unfold spec_poOrder.f ordI
 rw [show wrap64 (s.f3 - t.f3) = s.f3 - t.f3 by unfold wrap64; omega, show wrap64 (s.f2 - t.f2) = s.f2 - t.f2 by unfold wrap64; omega, show wrap64 (s.f1 - t.f1) = s.f1 - t.f1 by unfold wrap64; omega]
 simp only [l1Sign_eq, Option.bind_some]
 split
 ·split <;> rfl
 ·rfl
theorem compareInt_eq (a b : Int) : cmp_Compare_int.f a b = some (sgnI (a - b)) := by
 unfold cmp_Compare_int.f cmp_isNaN_int.f sgnI
 simp only [bne_self_eq_false, Option.bind_some]
 rw [if_neg (by decide), if_neg (by decide)]
 by_cases h : a < b
 ·rw [if_pos h, if_neg (by omega), if_pos (by omega)]
 ·rw [if_neg h]
  by_cases h2 : a > b
  ·rw [if_pos h2, if_pos (by omega)]
  ·rw [if_neg h2, if_neg (by omega), if_neg (by omega)]
theorem sgnI_zero (x : Int) : sgnI x = 0 ↔ x = 0 := by
 unfold sgnI
 constructor
 ·intro h; split at h
  ·omega
  ·split at h <;> omega
 ·intro h; subst h; rfl
theorem or3_ev (a b c : Int) : Ev (fun k => cmp_Or_int.f k [a, b, c]) (if a = 0 then (if b = 0 then c else b) else a) := by
 refine Ev.of (cmp_Or_int.mono [a, b, c]) (k := 5) ?_
 by_cases ha : a = 0 <;> by_cases hb : b = 0 <;> by_cases hc : c = 0 <;> simp [cmp_Or_int.f, cmp_Or_int.l0, rd, wrap64, ha, hb, hc]
theorem compareTerms_ev (s t : S107) : Ev (fun k => impl_compareTerms.f k s.f0 s.f1 s.f2 s.f3 t.f0 t.f1 t.f2 t.f3) (ordI s t) := by
 simp only [impl_compareTerms.f, compareInt_eq, Option.bind_some]
 refine Ev.bind (or3_ev _ _ _) (Ev_eq (Ev.now _) ?_)
 unfold ordI
 by_cases h1 : s.f1 = t.f1
 ·rw [if_pos h1, if_pos ((sgnI_zero _).2 (by omega))]
  by_cases h2 : s.f2 = t.f2
  ·rw [if_pos h2, if_pos ((sgnI_zero _).2 (by omega))]
  ·rw [if_neg h2, if_neg (fun h => h2 (by have := (sgnI_zero _).1 h; omega))]
 ·rw [if_neg h1, if_neg (fun h => h1 (by have := (sgnI_zero _).1 h; omega))]
def okT (p : List S107) (j : Nat) : Prop := tB (rd_T107 p (j : Int)) = true ∧ (rd_T107 p (j : Int)).f0 ≠ 0 ∧ (0 < j → ordI (rd_T107 p ((j : Int) - 1)) (rd_T107 p (j : Int)) < 0)
theorem po_l0 (p : List S107) (hl : p.length ≤ 1000000) (d : Nat) : ∀ (i : Nat), i ≤ p.length → p.length - i = d → (0 < i → hasB (rd_T107 p ((i : Int) - 1)) = true) → ∃ b, Ev (fun k => spec_poGood.l0 k p p (p.length : Int) (i : Int)) b ∧ Ev (fun k => impl_isPoly.l0 k p p (p.length : Int) (i : Int)) b ∧ (b = true → p.length ≤ 20 ∧ ∀ j, i ≤ j → j < p.length → okT p j) := by
 induction d with
 | zero =>
  intro i h1 hd hp
  refine ⟨decide ((p.length : Int) ≤ 20), Ev.step (fun k => rfl) ?_, Ev.step (fun k => rfl) ?_, fun h => ⟨by have := of_decide_eq_true h; omega, fun j h2 h3 => by omega⟩⟩
  ·simp only [spec_poGood.l0]
   exact Ev_if (fun h => by omega) (fun _ => Ev.now _)
  ·simp only [impl_isPoly.l0]
   exact Ev_if (fun h => by omega) (fun _ => Ev.now _)
 | succ d ih =>
  intro i h1 hd hp
  have e1 : wrap64 ((i : Int) - 1) = (i : Int) - 1 := by unfold wrap64; omega
  have e2 : wrap64 ((i : Int) + 1) = ((i + 1 : Nat) : Int) := wrap_next i (by omega)
  obtain ⟨t, ht⟩ : ∃ t, rd_T107 p (i : Int) = t := ⟨_, rfl⟩
  obtain ⟨s, hs⟩ : ∃ s, rd_T107 p ((i : Int) - 1) = s := ⟨_, rfl⟩
  rw [hs] at hp
  have S1 : ∀ {b : Bool}, Ev (fun k => if tB t = true then (if t.f0 = 0 then (some false) else (if (i : Int) > 0 then (if 0 ≤ ((i : Int) - 1) then (if ((i : Int) - 1) < (p.length : Int) then ((spec_poOrder.f s.f0 s.f1 s.f2 s.f3 t.f0 t.f1 t.f2 t.f3).bind fun t119 => (if t119 ≥ 0 then (some false) else (spec_poGood.l0 k p p (p.length : Int) ((i + 1 : Nat) : Int)))) else none) else none) else (spec_poGood.l0 k p p (p.length : Int) ((i + 1 : Nat) : Int)))) else (some false)) b → Ev (fun k => spec_poGood.l0 k p p (p.length : Int) (i : Int)) b := by
   intro b h
   refine Ev.step (fun k => rfl) ?_
   simp only [spec_poGood.l0]
   rw [e1, e2, ht, hs]
   exact Ev_if (fun _ => Ev_if (fun _ => Ev_if (fun _ => Ev_bindS (poTerm_eq t) h) (fun h => by omega)) (fun h => by omega)) (fun h => by omega)
  have I1 : ∀ {b : Bool}, Ev (fun k => if t.f0 = 0 then (some false) else (if decide ((-1000 : Int) ≤ t.f0 ∧ t.f0 ≤ 1000) = true then (if hasB t = true then (if (i : Int) > 0 then (if 0 ≤ ((i : Int) - 1) then (if ((i : Int) - 1) < (p.length : Int) then ((impl_compareTerms.f k s.f0 s.f1 s.f2 s.f3 t.f0 t.f1 t.f2 t.f3).bind fun t152 => (if t152 ≥ 0 then (some false) else (impl_isPoly.l0 k p p (p.length : Int) ((i + 1 : Nat) : Int)))) else none) else none) else (impl_isPoly.l0 k p p (p.length : Int) ((i + 1 : Nat) : Int))) else (some false)) else (some false))) b → Ev (fun k => impl_isPoly.l0 k p p (p.length : Int) (i : Int)) b := by
   intro b h
   refine Ev.step (fun k => rfl) ?_
   simp only [impl_isPoly.l0]
   rw [e1, e2, ht, hs]
   simp only [inside_eq, hasDegree_eq, Option.bind_some]
   exact Ev_if (fun _ => Ev_if (fun _ => Ev_if (fun _ => h) (fun h => by omega)) (fun h => by omega)) (fun h => by omega)
  by_cases h0 : t.f0 = 0
  ·refine ⟨false, S1 ?_, I1 ?_, fun h => absurd h (by decide)⟩
   ·exact Ev_if (fun _ => Ev_if (fun _ => Ev.now _) (fun h => absurd h0 h)) (fun _ => Ev.now _)
   ·exact Ev_if (fun _ => Ev.now _) (fun h => absurd h0 h)
  ·by_cases hB : tB t = true
   ·have hB2 := hB
    unfold tB at hB2
    simp only [Bool.and_eq_true] at hB2
    have hA : hasB t = true := hB2.2
    obtain ⟨b, r1, r2, r3⟩ := ih (i + 1) (by omega) (by omega) (fun _ => by rw [show ((i + 1 : Nat) : Int) - 1 = (i : Int) by omega, ht]; exact hA)
    by_cases hi : 0 < i
    ·by_cases ho : ordI s t ≥ 0
     ·refine ⟨false, S1 ?_, I1 ?_, fun h => absurd h (by decide)⟩
      ·exact Ev_if (fun _ => Ev_if (fun h => absurd h h0) (fun _ => Ev_if (fun _ => Ev_if (fun _ => Ev_if (fun _ => Ev_bindS (poOrder_eq s t (hp hi) hA) (Ev_if (fun _ => Ev.now _) (fun h => absurd ho h))) (fun h => by omega)) (fun h => by omega)) (fun h => by omega))) (fun h => absurd hB h)
      ·exact Ev_if (fun h => absurd h h0) (fun _ => Ev_if (fun _ => Ev_if (fun _ => Ev_if (fun _ => Ev_if (fun _ => Ev_if (fun _ => Ev.bind (compareTerms_ev s t) (Ev_if (fun _ => Ev.now _) (fun h => absurd ho h))) (fun h => by omega)) (fun h => by omega)) (fun h => by omega)) (fun h => absurd hA h)) (fun h => absurd hB2.1 h))
     ·refine ⟨b, S1 ?_, I1 ?_, fun hb => ⟨(r3 hb).1, fun j h2 h3 => ?_⟩⟩
      ·exact Ev_if (fun _ => Ev_if (fun h => absurd h h0) (fun _ => Ev_if (fun _ => Ev_if (fun _ => Ev_if (fun _ => Ev_bindS (poOrder_eq s t (hp hi) hA) (Ev_if (fun h => absurd h ho) (fun _ => r1))) (fun h => by omega)) (fun h => by omega)) (fun h => by omega))) (fun h => absurd hB h)
      ·exact Ev_if (fun h => absurd h h0) (fun _ => Ev_if (fun _ => Ev_if (fun _ => Ev_if (fun _ => Ev_if (fun _ => Ev_if (fun _ => Ev.bind (compareTerms_ev s t) (Ev_if (fun h => absurd h ho) (fun _ => r2))) (fun h => by omega)) (fun h => by omega)) (fun h => by omega)) (fun h => absurd hA h)) (fun h => absurd hB2.1 h))
      ·by_cases hj : j = i
       ·subst hj; exact ⟨by rw [ht]; exact hB, by rw [ht]; exact h0, fun _ => by rw [ht, hs]; omega⟩
       ·exact (r3 hb).2 j (by omega) h3
    ·refine ⟨b, S1 ?_, I1 ?_, fun hb => ⟨(r3 hb).1, fun j h2 h3 => ?_⟩⟩
     ·exact Ev_if (fun _ => Ev_if (fun h => absurd h h0) (fun _ => Ev_if (fun h => by omega) (fun _ => r1))) (fun h => absurd hB h)
     ·exact Ev_if (fun h => absurd h h0) (fun _ => Ev_if (fun _ => Ev_if (fun _ => Ev_if (fun h => by omega) (fun _ => r2)) (fun h => absurd hA h)) (fun h => absurd hB2.1 h))
     ·by_cases hj : j = i
      ·subst hj; exact ⟨by rw [ht]; exact hB, by rw [ht]; exact h0, fun h => absurd h hi⟩
      ·exact (r3 hb).2 j (by omega) h3
   ·refine ⟨false, S1 ?_, I1 ?_, fun h => absurd h (by decide)⟩
    ·exact Ev_if (fun h => absurd h hB) (fun _ => Ev.now _)
    ·exact Ev_if (fun h => absurd h h0) (fun _ => Ev_if (fun h1 => Ev_if (fun h2 => absurd (by unfold tB; rw [h1, h2]; rfl) hB) (fun _ => Ev.now _)) (fun _ => Ev.now _))
theorem po_ev2 (p : List S107) (hl : p.length ≤ 1000000) : ∃ b, Ev (fun k => spec_poGood.f k p) b ∧ Ev (fun k => impl_isPoly.f k p) b ∧ (b = true → p.length ≤ 20 ∧ ∀ j, j < p.length → okT p j) := by
 have h := po_l0 p hl p.length 0 (by omega) (by omega) (fun h => by omega)
 simpa [spec_poGood.f, impl_isPoly.f] using h
def pwT (t : S107) (u : Int) : Int := if u = 0 then t.f1 else if u = 1 then t.f2 else t.f3
theorem poPower_eq (t : S107) (u : Int) : spec_poPower.f t.f0 t.f1 t.f2 t.f3 u = some (pwT t u) := by
 unfold spec_poPower.f pwT
 split
 ·rfl
 ·split <;> rfl
theorem l1Most_eq (a b : Int) : spec_l1Most.f a b = some (if a > b then a else b) := by unfold spec_l1Most.f; split <;> rfl
theorem degIn_l0 (p : List S107) (hl : p.length ≤ 1000000) (u : Int) (d : Nat) : ∀ (i : Nat) (acc : Int), i ≤ p.length → p.length - i = d → ∃ m, Ev (fun k => spec_poDegreeIn.l0 k u acc p (p.length : Int) (i : Int)) m ∧ (m > 0 ↔ acc > 0 ∨ ∃ j, i ≤ j ∧ j < p.length ∧ pwT (rd_T107 p (j : Int)) u > 0) := by
 induction d with
 | zero =>
  intro i acc h1 hd
  refine ⟨acc, Ev.step (fun k => rfl) ?_, ⟨.inl, ?_⟩⟩
  ·simp only [spec_poDegreeIn.l0]
   exact Ev_if (fun h => by omega) (fun _ => Ev.now _)
  ·rintro (h | ⟨j, h2, h3, _⟩)
   ·exact h
   ·omega
 | succ d ih =>
  intro i acc h1 hd
  obtain ⟨m, hm, hi⟩ := ih (i + 1) (if acc > pwT (rd_T107 p (i : Int)) u then acc else pwT (rd_T107 p (i : Int)) u) (by omega) (by omega)
  refine ⟨m, Ev.step (fun k => rfl) ?_, ?_⟩
  ·simp only [spec_poDegreeIn.l0]
   rw [wrap_next i (by omega)]
   exact Ev_if (fun _ => Ev_if (fun _ => Ev_if (fun _ => Ev_bindS (poPower_eq _ _) (Ev_bindS (l1Most_eq _ _) hm)) (fun h => by omega)) (fun h => by omega)) (fun h => by omega)
  ·rw [hi]
   constructor
   ·rintro (h | ⟨j, h2, h3, h4⟩)
    ·split at h
     ·exact .inl h
     ·exact .inr ⟨i, Nat.le_refl _, by omega, h⟩
    ·exact .inr ⟨j, by omega, h3, h4⟩
   ·rintro (h | ⟨j, h2, h3, h4⟩)
    ·left; split <;> omega
    ·by_cases hj : j = i
     ·subst hj; left; split <;> omega
     ·exact .inr ⟨j, by omega, h3, h4⟩
theorem degIn_ev (p : List S107) (hl : p.length ≤ 1000000) (u : Int) : ∃ m, Ev (fun k => spec_poDegreeIn.f k p u) m ∧ (m > 0 ↔ ∃ j, j < p.length ∧ pwT (rd_T107 p (j : Int)) u > 0) := by
 obtain ⟨m, hm, hi⟩ := degIn_l0 p hl u p.length 0 (-1) (by omega) (by omega)
 refine ⟨m, hm, hi.trans ⟨?_, ?_⟩⟩
 ·rintro (h | ⟨j, _, h⟩)
  ·omega
  ·exact ⟨j, h⟩
 ·rintro ⟨j, h⟩; exact .inr ⟨j, Nat.zero_le _, h⟩
theorem needs_l1 (p : List S107) (n : Int) (i : Int) (t : S107) (w : Bool) (hw : Ev (fun k => impl_needsAtMost.l0 k n p (p.length : Int) (wrap64 (i + 1))) w) (d : Nat) : ∀ u : Nat, u ≤ 3 → 3 - u = d → ∃ v, Ev (fun k => impl_needsAtMost.l1 k n p (p.length : Int) i (u : Int) t.f1 t.f2 t.f3) v ∧ (v = true ↔ w = true ∧ ∀ x : Nat, u ≤ x → x < 3 → n ≤ (x : Int) → pwT t (x : Int) ≤ 0) := by
 induction d with
 | zero =>
  intro u h1 hd
  refine ⟨w, Ev.step (fun k => rfl) ?_, ⟨fun h => ⟨h, fun x h2 h3 => by omega⟩, fun h => h.1⟩⟩
  simp only [impl_needsAtMost.l1]
  exact Ev_if (fun h => by omega) (fun _ => hw)
 | succ d ih =>
  intro u h1 hd
  obtain ⟨v, hv, hi⟩ := ih (u + 1) (by omega) (by omega)
  have hx : ix3 t.f1 t.f2 t.f3 (u : Int) = pwT t (u : Int) := rfl
  by_cases hn : (u : Int) ≥ n
  ·by_cases hp : pwT t (u : Int) > 0
   ·refine ⟨false, Ev.step (fun k => rfl) ?_, ⟨fun h => absurd h (by decide), fun h2 => ?_⟩⟩
    ·simp only [impl_needsAtMost.l1]; rw [hx]
     exact Ev_if (fun _ => Ev_if (fun _ => Ev_if (fun _ => Ev_if (fun _ => Ev.now _) (fun h => absurd hp h)) (fun h => absurd hn h)) (fun h => by omega)) (fun h => by omega)
    ·have := h2.2 u (Nat.le_refl _) (by omega) hn
     omega
   ·refine ⟨v, Ev.step (fun k => rfl) ?_, hi.trans ⟨fun h2 => ⟨h2.1, fun x h3 h4 h5 => ?_⟩, fun h2 => ⟨h2.1, fun x h3 h4 => h2.2 x (by omega) h4⟩⟩⟩
    ·simp only [impl_needsAtMost.l1]; rw [hx, wrap_next u (by omega)]
     exact Ev_if (fun _ => Ev_if (fun _ => Ev_if (fun _ => Ev_if (fun h => absurd h hp) (fun _ => hv)) (fun h => absurd hn h)) (fun h => by omega)) (fun h => by omega)
    ·by_cases hxu : x = u
     ·subst hxu; omega
     ·exact h2.2 x (by omega) h4 h5
  ·refine ⟨v, Ev.step (fun k => rfl) ?_, hi.trans ⟨fun h2 => ⟨h2.1, fun x h3 h4 h5 => h2.2 x (by omega) h4 h5⟩, fun h2 => ⟨h2.1, fun x h3 h4 => h2.2 x (by omega) h4⟩⟩⟩
   simp only [impl_needsAtMost.l1]; rw [wrap_next u (by omega)]
   exact Ev_if (fun _ => Ev_if (fun _ => Ev_if (fun h => absurd h hn) (fun _ => hv)) (fun h => by omega)) (fun h => by omega)
theorem needs_l0 (p : List S107) (hl : p.length ≤ 1000000) (n : Int) (d : Nat) : ∀ i : Nat, i ≤ p.length → p.length - i = d → ∃ w, Ev (fun k => impl_needsAtMost.l0 k n p (p.length : Int) (i : Int)) w ∧ (w = true ↔ ∀ j, i ≤ j → j < p.length → ∀ x : Nat, x < 3 → n ≤ (x : Int) → pwT (rd_T107 p (j : Int)) (x : Int) ≤ 0) := by
 induction d with
 | zero =>
  intro i h1 hd
  refine ⟨true, Ev.step (fun k => rfl) ?_, ⟨fun _ j h2 h3 => by omega, fun _ => rfl⟩⟩
  simp only [impl_needsAtMost.l0]
  exact Ev_if (fun h => by omega) (fun _ => Ev.now _)
 | succ d ih =>
  intro i h1 hd
  obtain ⟨w, hw, hi⟩ := ih (i + 1) (by omega) (by omega)
  rw [← wrap_next i (by omega)] at hw
  obtain ⟨v, hv, hi2⟩ := needs_l1 p n (i : Int) (rd_T107 p (i : Int)) w hw 3 0 (by omega) (by omega)
  refine ⟨v, Ev.step (fun k => rfl) ?_, hi2.trans ⟨fun h2 j h3 h4 x h5 h6 => ?_, fun h2 => ⟨hi.2 (fun j h3 h4 => h2 j (by omega) h4), fun x h3 h4 h5 => h2 i (Nat.le_refl _) (by omega) x h4 h5⟩⟩⟩
  ·simp only [impl_needsAtMost.l0, impl_Term_exponents.f, Option.bind_some]
   exact Ev_if (fun _ => Ev_if (fun _ => Ev_if (fun _ => hv) (fun h => by omega)) (fun h => by omega)) (fun h => by omega)
  ·by_cases hj : j = i
   ·subst hj; exact h2.2 x (Nat.zero_le _) h5 h6
   ·exact hi.1 h2.1 j (by omega) h4 x h5 h6
theorem u64r (n : Int) (h : 0 ≤ n ∧ n < 18446744073709551616) : IntKind.u64.wrap n = n := by simp [IntKind.wrap, IntKind.signed, IntKind.bits]; omega
theorem pow1 (n : Nat) : (1 : Int) ≤ 2 ^ n := Int.pow_pos (by omega)
theorem pow_split (a b : Nat) (h : b ≤ a) : (2 : Int) ^ a = 2 ^ (a - b) * 2 ^ b := by rw [← Int.pow_add, show a - b + b = a by omega]
theorem pow_le2 (a b : Nat) (h : a ≤ b) : (2 : Int) ^ a ≤ 2 ^ b := by have := Nat.pow_le_pow_right (show 0 < 2 by omega) h; exact_mod_cast this
theorem pow62 (n : Nat) (h : n ≤ 62) : (2 : Int) ^ n ≤ 4611686018427387904 := by
 have h1 := pow_le2 n 62 h
 have h2 : (2 : Int) ^ 62 = 4611686018427387904 := by decide
 omega
theorem sgn_mul (c x : Int) (h : 0 < c) : sgnI (c * x) = sgnI x := by
 unfold sgnI
 by_cases h1 : x > 0
 ·rw [if_pos (Int.mul_pos h h1), if_pos h1]
 ·rw [if_neg h1]
  by_cases h2 : x < 0
  ·have := Int.mul_neg_of_pos_of_neg h h2
   rw [if_neg (by omega), if_pos this, if_pos h2]
  ·have : x = 0 := by omega
   subst this; rw [if_neg (by simp), if_neg (by simp), if_neg (by omega)]
theorem sgn_pos (x : Int) (h : 0 < x) : sgnI x = 1 := by unfold sgnI; rw [if_pos h]
theorem sgn_neg (x : Int) (h : x < 0) : sgnI x = -1 := by unfold sgnI; rw [if_neg (by omega), if_pos h]
def dv (n k : Int) : Int := n * 2 ^ (24 - k.toNat)
theorem dyPower62 (k : Int) (h : 0 ≤ k ∧ k ≤ 62) : spec_dyPower.f k = some (2 ^ k.toNat) := by
 have h1 := pow1 k.toNat
 have h2 := pow62 k.toNat (by omega)
 have h3 : shl .i64 1 k = 2 ^ k.toNat := by
  unfold shl
  rw [Nat.min_eq_left (by show k.toNat ≤ 64; omega), Int.one_mul, i64_w]; unfold wrap64; omega
 unfold spec_dyPower.f
 have e : IntKind.u64.wrap k = k := u64r _ ⟨by omega, by omega⟩
 rw [e, if_pos h.1, h3]
theorem tdiv_floor (a b : Int) (hb : 0 < b) : Int.tdiv a b = if Int.tmod a b < 0 then a / b + 1 else a / b := by
 have h1 := Int.mul_ediv_add_emod a b
 have h2 := Int.mul_tdiv_add_tmod a b
 have h3 := Int.emod_nonneg a (show b ≠ 0 by omega)
 have h4 := Int.emod_lt_of_pos a hb
 have h5 : -b < Int.tmod a b ∧ Int.tmod a b < b := by
  have := Int.tmod_lt_of_pos a hb
  have := Int.lt_tmod_of_pos a hb
  omega
 obtain ⟨q, hq⟩ : ∃ q, Int.tdiv a b = q := ⟨_, rfl⟩
 obtain ⟨p, hp⟩ : ∃ p, a / b = p := ⟨_, rfl⟩
 rw [hq] at h2 ⊢
 rw [hp] at h1 ⊢
 by_cases h : Int.tmod a b < 0
 ·rw [if_pos h]
  have e : b * (q - p - 1) = a % b - Int.tmod a b - b := by rw [Int.mul_sub, Int.mul_sub]; omega
  rcases Int.lt_trichotomy (q - p - 1) 0 with h6 | h6 | h6
  ·have := Int.mul_le_mul_of_nonneg_left (show q - p - 1 ≤ -1 by omega) (show 0 ≤ b by omega)
   omega
  ·omega
  ·have := Int.mul_le_mul_of_nonneg_left (show 1 ≤ q - p - 1 by omega) (show 0 ≤ b by omega)
   omega
 ·rw [if_neg h]
  have e : b * (q - p) = a % b - Int.tmod a b := by rw [Int.mul_sub]; omega
  rcases Int.lt_trichotomy (q - p) 0 with h6 | h6 | h6
  ·have := Int.mul_le_mul_of_nonneg_left (show q - p ≤ -1 by omega) (show 0 ≤ b by omega)
   omega
  ·omega
  ·have := Int.mul_le_mul_of_nonneg_left (show 1 ≤ q - p by omega) (show 0 ≤ b by omega)
   omega
theorem dyDown_gen (a b : Int) (ha : -4611686018427387904 ≤ a ∧ a ≤ 4611686018427387904) (hb : 0 < b) : spec_dyDown.f a b = some (a / b) := by
 have h1 := tdiv_floor a b hb
 have h2 : -4611686018427387904 ≤ Int.tdiv a b ∧ Int.tdiv a b ≤ 4611686018427387904 := by
  have h3 : (Int.tdiv a b).natAbs ≤ a.natAbs := by rw [Int.natAbs_tdiv]; exact Nat.div_le_self _ _
  omega
 unfold spec_dyDown.f
 rw [if_neg (by omega)]
 by_cases h : Int.tmod a b < 0
 ·rw [if_pos h] at h1 ⊢
  congr 1
  rw [show wrap64 (Int.tdiv a b) = Int.tdiv a b by unfold wrap64; omega]
  unfold wrap64; omega
 ·rw [if_neg h] at h1 ⊢
  congr 1
  unfold wrap64; omega
theorem dyFloor_eq (n k : Int) (hn : -1099511627776 ≤ n ∧ n ≤ 1099511627776) (hk : 0 ≤ k ∧ k ≤ 24) : spec_dyFloor.f n k = some (n / 2 ^ k.toNat) := by
 unfold spec_dyFloor.f
 rw [dyPower62 k ⟨hk.1, by omega⟩, Option.bind_some, dyDown_gen n _ ⟨by omega, by omega⟩ (by have := pow1 k.toNat; omega)]; rfl
theorem dyAt_l0 (t k0 : Int) (d : Nat) : ∀ (n i : Int), 0 ≤ i → i ≤ t → t ≤ 1000 → (t - i).toNat = d → -1152921504606846976 ≤ n * 2 ^ d ∧ n * 2 ^ d ≤ 1152921504606846976 → Ev (fun z => spec_dyAt.l0 z t i n k0) (n * 2 ^ d, true) := by
 induction d with
 | zero =>
  intro n i h0 hi ht hd hn
  refine Ev.step (fun z => rfl) ?_
  simp only [spec_dyAt.l0]
  refine Ev_if (fun h => by omega) (fun _ => ?_)
  refine Ev_eq (Ev.now _) ?_
  simp
 | succ d ih =>
  intro n i h0 hi ht hd hn
  have e : n * 2 ^ (d + 1) = n * 2 * 2 ^ d := by rw [Int.pow_succ]; grind
  have hp := pow1 d
  have hn2 : -1152921504606846976 ≤ n * 2 ∧ n * 2 ≤ 1152921504606846976 := by
   rw [e] at hn
   obtain ⟨x, hx⟩ : ∃ x, n * 2 = x := ⟨_, rfl⟩
   rw [hx] at hn ⊢
   rcases Int.le_total 0 x with h | h
   ·have := Int.mul_le_mul_of_nonneg_left hp h; omega
   ·have := Int.mul_le_mul_of_nonneg_left hp (show 0 ≤ -x by omega)
    simp only [Int.neg_mul] at this; omega
  refine Ev.step (fun z => rfl) ?_
  simp only [spec_dyAt.l0]
  rw [show wrap64 (i + 1) = i + 1 by unfold wrap64; omega, show wrap64 (n * 2) = n * 2 by unfold wrap64; omega]
  refine Ev_if (fun _ => Ev_bindS (dyPower62 60 ⟨by omega, by omega⟩) (Ev_bindS (l1In_eq _ _ _) (Ev_if (fun _ => ?_) (fun h => ?_)))) (fun h => by omega)
  ·rw [e] at hn ⊢
   exact ih (n * 2) (i + 1) (by omega) (by omega) ht (by omega) hn
  ·exfalso; apply h
   apply decide_eq_true
   have e60 : (2 : Int) ^ (60 : Int).toNat = 1152921504606846976 := by decide
   rw [e60, show wrap64 (-1152921504606846976) = -1152921504606846976 by unfold wrap64; omega]; omega
theorem dyAt_ev (n k t : Int) (hk : 0 ≤ k ∧ k ≤ t) (ht : t ≤ 1000) (hn : -1152921504606846976 ≤ n * 2 ^ (t - k).toNat ∧ n * 2 ^ (t - k).toNat ≤ 1152921504606846976) : Ev (fun z => spec_dyAt.f z n k t) (n * 2 ^ (t - k).toNat, true) := by
 unfold spec_dyAt.f
 refine Ev_if (fun h => ?_) (fun _ => dyAt_l0 t k _ n k hk.1 hk.2 ht rfl hn)
 subst h; simp only [Int.zero_mul]; exact Ev.now _
theorem dyCmp_ev (n1 k1 n2 k2 : Int) (hn1 : -1099511627776 ≤ n1 ∧ n1 ≤ 1099511627776) (hk1 : 0 ≤ k1 ∧ k1 ≤ 24) (hn2 : -1099511627776 ≤ n2 ∧ n2 ≤ 1099511627776) (hk2 : 0 ≤ k2 ∧ k2 ≤ 24) :
 Ev (fun z => spec_dyCmp.f z n1 k1 n2 k2) (sgnI (dv n1 k1 - dv n2 k2)) := by
 have key : ∀ n k : Int, -1099511627776 ≤ n ∧ n ≤ 1099511627776 → 0 ≤ k ∧ k ≤ 24 → ∃ q r : Int, n / 2 ^ k.toNat = q ∧ -1099511627776 ≤ q ∧ q ≤ 1099511627776 ∧ wrap64 (n - wrap64 (q * 2 ^ k.toNat)) = r ∧ Ev (fun z => spec_dyAt.f z r k 24) (r * 2 ^ (24 - k.toNat), true) ∧ dv n k = q * 16777216 + r * 2 ^ (24 - k.toNat) ∧ 0 ≤ r * 2 ^ (24 - k.toNat) ∧ r * 2 ^ (24 - k.toNat) < 16777216 := by
  intro n k hn hk
  obtain ⟨q, hq⟩ : ∃ q, n / 2 ^ k.toNat = q := ⟨_, rfl⟩
  have hp := pow1 k.toNat
  have hp2 := pow_le2 k.toNat 24 (by omega)
  have h1 := Int.mul_ediv_add_emod n (2 ^ k.toNat)
  have h2 := Int.emod_nonneg n (show (2 : Int) ^ k.toNat ≠ 0 by omega)
  have h3 := Int.emod_lt_of_pos n (show (0 : Int) < 2 ^ k.toNat by omega)
  rw [hq] at h1
  have hqr : -1099511627776 ≤ q ∧ q ≤ 1099511627776 := by
   rw [← hq]
   refine ⟨?_, ?_⟩
   ·apply Int.le_ediv_of_mul_le (by omega)
    have := Int.mul_le_mul_of_nonneg_left hp (show (0 : Int) ≤ 1099511627776 by omega)
    omega
   ·rcases Int.le_total 0 n with h | h
    ·have := Int.ediv_le_self (2 ^ k.toNat) h; omega
    ·have : n / 2 ^ k.toNat ≤ 0 := by
      have := Int.ediv_le_ediv (show (0 : Int) < 2 ^ k.toNat by omega) h
      simpa using this
     omega
  have hw : wrap64 (q * 2 ^ k.toNat) = q * 2 ^ k.toNat := by
   have : q * 2 ^ k.toNat = 2 ^ k.toNat * q := Int.mul_comm _ _
   unfold wrap64; omega
  have hr : wrap64 (n - wrap64 (q * 2 ^ k.toNat)) = n % 2 ^ k.toNat := by
   rw [hw]
   have : q * 2 ^ k.toNat = 2 ^ k.toNat * q := Int.mul_comm _ _
   unfold wrap64; omega
  have e24 : (24 : Int) - k = ((24 - k.toNat : Nat) : Int) := by omega
  have hp24 : (2 : Int) ^ (24 - k.toNat) * 2 ^ k.toNat = 16777216 := by rw [← pow_split 24 k.toNat (by omega)]; rfl
  have hb0 : 0 ≤ n % 2 ^ k.toNat * 2 ^ (24 - k.toNat) := Int.mul_nonneg h2 (by have := pow1 (24 - k.toNat); omega)
  have hb1 : n % 2 ^ k.toNat * 2 ^ (24 - k.toNat) < 16777216 := by
   have := Int.mul_lt_mul_of_pos_right h3 (show (0 : Int) < 2 ^ (24 - k.toNat) by have := pow1 (24 - k.toNat); omega)
   rw [Int.mul_comm (2 ^ k.toNat)] at this; omega
  refine ⟨q, n % 2 ^ k.toNat, hq, hqr.1, hqr.2, hr, ?_, ?_, hb0, hb1⟩
  ·have h := dyAt_ev (n % 2 ^ k.toNat) k 24 hk (by omega) (by rw [e24, Int.toNat_natCast]; omega)
   rw [e24, Int.toNat_natCast] at h; exact h
  ·unfold dv
   have e : n * 2 ^ (24 - k.toNat) = (2 ^ k.toNat * q + n % 2 ^ k.toNat) * 2 ^ (24 - k.toNat) := by rw [h1]
   rw [e, Int.add_mul, Int.mul_comm (2 ^ k.toNat) q, Int.mul_assoc, Int.mul_comm (2 ^ k.toNat) (2 ^ (24 - k.toNat)), hp24]
 obtain ⟨q1, r1, a1, a2, a3, a4, a5, a6, a7, a8⟩ := key n1 k1 hn1 hk1
 obtain ⟨q2, r2, b1, b2, b3, b4, b5, b6, b7, b8⟩ := key n2 k2 hn2 hk2
 have f1 := dyFloor_eq n1 k1 hn1 hk1
 have f2 := dyFloor_eq n2 k2 hn2 hk2
 rw [a1] at f1
 rw [b1] at f2
 rw [a6, b6]
 obtain ⟨x, hx⟩ : ∃ x, r1 * 2 ^ (24 - k1.toNat) = x := ⟨_, rfl⟩
 obtain ⟨y, hy⟩ : ∃ y, r2 * 2 ^ (24 - k2.toNat) = y := ⟨_, rfl⟩
 rw [hx] at a5 a7 a8 ⊢
 rw [hy] at b5 b7 b8 ⊢
 unfold spec_dyCmp.f
 refine Ev_bindS f1 (Ev_bindS f2 (Ev_if (fun h => ?_) (fun h => ?_)))
 ·subst h
  refine Ev_bindS (dyPower62 k1 ⟨hk1.1, by omega⟩) ?_
  rw [a4]
  refine Ev.bind a5 (Ev_bindS (dyPower62 k2 ⟨hk2.1, by omega⟩) ?_)
  rw [b4]
  refine Ev.bind b5 (Ev_bindS (l1Sign_eq _) (Ev_eq (Ev.now _) ?_))
  rw [show wrap64 (x - y) = q1 * 16777216 + x - (q1 * 16777216 + y) by unfold wrap64; omega]
 ·refine Ev_bindS (l1Sign_eq _) (Ev_eq (Ev.now _) ?_)
  rw [show wrap64 (q1 - q2) = q1 - q2 by unfold wrap64; omega]
  rcases Int.lt_or_gt_of_ne h with h1 | h1
  ·rw [sgn_neg _ (by omega), sgn_neg (q1 * 16777216 + x - (q2 * 16777216 + y)) (by omega)]
  ·rw [sgn_pos _ (by omega), sgn_pos (q1 * 16777216 + x - (q2 * 16777216 + y)) (by omega)]
def bd (s : Nat) : Int := 1000 * 4096 ^ s
theorem absmul (x y a b : Int) (hx : -a ≤ x ∧ x ≤ a) (hy : -b ≤ y ∧ y ≤ b) : -(a * b) ≤ x * y ∧ x * y ≤ a * b := by
 have h1 : x.natAbs ≤ a.toNat := by omega
 have h2 : y.natAbs ≤ b.toNat := by omega
 have h := Nat.mul_le_mul h1 h2
 rw [← Int.natAbs_mul] at h
 have e : ((a.toNat * b.toNat : Nat) : Int) = a * b := by rw [Int.natCast_mul, Int.toNat_of_nonneg (by omega), Int.toNat_of_nonneg (by omega)]
 have h3 : (((x * y).natAbs : Nat) : Int) ≤ a * b := by rw [← e]; exact_mod_cast h
 omega
theorem bd_step (x y : Int) (s : Nat) (hs : s < 4) (hx : -bd s ≤ x ∧ x ≤ bd s) (hy : (-4096 : Int) ≤ y ∧ y ≤ 4096) : (-bd (s + 1) ≤ x * y ∧ x * y ≤ bd (s + 1)) ∧ wrap64 (x * y) = x * y := by
 have h := absmul x y _ _ hx hy
 have e : bd s * 4096 = bd (s + 1) := by unfold bd; rw [Int.pow_succ]; omega
 rw [e] at h
 refine ⟨h, ?_⟩
 have h4 : bd (s + 1) ≤ 281474976710656000 := by
  obtain rfl | rfl | rfl | rfl : s = 0 ∨ s = 1 ∨ s = 2 ∨ s = 3 := by omega
  all_goals (unfold bd; omega)
 generalize x * y = z at *
 unfold wrap64; omega
def eT (t : S107) (u : Nat) : Nat := (pwT t (u : Int)).toNat
def prodU (up : Nat → Int) (t : S107) : Nat → Nat → Int
 | _, 0 => 1
 | i, m + 1 => up i ^ eT t i * prodU up t (i + 1) m
def sumE (t : S107) : Nat → Nat → Nat
 | _, 0 => 0
 | i, m + 1 => eT t i + sumE t (i + 1) m
theorem prodU_scale (up up' : Nat → Int) (t : S107) (Z : Int) (m : Nat) : ∀ i, (∀ u, i ≤ u → u < i + m → up' u = up u * Z) → prodU up' t i m = prodU up t i m * Z ^ sumE t i m := by
 induction m with
 | zero => intro i h; simp [prodU, sumE]
 | succ m ih =>
  intro i h
  simp only [prodU, sumE]
  rw [h i (Nat.le_refl _) (by omega), ih (i + 1) (fun u h1 h2 => h u (by omega) (by omega)), Int.mul_pow, Int.pow_add]
  grind
theorem sumE_deg (t : S107) (h : hasB t = true) (n : Nat) (hn : 1 ≤ n ∧ n ≤ 3) (hz : ∀ u : Nat, n ≤ u → u < 3 → pwT t (u : Int) ≤ 0) : sumE t 0 n = (t.f1 + t.f2 + t.f3).toNat ∧ (∀ up, prodU up t 0 3 = prodU up t 0 n) := by
 obtain ⟨b1, b2, b3, _⟩ := hasB_bounds t h
 have e0 : eT t 0 = t.f1.toNat := rfl
 have e1 : eT t 1 = t.f2.toNat := rfl
 have e2 : eT t 2 = t.f3.toNat := rfl
 obtain rfl | rfl | rfl : n = 1 ∨ n = 2 ∨ n = 3 := by omega
 ·have h1 : t.f2 ≤ 0 := hz 1 (by omega) (by omega)
  have h2 : t.f3 ≤ 0 := hz 2 (by omega) (by omega)
  refine ⟨by simp only [sumE, e0]; omega, fun up => ?_⟩
  simp only [prodU, e1, e2]
  rw [show t.f2.toNat = 0 by omega, show t.f3.toNat = 0 by omega]; simp only [Int.pow_zero, Int.one_mul, Int.mul_one]
 ·have h2 : t.f3 ≤ 0 := hz 2 (by omega) (by omega)
  refine ⟨by simp only [sumE, e0, e1]; omega, fun up => ?_⟩
  simp only [prodU, e2]
  rw [show t.f3.toNat = 0 by omega]; simp only [Int.pow_zero, Int.one_mul, Int.mul_one]
 ·exact ⟨by simp only [sumE, e0, e1, e2]; omega, fun up => rfl⟩
theorem vs_l3 (q : List S44) (M sm up : Int) (p : List S107) (lp j : Int) (q2 : List S44) (lq i c0 c1 c2 c3 : Int) (hu : (-4096 : Int) ≤ up ∧ up ≤ 4096) (e : Nat) : ∀ (x : Int) (s : Nat), s + e ≤ 4 → (-bd s ≤ x ∧ x ≤ bd s) →
 (-bd (s + e) ≤ x * up ^ e ∧ x * up ^ e ≤ bd (s + e)) ∧ ∀ r, Ev (fun k => spec_vaSum.l2 k q M sm (x * up ^ e) p lp j q2 lq (wrap64 (i + 1)) c0 c1 c2 c3) r → Ev (fun k => spec_vaSum.l3 k q M sm x up (e : Int) p lp j q2 lq i c0 c1 c2 c3) r := by
 induction e with
 | zero =>
  intro x s hs hx
  rw [Int.pow_zero, Int.mul_one]
  refine ⟨hx, fun r hr => Ev.step (fun k => rfl) ?_⟩
  simp only [spec_vaSum.l3]
  exact Ev_if (fun h => by omega) (fun _ => hr)
 | succ e ih =>
  intro x s hs hx
  obtain ⟨h1, h2⟩ := bd_step x up s (by omega) hx hu
  obtain ⟨h3, h4⟩ := ih (x * up) (s + 1) (by omega) h1
  have ee : x * up * up ^ e = x * up ^ (e + 1) := by rw [Int.pow_succ, Int.mul_assoc, Int.mul_comm up]
  rw [ee, show s + 1 + e = s + (e + 1) by omega] at h3
  refine ⟨h3, fun r hr => Ev.step (fun k => rfl) ?_⟩
  rw [ee] at h4
  simp only [spec_vaSum.l3]
  rw [h2, show wrap64 (((e + 1 : Nat) : Int) - 1) = (e : Int) by unfold wrap64; omega]
  exact Ev_if (fun _ => h4 r hr) (fun h => by omega)
theorem vs_l4 (q : List S44) (M sm : Int) (hM : 0 ≤ M ∧ M ≤ 9) (p : List S107) (lp j : Int) (m : Nat) : ∀ (x : Int) (s : Nat), s + m ≤ 4 → (-bd s ≤ x ∧ x ≤ bd s) → m ≤ 4 →
 (-bd (s + m) ≤ x * (2 ^ M.toNat) ^ m ∧ x * (2 ^ M.toNat) ^ m ≤ bd (s + m)) ∧ ∀ r, Ev (fun k => spec_vaSum.l1 k q M (wrap64 (sm + x * (2 ^ M.toNat) ^ m)) p lp (wrap64 (j + 1))) r → Ev (fun k => spec_vaSum.l4 k q M sm x (4 - (m : Int)) p lp j) r := by
 have hp1 := pow1 M.toNat
 have hp2 := pow_le2 M.toNat 9 (by omega)
 induction m with
 | zero =>
  intro x s hs hx hm
  rw [Int.pow_zero, Int.mul_one]
  refine ⟨hx, fun r hr => Ev.step (fun k => rfl) ?_⟩
  simp only [spec_vaSum.l4]
  exact Ev_if (fun h => by omega) (fun _ => hr)
 | succ m ih =>
  intro x s hs hx hm
  obtain ⟨h1, h2⟩ := bd_step x (2 ^ M.toNat) s (by omega) hx (by omega)
  obtain ⟨h3, h4⟩ := ih (x * 2 ^ M.toNat) (s + 1) (by omega) h1 (by omega)
  have ee : x * 2 ^ M.toNat * (2 ^ M.toNat) ^ m = x * (2 ^ M.toNat) ^ (m + 1) := by rw [Int.pow_succ, Int.mul_assoc, Int.mul_comm (2 ^ M.toNat)]
  rw [ee, show s + 1 + m = s + (m + 1) by omega] at h3
  refine ⟨h3, fun r hr => Ev.step (fun k => rfl) ?_⟩
  rw [ee] at h4
  simp only [spec_vaSum.l4]
  rw [dyPower62 M (by omega)]
  simp only [Option.bind_some]
  rw [h2, show wrap64 (4 - ((m + 1 : Nat) : Int) + 1) = 4 - (m : Int) by unfold wrap64; omega]
  exact Ev_if (fun _ => h4 r hr) (fun h => by omega)
def upS (q : List S44) (M : Int) (u : Nat) : Int := (rd_T44 q (u : Int)).f0 * 2 ^ (M - (rd_T44 q (u : Int)).f1).toNat
def upI (q : List S44) (u : Nat) : Int := (rd_T44 q (u : Int)).f0 * 2 ^ (9 - (rd_T44 q (u : Int)).f1).toNat
theorem up_bound (n k : Int) (M : Int) (hM : 0 ≤ M ∧ M ≤ 9) (hk : 0 ≤ k ∧ k ≤ M) (hn : -8 * 2 ^ k.toNat ≤ n ∧ n ≤ 8 * 2 ^ k.toNat) : (-4096 : Int) ≤ n * 2 ^ (M - k).toNat ∧ n * 2 ^ (M - k).toNat ≤ 4096 := by
 have h1 := pow1 (M - k).toNat
 have e := pow_split M.toNat k.toNat (by omega)
 rw [show M.toNat - k.toNat = (M - k).toNat by omega] at e
 have h9 := pow_le2 M.toNat 9 (by omega)
 have h := absmul n (2 ^ (M - k).toNat) (8 * 2 ^ k.toNat) (2 ^ (M - k).toNat) (by omega) (by omega)
 have e2 : 8 * 2 ^ k.toNat * 2 ^ (M - k).toNat = (8 : Int) * 2 ^ M.toNat := by rw [e]; grind
 rw [e2] at h
 omega
theorem vs_l2 (q : List S44) (M sm : Int) (hM : 0 ≤ M ∧ M ≤ 9) (hq : q.length ≤ 3) (hK : ∀ u : Nat, u < q.length → 0 ≤ (rd_T44 q (u : Int)).f1 ∧ (rd_T44 q (u : Int)).f1 ≤ M) (hN : ∀ u : Nat, u < q.length → (-4096 : Int) ≤ upS q M u ∧ upS q M u ≤ 4096)
 (hS : ∀ u : Nat, u < q.length → (-1152921504606846976 : Int) ≤ upS q M u ∧ upS q M u ≤ 1152921504606846976) (p : List S107) (lp j : Int) (t : S107) (ht : hasB t = true) (m : Nat) : ∀ (i : Nat) (x : Int) (s : Nat), i + m = q.length → s + sumE t i m ≤ 4 → (-bd s ≤ x ∧ x ≤ bd s) →
 (-bd (s + sumE t i m) ≤ x * prodU (upS q M) t i m ∧ x * prodU (upS q M) t i m ≤ bd (s + sumE t i m)) ∧ ∀ r, Ev (fun k => spec_vaSum.l4 k q M sm (x * prodU (upS q M) t i m) (t.f1 + t.f2 + t.f3) p lp j) r → Ev (fun k => spec_vaSum.l2 k q M sm x p lp j q (q.length : Int) (i : Int) t.f0 t.f1 t.f2 t.f3) r := by
 obtain ⟨b1, b2, b3, _⟩ := hasB_bounds t ht
 induction m with
 | zero =>
  intro i x s hi hs hx
  simp only [prodU, sumE, Int.mul_one, Nat.add_zero]
  refine ⟨hx, fun r hr => Ev.step (fun k => rfl) ?_⟩
  simp only [spec_vaSum.l2]
  rw [sum3 _ _ _ b1 b2 b3]
  exact Ev_if (fun h => by omega) (fun _ => hr)
 | succ m ih =>
  intro i x s hi hs hx
  simp only [sumE] at hs
  have hu : i < q.length := by omega
  obtain ⟨h1, h2⟩ := vs_l3 q M sm (upS q M i) p lp j q (q.length : Int) (i : Int) t.f0 t.f1 t.f2 t.f3 (hN i hu) (eT t i) x s (by omega) hx
  obtain ⟨h3, h4⟩ := ih (i + 1) (x * upS q M i ^ eT t i) (s + eT t i) (by omega) (by omega) h1
  simp only [prodU, sumE]
  rw [Int.mul_assoc, Nat.add_assoc] at h3
  refine ⟨h3, fun r hr => Ev.step (fun k => rfl) ?_⟩
  simp only [spec_vaSum.l2]
  refine Ev_if (fun _ => Ev_if (fun _ => Ev_if (fun _ => ?_) (fun h => by omega)) (fun h => by omega)) (fun h => by omega)
  refine Ev.bind (dyAt_ev _ _ M (hK i hu) (by omega) (hS i hu)) (Ev_bindS (poPower_eq t _) ?_)
  have he : pwT t (i : Int) = ((eT t i : Nat) : Int) := by
   have : 0 ≤ pwT t (i : Int) := by unfold pwT; split; omega; split <;> omega
   unfold eT; omega
  rw [he]
  refine h2 r ?_
  rw [wrap_next i (by omega)]
  refine h4 r ?_
  rw [Int.mul_assoc]; exact hr
def termS (q : List S44) (M : Int) (t : S107) : Int := t.f0 * prodU (upS q M) t 0 q.length * (2 ^ M.toNat) ^ (4 - (t.f1 + t.f2 + t.f3).toNat)
def termI (q : List S44) (t : S107) : Int := t.f0 * 2 ^ (9 * (4 - (t.f1 + t.f2 + t.f3).toNat)) * prodU (upI q) t 0 3
theorem sc_l2 (q : List S44) (sm : Int) (p : List S107) (lp j : Int) (u : Nat) (x1 x2 x3 : Int) (E : Nat) (hE : E ≤ 4) (hu : 0 < E → u < q.length ∧ (0 ≤ (rd_T44 q (u : Int)).f1 ∧ (rd_T44 q (u : Int)).f1 ≤ 9) ∧ ((-4096 : Int) ≤ upI q u ∧ upI q u ≤ 4096)) (m : Nat) : ∀ (z : Nat) (c : Int) (s : Nat), z + m = E → s + m ≤ 4 → (-bd s ≤ c ∧ c ≤ bd s) →
 (-bd (s + m) ≤ c * upI q u ^ m ∧ c * upI q u ^ m ≤ bd (s + m)) ∧ ∀ r, Ev (fun k => impl_scaledAt.l1 k q sm (c * upI q u ^ m) p lp j (wrap64 ((u : Int) + 1)) x1 x2 x3) r → Ev (fun k => impl_scaledAt.l2 k q sm c (u : Int) p lp j (u : Int) (E : Int) (z : Int) x1 x2 x3) r := by
 induction m with
 | zero =>
  intro z c s hz hs hc
  rw [Int.pow_zero, Int.mul_one]
  refine ⟨hc, fun r hr => Ev.step (fun k => rfl) ?_⟩
  simp only [impl_scaledAt.l2]
  exact Ev_if (fun h => by omega) (fun _ => hr)
 | succ m ih =>
  intro z c s hz hs hc
  obtain ⟨u1, u2, u3⟩ := hu (by omega)
  obtain ⟨h1, h2⟩ := bd_step c (upI q u) s (by omega) hc u3
  obtain ⟨h3, h4⟩ := ih (z + 1) (c * upI q u) (s + 1) (by omega) (by omega) h1
  have ee : c * upI q u * upI q u ^ m = c * upI q u ^ (m + 1) := by rw [Int.pow_succ, Int.mul_assoc, Int.mul_comm (upI q u)]
  rw [ee, show s + 1 + m = s + (m + 1) by omega] at h3
  rw [ee] at h4
  refine ⟨h3, fun r hr => Ev.step (fun k => rfl) ?_⟩
  have w9 : wrap64 (9 - (rd_T44 q (u : Int)).f1) = 9 - (rd_T44 q (u : Int)).f1 := by unfold wrap64; omega
  have hsh : shl .i64 (rd_T44 q (u : Int)).f0 (9 - (rd_T44 q (u : Int)).f1) = upI q u := by
   unfold shl
   rw [Nat.min_eq_left (by show (9 - (rd_T44 q (u : Int)).f1).toNat ≤ 64; omega), i64_w]
   change wrap64 (upI q u) = upI q u
   generalize upI q u = y at *
   unfold wrap64; omega
  simp only [impl_scaledAt.l2]
  rw [w9, hsh, h2, wrap_next z (by omega)]
  exact Ev_if (fun _ => Ev_if (fun _ => Ev_if (fun _ => Ev_if (fun _ => h4 r hr) (fun h => by omega)) (fun h => by omega)) (fun h => by omega)) (fun h => by omega)
theorem sc_l1 (q : List S44) (sm : Int) (p : List S107) (lp j : Int) (t : S107) (ht : hasB t = true) (hu : ∀ u : Nat, u < 3 → 0 < eT t u → u < q.length ∧ (0 ≤ (rd_T44 q (u : Int)).f1 ∧ (rd_T44 q (u : Int)).f1 ≤ 9) ∧ ((-4096 : Int) ≤ upI q u ∧ upI q u ≤ 4096)) (m : Nat) : ∀ (u : Nat) (c : Int) (s : Nat), u + m = 3 → s + sumE t u m ≤ 4 → (-bd s ≤ c ∧ c ≤ bd s) →
 (-bd (s + sumE t u m) ≤ c * prodU (upI q) t u m ∧ c * prodU (upI q) t u m ≤ bd (s + sumE t u m)) ∧ ∀ r, Ev (fun k => impl_scaledAt.l0 k q (wrap64 (sm + c * prodU (upI q) t u m)) p lp (wrap64 (j + 1))) r → Ev (fun k => impl_scaledAt.l1 k q sm c p lp j (u : Int) t.f1 t.f2 t.f3) r := by
 obtain ⟨b1, b2, b3, _⟩ := hasB_bounds t ht
 induction m with
 | zero =>
  intro u c s hz hs hc
  simp only [prodU, sumE, Int.mul_one, Nat.add_zero]
  refine ⟨hc, fun r hr => Ev.step (fun k => rfl) ?_⟩
  simp only [impl_scaledAt.l1]
  exact Ev_if (fun h => by omega) (fun _ => hr)
 | succ m ih =>
  intro u c s hz hs hc
  simp only [sumE] at hs
  have hp : 0 ≤ pwT t (u : Int) ∧ pwT t (u : Int) ≤ 4 := by unfold pwT; split; omega; split <;> omega
  have he : ix3 t.f1 t.f2 t.f3 (u : Int) = ((eT t u : Nat) : Int) := by
   change pwT t (u : Int) = _
   unfold eT; omega
  have hE : eT t u ≤ 4 := by unfold eT; omega
  obtain ⟨h1, h2⟩ := sc_l2 q sm p lp j u t.f1 t.f2 t.f3 (eT t u) hE (hu u (by omega)) (eT t u) 0 c s (by omega) (by omega) hc
  obtain ⟨h3, h4⟩ := ih (u + 1) (c * upI q u ^ eT t u) (s + eT t u) (by omega) (by omega) h1
  simp only [prodU, sumE]
  rw [Int.mul_assoc, Nat.add_assoc] at h3
  refine ⟨h3, fun r hr => Ev.step (fun k => rfl) ?_⟩
  simp only [impl_scaledAt.l1]
  rw [he]
  refine Ev_if (fun _ => Ev_if (fun _ => ?_) (fun h => by omega)) (fun h => by omega)
  refine h2 r ?_
  rw [wrap_next u (by omega)]
  refine h4 r ?_
  rw [Int.mul_assoc]; exact hr
theorem term_rel (q : List S44) (M : Int) (hM : 0 ≤ M ∧ M ≤ 9) (hq : 1 ≤ q.length ∧ q.length ≤ 3) (hK : ∀ u : Nat, u < q.length → 0 ≤ (rd_T44 q (u : Int)).f1 ∧ (rd_T44 q (u : Int)).f1 ≤ M) (t : S107) (ht : hasB t = true) (hz : ∀ u : Nat, q.length ≤ u → u < 3 → pwT t (u : Int) ≤ 0) :
 termI q t = termS q M t * (2 ^ (9 - M).toNat) ^ 4 := by
 obtain ⟨b1, b2, b3, b4⟩ := hasB_bounds t ht
 obtain ⟨d1, d2⟩ := sumE_deg t ht q.length hq hz
 obtain ⟨D, hD⟩ : ∃ D, D = (t.f1 + t.f2 + t.f3).toNat := ⟨_, rfl⟩
 have hD4 : D ≤ 4 := by omega
 unfold termI termS
 rw [← hD] at d1 ⊢
 have h1 := prodU_scale (upS q M) (upI q) t (2 ^ (9 - M).toNat) q.length 0 (fun u _ h2 => by
  obtain ⟨k0, k1⟩ := hK u (by omega)
  unfold upI upS
  rw [Int.mul_assoc, ← Int.pow_add, show (M - (rd_T44 q (u : Int)).f1).toNat + (9 - M).toNat = (9 - (rd_T44 q (u : Int)).f1).toNat by omega])
 rw [d2, h1, d1]
 have e1 : (2 : Int) ^ (9 * (4 - D)) = (2 ^ M.toNat) ^ (4 - D) * (2 ^ (9 - M).toNat) ^ (4 - D) := by
  rw [Int.pow_mul, ← Int.mul_pow, ← Int.pow_add, show M.toNat + (9 - M).toNat = 9 by omega]
 have e2 : ((2 : Int) ^ (9 - M).toNat) ^ 4 = (2 ^ (9 - M).toNat) ^ (4 - D) * (2 ^ (9 - M).toNat) ^ D := by
  rw [← Int.pow_add, show 4 - D + D = 4 by omega]
 rw [e1, e2]
 generalize ((2 : Int) ^ M.toNat) ^ (4 - D) = a
 generalize ((2 : Int) ^ (9 - M).toNat) ^ (4 - D) = b
 generalize ((2 : Int) ^ (9 - M).toNat) ^ D = c
 generalize prodU (upS q M) t 0 q.length = e
 grind
theorem first_bound (C : Int) (hC : (-1000 : Int) ≤ C ∧ C ≤ 1000) (m : Nat) (hm : m ≤ 4) : -bd m ≤ C * 2 ^ (9 * m) ∧ C * 2 ^ (9 * m) ≤ bd m := by
 have h0 := pow1 (9 * m)
 have h := absmul C (2 ^ (9 * m)) 1000 (2 ^ (9 * m)) hC (by omega)
 have h2 : 1000 * (2 : Int) ^ (9 * m) ≤ bd m := by
  unfold bd
  obtain rfl | rfl | rfl | rfl | rfl : m = 0 ∨ m = 1 ∨ m = 2 ∨ m = 3 ∨ m = 4 := by omega
  all_goals decide
 omega
theorem bd4 : bd 4 = 281474976710656000 := by decide
theorem wrap_sum4 (S T : Int) (j : Nat) (hj : j < 20) (hS : -(281474976710656000 * (j : Int)) ≤ S ∧ S ≤ 281474976710656000 * (j : Int)) (hT : (-281474976710656000 : Int) ≤ T ∧ T ≤ 281474976710656000) : wrap64 (S + T) = S + T ∧ (-(281474976710656000 * ((j + 1 : Nat) : Int)) ≤ S + T ∧ S + T ≤ 281474976710656000 * ((j + 1 : Nat) : Int)) := by
 unfold wrap64; omega
theorem termS_ev (q : List S44) (M : Int) (hM : 0 ≤ M ∧ M ≤ 9) (hq : 1 ≤ q.length ∧ q.length ≤ 3) (hK : ∀ u : Nat, u < q.length → 0 ≤ (rd_T44 q (u : Int)).f1 ∧ (rd_T44 q (u : Int)).f1 ≤ M) (hN : ∀ u : Nat, u < q.length → (-4096 : Int) ≤ upS q M u ∧ upS q M u ≤ 4096)
 (p : List S107) (lp j S : Int) (t : S107) (ht : tB t = true) (hz : ∀ u : Nat, q.length ≤ u → u < 3 → pwT t (u : Int) ≤ 0) :
 ((-281474976710656000 : Int) ≤ termS q M t ∧ termS q M t ≤ 281474976710656000) ∧ ∀ r, Ev (fun k => spec_vaSum.l1 k q M (wrap64 (S + termS q M t)) p lp (wrap64 (j + 1))) r → Ev (fun k => spec_vaSum.l2 k q M S t.f0 p lp j q (q.length : Int) 0 t.f0 t.f1 t.f2 t.f3) r := by
 obtain ⟨b0, b1, b2, b3, b4⟩ := tB_bounds t ht
 have hA : hasB t = true := by unfold tB at ht; simp only [Bool.and_eq_true] at ht; exact ht.2
 obtain ⟨d1, _⟩ := sumE_deg t hA q.length hq hz
 obtain ⟨D, hD⟩ : ∃ D, D = (t.f1 + t.f2 + t.f3).toNat := ⟨_, rfl⟩
 have hD4 : D ≤ 4 := by omega
 rw [← hD] at d1
 obtain ⟨a1, a2⟩ := vs_l2 q M S hM hq.2 hK hN (fun u hu => by have := hN u hu; omega) p lp j t hA q.length 0 t.f0 0 (by omega) (by omega) (by unfold bd; omega)
 rw [d1, Nat.zero_add] at a1
 obtain ⟨a3, a4⟩ := vs_l4 q M S hM p lp j (4 - D) (t.f0 * prodU (upS q M) t 0 q.length) D (by omega) a1 (by omega)
 rw [show D + (4 - D) = 4 by omega, bd4] at a3
 have e : termS q M t = t.f0 * prodU (upS q M) t 0 q.length * (2 ^ M.toNat) ^ (4 - D) := by unfold termS; rw [hD]
 rw [e]
 refine ⟨a3, fun r hr => a2 r ?_⟩
 rw [show t.f1 + t.f2 + t.f3 = 4 - ((4 - D : Nat) : Int) by omega]
 exact a4 r hr
theorem termI_ev (q : List S44) (hq : 1 ≤ q.length ∧ q.length ≤ 3) (hK : ∀ u : Nat, u < q.length → 0 ≤ (rd_T44 q (u : Int)).f1 ∧ (rd_T44 q (u : Int)).f1 ≤ 9) (hN : ∀ u : Nat, u < q.length → (-4096 : Int) ≤ upI q u ∧ upI q u ≤ 4096)
 (p : List S107) (lp j S : Int) (t : S107) (ht : tB t = true) (hz : ∀ u : Nat, q.length ≤ u → u < 3 → pwT t (u : Int) ≤ 0) :
 ((-281474976710656000 : Int) ≤ termI q t ∧ termI q t ≤ 281474976710656000) ∧ (shl .i64 t.f0 (wrap64 (9 * wrap64 (4 - (t.f1 + t.f2 + t.f3)))) = t.f0 * 2 ^ (9 * (4 - (t.f1 + t.f2 + t.f3).toNat))) ∧ ∀ r, Ev (fun k => impl_scaledAt.l0 k q (wrap64 (S + termI q t)) p lp (wrap64 (j + 1))) r → Ev (fun k => impl_scaledAt.l1 k q S (t.f0 * 2 ^ (9 * (4 - (t.f1 + t.f2 + t.f3).toNat))) p lp j 0 t.f1 t.f2 t.f3) r := by
 obtain ⟨b0, b1, b2, b3, b4⟩ := tB_bounds t ht
 have hA : hasB t = true := by unfold tB at ht; simp only [Bool.and_eq_true] at ht; exact ht.2
 obtain ⟨d1, _⟩ := sumE_deg t hA 3 ⟨by omega, by omega⟩ (fun u h1 h2 => by omega)
 have hc := first_bound t.f0 b0 (4 - (t.f1 + t.f2 + t.f3).toNat) (by omega)
 obtain ⟨c1, c2⟩ := sc_l1 q S p lp j t hA (fun u h3 he => by
  by_cases hu : u < q.length
  ·exact ⟨hu, hK u hu, hN u hu⟩
  ·have := hz u (by omega) h3
   unfold eT at he; omega) 3 0 (t.f0 * 2 ^ (9 * (4 - (t.f1 + t.f2 + t.f3).toNat))) (4 - (t.f1 + t.f2 + t.f3).toNat) rfl (by omega) hc
 rw [d1, show 4 - (t.f1 + t.f2 + t.f3).toNat + (t.f1 + t.f2 + t.f3).toNat = 4 by omega, bd4] at c1
 refine ⟨c1, ?_, c2⟩
 have w1 : wrap64 (9 * wrap64 (4 - (t.f1 + t.f2 + t.f3))) = 9 * (4 - (t.f1 + t.f2 + t.f3)) := by
  rw [show wrap64 (4 - (t.f1 + t.f2 + t.f3)) = 4 - (t.f1 + t.f2 + t.f3) by unfold wrap64; omega]; unfold wrap64; omega
 rw [w1]
 unfold shl
 rw [Nat.min_eq_left (by show (9 * (4 - (t.f1 + t.f2 + t.f3))).toNat ≤ 64; omega), i64_w, show (9 * (4 - (t.f1 + t.f2 + t.f3))).toNat = 9 * (4 - (t.f1 + t.f2 + t.f3).toNat) by omega]
 have h4 : bd (4 - (t.f1 + t.f2 + t.f3).toNat) ≤ 281474976710656000 := by
  obtain h | h | h | h | h : 4 - (t.f1 + t.f2 + t.f3).toNat = 0 ∨ 4 - (t.f1 + t.f2 + t.f3).toNat = 1 ∨ 4 - (t.f1 + t.f2 + t.f3).toNat = 2 ∨ 4 - (t.f1 + t.f2 + t.f3).toNat = 3 ∨ 4 - (t.f1 + t.f2 + t.f3).toNat = 4 := by omega
  all_goals (rw [h]; decide)
 generalize t.f0 * 2 ^ (9 * (4 - (t.f1 + t.f2 + t.f3).toNat)) = y at *
 unfold wrap64; omega
theorem w94 (x : Int) (h : 0 ≤ x ∧ x ≤ 4) : 0 ≤ wrap64 (9 * wrap64 (4 - x)) := by
 rw [show wrap64 (4 - x) = 4 - x by unfold wrap64; omega, show wrap64 (9 * (4 - x)) = 9 * (4 - x) by unfold wrap64; omega]; omega
theorem both_sums (q : List S44) (M : Int) (hM : 0 ≤ M ∧ M ≤ 9) (hq : 1 ≤ q.length ∧ q.length ≤ 3) (hK : ∀ u : Nat, u < q.length → 0 ≤ (rd_T44 q (u : Int)).f1 ∧ (rd_T44 q (u : Int)).f1 ≤ M) (hN : ∀ u : Nat, u < q.length → (-4096 : Int) ≤ upS q M u ∧ upS q M u ≤ 4096) (hNI : ∀ u : Nat, u < q.length → (-4096 : Int) ≤ upI q u ∧ upI q u ≤ 4096)
 (p : List S107) (h20 : p.length ≤ 20) (hok : ∀ j, j < p.length → okT p j) (hz : ∀ j, j < p.length → ∀ u : Nat, q.length ≤ u → u < 3 → pwT (rd_T107 p (j : Int)) (u : Int) ≤ 0) (d : Nat) : ∀ (j : Nat) (S SI : Int), j ≤ p.length → p.length - j = d → SI = S * (2 ^ (9 - M).toNat) ^ 4 →
 (-(281474976710656000 * (j : Int)) ≤ S ∧ S ≤ 281474976710656000 * (j : Int)) → (-(281474976710656000 * (j : Int)) ≤ SI ∧ SI ≤ 281474976710656000 * (j : Int)) →
 ∃ R RI, RI = R * (2 ^ (9 - M).toNat) ^ 4 ∧ (-(281474976710656000 * (p.length : Int)) ≤ RI ∧ RI ≤ 281474976710656000 * (p.length : Int)) ∧ Ev (fun k => spec_vaSum.l1 k q M S p (p.length : Int) (j : Int)) (R, wrap64 (4 * M)) ∧ Ev (fun k => impl_scaledAt.l0 k q SI p (p.length : Int) (j : Int)) RI := by
 induction d with
 | zero =>
  intro j S SI h1 hd hR hS hSI
  have e : j = p.length := by omega
  subst e
  refine ⟨S, SI, hR, hSI, Ev.step (fun k => rfl) ?_, Ev.step (fun k => rfl) ?_⟩
  ·simp only [spec_vaSum.l1]
   exact Ev_if (fun h => by omega) (fun _ => Ev.now _)
  ·simp only [impl_scaledAt.l0]
   exact Ev_if (fun h => by omega) (fun _ => Ev.now _)
 | succ d ih =>
  intro j S SI h1 hd hR hS hSI
  have hj : j < p.length := by omega
  have hT := (hok j hj).1
  obtain ⟨b0, b1, b2, b3, b4⟩ := tB_bounds _ hT
  have hA : hasB (rd_T107 p (j : Int)) = true := by unfold tB at hT; simp only [Bool.and_eq_true] at hT; exact hT.2
  have rel := term_rel q M hM hq hK _ hA (hz j hj)
  obtain ⟨s1, s2⟩ := termS_ev q M hM hq hK hN p (p.length : Int) (j : Int) S _ hT (hz j hj)
  obtain ⟨i1, i2, i3⟩ := termI_ev q hq (fun u hu => ⟨(hK u hu).1, by have := (hK u hu).2; omega⟩) hNI p (p.length : Int) (j : Int) SI _ hT (hz j hj)
  obtain ⟨w1, w2⟩ := wrap_sum4 S _ j (by omega) hS s1
  obtain ⟨w3, w4⟩ := wrap_sum4 SI _ j (by omega) hSI i1
  rw [w1, wrap_next j (by omega)] at s2
  rw [w3, wrap_next j (by omega)] at i3
  obtain ⟨R, RI, r1, r2, r3, r4⟩ := ih (j + 1) _ _ (by omega) (by omega) (by rw [hR, rel, Int.add_mul]) w2 w4
  refine ⟨R, RI, r1, r2, Ev.step (fun k => rfl) ?_, Ev.step (fun k => rfl) ?_⟩
  ·simp only [spec_vaSum.l1]
   exact Ev_if (fun _ => Ev_if (fun _ => Ev_if (fun _ => s2 _ r3) (fun h => by omega)) (fun h => by omega)) (fun h => by omega)
  ·simp only [impl_scaledAt.l0, impl_Term_degree.f, impl_Term_exponents.f, Option.bind_some]
   rw [sum3 _ _ _ b1 b2 b3, i2]
   refine Ev_if (fun _ => Ev_if (fun _ => Ev_if (fun _ => Ev_if (fun _ => i3 _ r4) (fun h => ?_)) (fun h => by omega)) (fun h => by omega)) (fun h => by omega)
   exact absurd (w94 _ ⟨by omega, b4⟩) h
theorem isPlaces_eq (a : Int) : impl_isPlaces.f a = some (decide (0 ≤ a ∧ a ≤ 24)) := by
 unfold impl_isPlaces.f; rw [inside_eq]; rfl
def dyB (n k : Int) : Bool := if decide (0 ≤ k ∧ k ≤ 24) then (if decide ((-1099511627776) ≤ n ∧ n ≤ 1099511627776) then (if k = 0 then true else (Int.tmod n 2 != 0)) else false) else false
theorem dyGood_eq (n k : Int) : spec_dyGood.f n k = some (dyB n k) := by
 unfold spec_dyGood.f dyB; simp only [l1In_eq, Option.bind_some]
 split <;> (try split) <;> (try split) <;> simp_all
theorem isDyadic_eq (n k : Int) : impl_isDyadic.f n k = some (dyB n k) := by
 unfold impl_isDyadic.f dyB; simp only [isPlaces_eq, inside_eq, Option.bind_some]
 split <;> (try split) <;> (try split) <;> simp_all
theorem dyB_range (n k : Int) (h : dyB n k = true) : (0 ≤ k ∧ k ≤ 24) ∧ ((-1099511627776) ≤ n ∧ n ≤ 1099511627776) := by
 unfold dyB at h
 by_cases h1 : 0 ≤ k ∧ k ≤ 24
 ·rw [decide_eq_true h1, if_pos rfl] at h
  by_cases h2 : (-1099511627776) ≤ n ∧ n ≤ 1099511627776
  ·exact ⟨h1, h2⟩
  ·rw [decide_eq_false h2] at h; simp at h
 ·rw [decide_eq_false h1] at h; simp at h
def boxNum (n k : Int) : Bool := dyB n k && (decide (k ≤ 9) && decide (-8 * 2 ^ k.toNat ≤ n ∧ n ≤ 8 * 2 ^ k.toNat))
theorem shl8 (c k : Int) (hk : 0 ≤ k ∧ k ≤ 9) (hc : c = 8 ∨ c = -8) : shl .i64 c k = c * 2 ^ k.toNat := by
 have h1 := pow1 k.toNat
 have h2 := pow_le2 k.toNat 9 (by omega)
 unfold shl
 rw [Nat.min_eq_left (by show k.toNat ≤ 64; omega), i64_w]
 rcases hc with rfl | rfl <;> (unfold wrap64; omega)
theorem isBoxNumber_eq (n k : Int) : impl_isBoxNumber.f n k = some (boxNum n k) := by
 unfold impl_isBoxNumber.f boxNum
 rw [isDyadic_eq, Option.bind_some]
 cases hd : dyB n k with
 | false => rw [if_neg (by decide)]; rfl
 | true =>
  rw [if_pos rfl]
  obtain ⟨⟨k0, k1⟩, n0, n1⟩ := dyB_range n k hd
  by_cases h9 : k ≤ 9
  ·rw [if_pos h9, if_pos k0, shl8 _ k ⟨k0, h9⟩ (.inl rfl), shl8 _ k ⟨k0, h9⟩ (.inr rfl), inside_eq, decide_eq_true h9]; rfl
  ·rw [if_neg h9, decide_eq_false h9]; rfl
theorem dv_eight (n k : Int) (hk : 0 ≤ k ∧ k ≤ 24) (c : Int) : dv n k - dv c 0 = 2 ^ (24 - k.toNat) * (n - c * 2 ^ k.toNat) := by
 unfold dv
 have e := pow_split 24 k.toNat (by omega)
 rw [show (0 : Int).toNat = 0 by rfl, Nat.sub_zero, e]; grind
theorem num_low (n k : Int) (hn : -1099511627776 ≤ n ∧ n ≤ 1099511627776) (hk : 0 ≤ k ∧ k ≤ 24) : Ev (fun z => spec_dyCmp.f z n k (-8) 0) (sgnI (n - (-8) * 2 ^ k.toNat)) := by
 have h := dyCmp_ev n k (-8) 0 hn hk ⟨by omega, by omega⟩ ⟨by omega, by omega⟩
 rw [dv_eight n k hk, sgn_mul _ _ (by have := pow1 (24 - k.toNat); omega)] at h; exact h
theorem num_high (n k : Int) (hn : -1099511627776 ≤ n ∧ n ≤ 1099511627776) (hk : 0 ≤ k ∧ k ≤ 24) : Ev (fun z => spec_dyCmp.f z 8 0 n k) (sgnI (8 * 2 ^ k.toNat - n)) := by
 have h := dyCmp_ev 8 0 n k ⟨by omega, by omega⟩ ⟨by omega, by omega⟩ hn hk
 have e : dv 8 0 - dv n k = 2 ^ (24 - k.toNat) * (8 * 2 ^ k.toNat - n) := by have := dv_eight n k hk 8; grind
 rw [e, sgn_mul _ _ (by have := pow1 (24 - k.toNat); omega)] at h; exact h
theorem sgn_lt (x : Int) : sgnI x < 0 ↔ x < 0 := by unfold sgnI; split <;> (try split) <;> omega
def ptNum (x : S44) : Bool := boxNum x.f0 x.f1
theorem rdT_get (l : List S44) (i : Nat) (h : i < l.length) : rd_T44 l (i : Int) = l[i] := by simp [rd_T44, h]
theorem vaPoint_l0 (x0 l : List S44) (hl : l.length ≤ 1000000) (n : Nat) : ∀ i : Nat, i ≤ l.length → l.length - i = n → Ev (fun z => spec_vaPoint.l0 z x0 l (l.length : Int) (i : Int)) ((l.drop i).all ptNum && decide (1 ≤ (x0.length : Int) ∧ (x0.length : Int) ≤ 3)) := by
 induction n with
 | zero =>
  intro i hi hn
  refine Ev.step (fun z => rfl) ?_
  simp only [spec_vaPoint.l0]
  refine Ev_if (fun h => by omega) (fun _ => Ev_bindS (l1In_eq _ _ _) (Ev_eq (Ev.now _) ?_))
  rw [List.drop_eq_nil_of_le (by omega)]; simp
 | succ n ih =>
  intro i hi hn
  have hlt : i < l.length := by omega
  have j := ih (i + 1) (by omega) (by omega)
  rw [List.drop_eq_getElem_cons hlt, List.all_cons]
  obtain ⟨q, hq⟩ : ∃ q, l[i] = q := ⟨_, rfl⟩
  rw [hq]
  refine Ev.step (fun z => rfl) ?_
  simp only [spec_vaPoint.l0]
  rw [rdT_get l i hlt, hq, wrap_next i (by omega)]
  refine Ev_if (fun _ => Ev_if (fun _ => Ev_if (fun _ => Ev_bindS (dyGood_eq _ _) ?_) (fun h => by omega)) (fun h => by omega)) (fun h => by omega)
  unfold ptNum boxNum
  cases hd : dyB q.f0 q.f1 with
  | false => exact Ev_if (fun h => by cases h) (fun _ => Ev_eq (Ev.now _) (by simp))
  | true =>
   obtain ⟨⟨k0, k1⟩, n0, n1⟩ := dyB_range _ _ hd
   refine Ev_if (fun _ => Ev_if (fun h9 => ?_) (fun h9 => ?_)) (fun h => absurd rfl h)
   ·refine Ev_eq (Ev.now _) ?_
    rw [decide_eq_false (show ¬ q.f1 ≤ 9 by omega)]; simp
   ·rw [decide_eq_true (show q.f1 ≤ 9 by omega)]
    refine Ev_bindS rfl (Ev.bind (num_low q.f0 q.f1 ⟨n0, n1⟩ ⟨k0, k1⟩) (Ev_if (fun h => ?_) (fun h => ?_)))
    ·rw [sgn_lt] at h
     refine Ev_eq (Ev.now _) ?_
     rw [decide_eq_false (show ¬ (-8 * 2 ^ q.f1.toNat ≤ q.f0 ∧ q.f0 ≤ 8 * 2 ^ q.f1.toNat) by omega)]; simp
    ·rw [sgn_lt] at h
     refine Ev_bindS rfl (Ev.bind (num_high q.f0 q.f1 ⟨n0, n1⟩ ⟨k0, k1⟩) (Ev_if (fun h2 => ?_) (fun h2 => ?_)))
     ·rw [sgn_lt] at h2
      refine Ev_eq (Ev.now _) ?_
      rw [decide_eq_false (show ¬ (-8 * 2 ^ q.f1.toNat ≤ q.f0 ∧ q.f0 ≤ 8 * 2 ^ q.f1.toNat) by omega)]; simp
     ·rw [sgn_lt] at h2
      rw [decide_eq_true (show (-8 * 2 ^ q.f1.toNat ≤ q.f0 ∧ q.f0 ≤ 8 * 2 ^ q.f1.toNat) by omega)]
      refine Ev_eq j ?_
      simp only [Bool.and_self, Bool.true_and]; rfl
theorem vaPoint_ev (l : List S44) (hl : l.length ≤ 1000000) : Ev (fun z => spec_vaPoint.f z l) (l.all ptNum && decide (1 ≤ (l.length : Int) ∧ (l.length : Int) ≤ 3)) := by
 have h := vaPoint_l0 l l hl l.length 0 (by omega) (by omega)
 rw [List.drop_zero] at h; exact h
theorem cfPoint_eq (l : List S44) : impl_Dyadic_86__impl_isBoxPoint_1.f l = some (!(l.all ptNum)) := by
 induction l with
 | nil => rfl
 | cons x q ih =>
  have h1 : impl_isBoxPoint_1.f x.f0 x.f1 = some (!(boxNum x.f0 x.f1)) := by unfold impl_isBoxPoint_1.f; rw [isBoxNumber_eq]; rfl
  simp only [impl_Dyadic_86__impl_isBoxPoint_1.f]
  rw [h1, Option.bind_some, List.all_cons, ih]
  show _ = some (!(boxNum x.f0 x.f1 && q.all ptNum))
  cases boxNum x.f0 x.f1 <;> simp
theorem isBoxPoint_eq (l : List S44) : impl_isBoxPoint.f l = some (decide (1 ≤ (l.length : Int) ∧ (l.length : Int) ≤ 3) && l.all ptNum) := by
 unfold impl_isBoxPoint.f
 rw [inside_eq, Option.bind_some]
 cases decide (1 ≤ (l.length : Int) ∧ (l.length : Int) ≤ 3) with
 | false => rfl
 | true => rw [if_pos rfl, cfPoint_eq]; simp
theorem most_l0 (q : List S44) (p : List S107) (hq : q.length ≤ 3) (hK : ∀ u : Nat, u < q.length → 0 ≤ (rd_T44 q (u : Int)).f1 ∧ (rd_T44 q (u : Int)).f1 ≤ 9) (d : Nat) : ∀ (i : Nat) (acc : Int), i ≤ q.length → q.length - i = d → (0 ≤ acc ∧ acc ≤ 9) → (∀ u : Nat, u < i → (rd_T44 q (u : Int)).f1 ≤ acc) →
 ∃ M : Int, (0 ≤ M ∧ M ≤ 9) ∧ (∀ u : Nat, u < q.length → (rd_T44 q (u : Int)).f1 ≤ M) ∧ ∀ r, Ev (fun k => spec_vaSum.l1 k q M 0 p (p.length : Int) 0) r → Ev (fun k => spec_vaSum.l0 k p q acc q (q.length : Int) (i : Int)) r := by
 induction d with
 | zero =>
  intro i acc h1 hd ha hm
  refine ⟨acc, ha, fun u hu => hm u (by omega), fun r hr => Ev.step (fun k => rfl) ?_⟩
  simp only [spec_vaSum.l0]
  exact Ev_if (fun h => by omega) (fun _ => hr)
 | succ d ih =>
  intro i acc h1 hd ha hm
  obtain ⟨k0, k1⟩ := hK i (by omega)
  obtain ⟨M, m1, m2, m3⟩ := ih (i + 1) (if acc > (rd_T44 q (i : Int)).f1 then acc else (rd_T44 q (i : Int)).f1) (by omega) (by omega) (by split <;> omega) (fun u hu => by
   by_cases hi : u = i
   ·subst hi; split <;> omega
   ·have := hm u (by omega)
    split <;> omega)
  refine ⟨M, m1, m2, fun r hr => Ev.step (fun k => rfl) ?_⟩
  simp only [spec_vaSum.l0]
  rw [wrap_next i (by omega)]
  exact Ev_if (fun _ => Ev_if (fun _ => Ev_if (fun _ => Ev_bindS (l1Most_eq _ _) (m3 r hr)) (fun h => by omega)) (fun h => by omega)) (fun h => by omega)
theorem boxNum_facts (n k : Int) (h : boxNum n k = true) : (0 ≤ k ∧ k ≤ 9) ∧ (-8 * 2 ^ k.toNat ≤ n ∧ n ≤ 8 * 2 ^ k.toNat) := by
 unfold boxNum at h
 simp only [Bool.and_eq_true, decide_eq_true_eq] at h
 obtain ⟨h1, h2, h3⟩ := h
 exact ⟨⟨(dyB_range n k h1).1.1, h2⟩, h3⟩
theorem sums_ev (q : List S44) (hq : 1 ≤ q.length ∧ q.length ≤ 3) (hp : ∀ u : Nat, u < q.length → boxNum (rd_T44 q (u : Int)).f0 (rd_T44 q (u : Int)).f1 = true) (p : List S107) (h20 : p.length ≤ 20) (hok : ∀ j, j < p.length → okT p j) (hz : ∀ j, j < p.length → ∀ u : Nat, q.length ≤ u → u < 3 → pwT (rd_T107 p (j : Int)) (u : Int) ≤ 0) :
 ∃ M R RI, (0 ≤ M ∧ M ≤ 9) ∧ RI = R * (2 ^ (9 - M).toNat) ^ 4 ∧ ((-5629499534213120000 : Int) ≤ RI ∧ RI ≤ 5629499534213120000) ∧ Ev (fun k => spec_vaSum.f k p q) (R, wrap64 (4 * M)) ∧ Ev (fun k => impl_scaledAt.f k p q) RI := by
 have hK := fun (u : Nat) (hu : u < q.length) => (boxNum_facts _ _ (hp u hu)).1
 have hB := fun (u : Nat) (hu : u < q.length) => (boxNum_facts _ _ (hp u hu)).2
 obtain ⟨M, m1, m2, m3⟩ := most_l0 q p hq.2 hK q.length 0 0 (by omega) (by omega) ⟨by omega, by omega⟩ (fun u hu => by omega)
 obtain ⟨R, RI, r1, r2, r3, r4⟩ := both_sums q M m1 hq (fun u hu => ⟨(hK u hu).1, m2 u hu⟩) (fun u hu => up_bound _ _ M m1 ⟨(hK u hu).1, m2 u hu⟩ (hB u hu)) (fun u hu => up_bound _ _ 9 ⟨by omega, by omega⟩ (hK u hu) (hB u hu)) p h20 hok hz p.length 0 0 0 (by omega) (by omega) (by simp) ⟨by omega, by omega⟩ ⟨by omega, by omega⟩
 refine ⟨M, R, RI, m1, r1, by omega, ?_, ?_⟩
 ·simp only [spec_vaSum.f]; exact m3 _ r3
 ·simp only [impl_scaledAt.f]; exact r4
theorem all_rd (q : List S44) (h : q.all ptNum = true) (u : Nat) (hu : u < q.length) : boxNum (rd_T44 q (u : Int)).f0 (rd_T44 q (u : Int)).f1 = true := by
 rw [rdT_get q u hu]
 exact List.all_eq_true.1 h _ (List.getElem_mem hu)
theorem rdL3_at (xs : List (List S107)) (j : Nat) (h : j < xs.length) : rd_L3 xs (j : Int) = xs[j] := by simp [rd_L3, h]
def fitP (p : List S107) (n : Nat) : Prop := p.length ≤ 20 ∧ (∀ j, j < p.length → okT p j) ∧ ∀ j, j < p.length → ∀ u : Nat, n ≤ u → u < 3 → pwT (rd_T107 p (j : Int)) (u : Int) ≤ 0
theorem sysDeg_l1 (s : List (List S107)) (p : List S107) (hl : p.length ≤ 1000000) (i : Nat) (r : Bool) (hr : Ev (fun k => spec_poSystem.l0 k s s (s.length : Int) (wrap64 ((i : Int) + 1))) r) (d : Nat) : ∀ kk : Nat, 3 - kk = d → kk ≤ 1000000 →
 ∃ v : Bool, Ev (fun k => spec_poSystem.l1 k s p (kk : Int) s (s.length : Int) (i : Int)) (v && r) ∧ (v = true ↔ ∀ u : Nat, kk ≤ u → u < 3 → ∀ j, j < p.length → pwT (rd_T107 p (j : Int)) (u : Int) ≤ 0) := by
 induction d with
 | zero =>
  intro kk hd hk
  refine ⟨true, Ev.step (fun k => rfl) ?_, ⟨fun _ u h2 h3 => by omega, fun _ => rfl⟩⟩
  simp only [spec_poSystem.l1]
  exact Ev_if (fun h => by omega) (fun _ => Ev_eq hr (by simp))
 | succ d ih =>
  intro kk hd hk
  obtain ⟨m, hm, hi⟩ := degIn_ev p hl (kk : Int)
  by_cases h : m > 0
  ·refine ⟨false, Ev.step (fun k => rfl) ?_, ⟨fun h => absurd h (by decide), fun h2 => ?_⟩⟩
   ·simp only [spec_poSystem.l1]
    exact Ev_if (fun _ => Ev.bind hm (Ev_if (fun _ => Ev_eq (Ev.now _) (by simp)) (fun h2 => absurd h h2))) (fun h => by omega)
   ·obtain ⟨j, hj, hj2⟩ := hi.1 h
    have := h2 kk (Nat.le_refl _) (by omega) j hj
    omega
  ·obtain ⟨v, hv, hi2⟩ := ih (kk + 1) (by omega) (by omega)
   refine ⟨v, Ev.step (fun k => rfl) ?_, hi2.trans ⟨fun h2 u h3 h4 j hj => ?_, fun h2 u h3 h4 => h2 u (by omega) h4⟩⟩
   ·simp only [spec_poSystem.l1]
    rw [wrap_next kk (by omega)]
    exact Ev_if (fun _ => Ev.bind hm (Ev_if (fun h2 => absurd h2 h) (fun _ => hv))) (fun h => by omega)
   ·by_cases hu : u = kk
    ·subst hu
     by_cases hp : pwT (rd_T107 p (j : Int)) (u : Int) > 0
     ·exact absurd (hi.2 ⟨j, hj, hp⟩) h
     ·omega
    ·exact h2 u (by omega) h4 j hj
theorem sys_loop (s : List (List S107)) (hs : s.length ≤ 1000000) (hq : ∀ p ∈ s, p.length ≤ 1000000) (d : Nat) : ∀ i : Nat, i ≤ s.length → s.length - i = d →
 ∃ b : Bool, Ev (fun k => spec_poSystem.l0 k s s (s.length : Int) (i : Int)) (b && decide (1 ≤ (s.length : Int) ∧ (s.length : Int) ≤ 3)) ∧ Ev (fun k => impl_isSystem.l0 k s s (s.length : Int) (i : Int)) (b && decide (1 ≤ (s.length : Int) ∧ (s.length : Int) ≤ 3)) ∧ (b = true → ∀ (j : Nat) (hj : j < s.length), i ≤ j → fitP s[j] s.length) := by
 induction d with
 | zero =>
  intro i hi hd
  refine ⟨true, Ev.step (fun k => rfl) ?_, Ev.step (fun k => rfl) ?_, fun _ j hj h => by omega⟩
  ·simp only [spec_poSystem.l0]
   exact Ev_if (fun h => by omega) (fun _ => Ev_bindS (l1In_eq _ _ _) (Ev_eq (Ev.now _) (by simp)))
  ·simp only [impl_isSystem.l0]
   exact Ev_if (fun h => by omega) (fun _ => Ev_bindS (inside_eq _ _ _) (Ev_eq (Ev.now _) (by simp)))
 | succ d ih =>
  intro i hi hd
  have hlt : i < s.length := by omega
  obtain ⟨p, hp⟩ : ∃ p, s[i] = p := ⟨_, rfl⟩
  have hpl : p.length ≤ 1000000 := by rw [← hp]; exact hq _ (List.getElem_mem hlt)
  have e1 : rd_L3 s (i : Int) = p := by rw [rdL3_at s i hlt, hp]
  obtain ⟨b, b1, b2, b3⟩ := ih (i + 1) (by omega) (by omega)
  obtain ⟨g, g1, g2, g3⟩ := po_ev2 p hpl
  cases g with
  | false =>
   refine ⟨false, Ev.step (fun k => rfl) ?_, Ev.step (fun k => rfl) ?_, fun h => absurd h (by decide)⟩
   ·simp only [spec_poSystem.l0]
    rw [e1]
    exact Ev_if (fun _ => Ev_if (fun _ => Ev_if (fun _ => Ev.bind g1 (Ev_if (fun h => by cases h) (fun _ => Ev_eq (Ev.now _) (by simp)))) (fun h => by omega)) (fun h => by omega)) (fun h => by omega)
   ·simp only [impl_isSystem.l0]
    rw [e1]
    exact Ev_if (fun _ => Ev_if (fun _ => Ev_if (fun _ => Ev.bind g2 (Ev_if (fun h => by cases h) (fun _ => Ev_eq (Ev.now _) (by simp)))) (fun h => by omega)) (fun h => by omega)) (fun h => by omega)
  | true =>
   obtain ⟨v, v1, v2⟩ := sysDeg_l1 s p hpl i (b && decide (1 ≤ (s.length : Int) ∧ (s.length : Int) ≤ 3)) (by rw [wrap_next i (by omega)]; exact b1) (3 - s.length) s.length rfl hs
   obtain ⟨w, w1, w2⟩ := needs_l0 p hpl (s.length : Int) p.length 0 (by omega) (by omega)
   have hvw : w = v := by
    have : w = true ↔ v = true := by
     rw [v2, w2]
     exact ⟨fun h u h1 h2 j hj => h j (Nat.zero_le _) hj u h2 (by omega), fun h j _ hj x hx hn => h x (by omega) hx j hj⟩
    cases v <;> cases w <;> simp_all
   subst hvw
   refine ⟨w && b, Ev.step (fun k => rfl) ?_, Ev.step (fun k => rfl) ?_, fun h j hj hij => ?_⟩
   ·simp only [spec_poSystem.l0]
    rw [e1]
    exact Ev_if (fun _ => Ev_if (fun _ => Ev_if (fun _ => Ev.bind g1 (Ev_if (fun _ => Ev_eq v1 (by rw [Bool.and_assoc])) (fun h => absurd rfl h))) (fun h => by omega)) (fun h => by omega)) (fun h => by omega)
   ·simp only [impl_isSystem.l0]
    rw [e1, wrap_next i (by omega)]
    refine Ev_if (fun _ => Ev_if (fun _ => Ev_if (fun _ => Ev.bind g2 (Ev_if (fun _ => ?_) (fun h => absurd rfl h))) (fun h => by omega)) (fun h => by omega)) (fun h => by omega)
    refine Ev.bind (show Ev (fun k => impl_needsAtMost.f k p (s.length : Int)) w from by simp only [impl_needsAtMost.f]; exact w1) ?_
    cases w with
    | true => exact Ev_if (fun _ => Ev_eq b2 (by simp)) (fun h => absurd rfl h)
    | false => exact Ev_if (fun h => by cases h) (fun _ => Ev_eq (Ev.now _) (by simp))
   ·simp only [Bool.and_eq_true] at h
    by_cases hji : j = i
    ·subst hji
     obtain ⟨h20, hok⟩ := g3 rfl
     rw [hp]
     exact ⟨h20, hok, fun j hj u h1 h2 => v2.1 h.1 u h1 h2 j hj⟩
    ·exact b3 h.2 j hj (by omega)
theorem sigs_loop (s : List (List S107)) (q : List S44) (hs : s.length ≤ 3) (hq : 1 ≤ q.length ∧ q.length ≤ 3) (hp : ∀ u : Nat, u < q.length → boxNum (rd_T44 q (u : Int)).f0 (rd_T44 q (u : Int)).f1 = true) (hf : ∀ (j : Nat) (hj : j < s.length), fitP s[j] q.length) (d : Nat) : ∀ (i : Nat) (o : List Int), i ≤ s.length → s.length - i = d → o.length ≤ i →
 ∃ r : List Int, Ev (fun k => spec_vaSigns.l0 k q o s (s.length : Int) (i : Int)) r ∧ Ev (fun k => impl_SignsAt.l0 k q o s (s.length : Int) (i : Int)) (r, true) ∧ r.length ≤ s.length := by
 induction d with
 | zero =>
  intro i o hi hd ho
  refine ⟨o, Ev.step (fun k => rfl) ?_, Ev.step (fun k => rfl) ?_, by omega⟩
  ·simp only [spec_vaSigns.l0]
   exact Ev_if (fun h => by omega) (fun _ => Ev.now _)
  ·simp only [impl_SignsAt.l0]
   exact Ev_if (fun h => by omega) (fun _ => Ev.now _)
 | succ d ih =>
  intro i o hi hd ho
  have hlt : i < s.length := by omega
  obtain ⟨h20, hok, hz⟩ := hf i hlt
  obtain ⟨M, R, RI, g1, g2, g3, g4, g5⟩ := sums_ev q hq hp s[i] h20 hok hz
  obtain ⟨r, r1, r2, r3⟩ := ih (i + 1) (o ++ [sgnI R]) (by omega) (by omega) (by simp; omega)
  have hz0 : 0 < ((2 : Int) ^ (9 - M).toNat) ^ 4 := Int.pow_pos (Int.pow_pos (by omega))
  have hsg : sgnI RI = sgnI R := by rw [g2, Int.mul_comm, sgn_mul _ _ hz0]
  have hcmp : cmp_Compare_int.f RI 0 = some (sgnI R) := by rw [compareInt_eq RI 0, Int.sub_zero, hsg]
  refine ⟨r, Ev.step (fun k => rfl) ?_, Ev.step (fun k => rfl) ?_, r3⟩
  ·simp only [spec_vaSigns.l0]
   rw [rdL3_at s i hlt, wrap_next i (by omega)]
   exact Ev_if (fun _ => Ev_if (fun _ => Ev_if (fun _ => Ev.bind g4 (Ev_bindS (l1Sign_eq R) (Ev_if (fun _ => r1) (fun h => absurd (by omega) h)))) (fun h => by omega)) (fun h => by omega)) (fun h => by omega)
  ·simp only [impl_SignsAt.l0]
   rw [rdL3_at s i hlt, wrap_next i (by omega)]
   exact Ev_if (fun _ => Ev_if (fun _ => Ev_if (fun _ => Ev.bind g5 (Ev_bindS hcmp (Ev_if (fun _ => r2) (fun h => absurd (by omega) h)))) (fun h => by omega)) (fun h => by omega)) (fun h => by omega)
theorem Pure_holds : Pure := by
 intro l0 l1 hl
 have hp : (l0.map (List.map cvTermS)).length ≤ 1000000 := by simp; omega
 have hpp : ∀ p ∈ l0.map (List.map cvTermS), p.length ≤ 1000000 := by
  intro p h
  obtain ⟨x, hx, rfl⟩ := List.mem_map.1 h
  have := total_le l0 x hx
  simp; omega
 have hq : (l1.map cvDyadicS).length ≤ 1000000 := by simp; omega
 generalize l0.map (List.map cvTermS) = s at hp hpp
 generalize l1.map cvDyadicS = q at hq
 have key : ∃ r1 r2, Ev (fun k => spec_SignsAt.f k s q) (r1, r2) ∧ Ev (fun k => impl_SignsAt.f k s q) (r1, r2) ∧ r1.length ≤ 1000000 := by
  obtain ⟨b, b1, b2, b3⟩ := sys_loop s hp hpp s.length 0 (by omega) (by omega)
  have hv := vaPoint_ev q hq
  have hx := isBoxPoint_eq q
  rw [Bool.and_comm] at hx
  cases hb : (b && decide (1 ≤ (s.length : Int) ∧ (s.length : Int) ≤ 3)) with
  | false =>
   rw [hb] at b1 b2
   refine ⟨[], false, Ev.bind b1 (Ev_if (fun h => by cases h) (fun _ => Ev.now _)), Ev.bind b2 (Ev_if (fun h => by cases h) (fun _ => Ev.step (fun z => rfl) (Ev.now _))), by simp⟩
  | true =>
   rw [hb] at b1 b2
   simp only [Bool.and_eq_true, decide_eq_true_eq] at hb
   cases hpt : (q.all ptNum && decide (1 ≤ (q.length : Int) ∧ (q.length : Int) ≤ 3)) with
   | false =>
    rw [hpt] at hv hx
    exact ⟨[], false, Ev.bind b1 (Ev_if (fun _ => Ev.bind hv (Ev_if (fun h => by cases h) (fun _ => Ev.now _))) (fun h => absurd rfl h)), Ev.bind b2 (Ev_if (fun _ => Ev_bindS hx (Ev_if (fun h => by cases h) (fun _ => Ev.step (fun z => rfl) (Ev.now _)))) (fun h => absurd rfl h)), by simp⟩
   | true =>
    rw [hpt] at hv hx
    simp only [Bool.and_eq_true, decide_eq_true_eq] at hpt
    by_cases hlen : q.length = s.length
    ·have hne : ((s.length : Int) != (q.length : Int)) = false := by rw [hlen]; simp
     obtain ⟨r, r1, r2, r3⟩ := sigs_loop s q (by omega) ⟨by omega, by omega⟩ (all_rd q hpt.1) (fun j hj => by rw [hlen]; exact b3 hb.1 j hj (Nat.zero_le _)) s.length 0 [] (by omega) (by omega) (by simp)
     refine ⟨r, true, Ev.bind b1 (Ev_if (fun _ => Ev.bind hv (Ev_if (fun _ => Ev_if (fun _ => Ev.bind (show Ev (fun k => spec_vaSigns.f k s q) r from r1) (Ev.now _)) (fun h => absurd (by omega) h)) (fun h => absurd rfl h))) (fun h => absurd rfl h)), Ev.bind b2 (Ev_if (fun _ => Ev_bindS hx (Ev_if (fun _ => Ev.step (fun z => rfl) ?_) (fun h => absurd rfl h))) (fun h => absurd rfl h)), by omega⟩
     simp only [impl_SignsAt.j0]
     rw [hne]
     exact Ev_if (fun h => by cases h) (fun _ => r2)
    ·have hne : ((s.length : Int) != (q.length : Int)) = true := by simp; omega
     refine ⟨[], false, Ev.bind b1 (Ev_if (fun _ => Ev.bind hv (Ev_if (fun _ => Ev_if (fun h => absurd (by omega) hlen) (fun _ => Ev.now _)) (fun h => absurd rfl h))) (fun h => absurd rfl h)), Ev.bind b2 (Ev_if (fun _ => Ev_bindS hx (Ev_if (fun _ => Ev.step (fun z => rfl) ?_) (fun h => absurd rfl h))) (fun h => absurd rfl h)), by simp⟩
     simp only [impl_SignsAt.j0]
     rw [hne]
     exact Ev.now _
 obtain ⟨r1, r2, h1, h2, h3⟩ := key
 obtain ⟨ks, ki, h, h'⟩ := Ev_both h1 h2
 exact ⟨ks, ki, r1, r2, h, h', h3⟩
end Go.Proofs.Ytalcohajbcijlaa.QSiA
