/- Plain law: the reference's and the program's SingleOf come to the same, over numbers and lists alone. -/
import Derived.Test.YtolacpnhndbalaaLSingleOf
namespace Go.Proofs.Ytolacpnhndbalaa.QSingleOf
open Go.RowKit Go.Proofs.YtolacpnhndbalaaW.PrintWords Go.Proofs.YtolacpnhndbalaaW.PrintLast Go.Proofs.YtolacpnhndbalaaW.PrintMore
set_option linter.unusedVariables false
set_option linter.unusedSimpArgs false
theorem Ev_if {α : Type} {c : Prop} [Decidable c] {g f : Nat → Option α} {r : α} (hp : c → Ev g r) (hn : ¬ c → Ev f r) : Ev (fun k => if c then g k else f k) r := by
  by_cases h : c
  · simp only [if_pos h]; exact hp h
  · simp only [if_neg h]; exact hn h
theorem Ev_bindS {α β : Type} {a : Option α} {x : α} {f : Nat → α → Option β} {r : β} (h : a = some x) (k : Ev (fun n => f n x) r) : Ev (fun n => a.bind (f n)) r := by
  subst h; simpa only [Option.bind_some] using k
theorem Ev_eq {α : Type} {g : Nat → Option α} {r r' : α} (h : Ev g r) (e : r = r') : Ev g r' := e ▸ h
theorem Ev_both {α β : Type} {g : Nat → Option α} {f : Nat → Option β} {r : α} {q : β} (h : Ev g r) (h' : Ev f q) : ∃ ks ki, g ks = some r ∧ f ki = some q := by
  obtain ⟨a, ha⟩ := h.rounds
  obtain ⟨b, hb⟩ := h'.rounds
  exact ⟨a, b, ha, hb⟩
theorem l1In_eq (a b c : Int) : spec_l1In.f a b c = some (decide (b ≤ a ∧ a ≤ c)) := by
  unfold spec_l1In.f; by_cases h : b ≤ a <;> simp [h]
theorem inside_eq (a b c : Int) : impl_inside.f a b c = some (decide (b ≤ a ∧ a ≤ c)) := by
  unfold impl_inside.f; by_cases h : b ≤ a <;> simp [h]
theorem rd_getElem (l : List Int) (i : Nat) (h : i < l.length) : rd l (i : Int) = l[i] := by simp [rd, h]
theorem wrap_next (i : Nat) (h : i < 9223372036854775807) : wrap64 ((i : Int) + 1) = ((i + 1 : Nat) : Int) := by unfold wrap64; omega
theorem all_drop (l : List Int) (p : Int → Bool) (i : Nat) (h : i < l.length) : (l.drop i).all p = (p (rd l (i : Int)) && (l.drop (i + 1)).all p) := by
  rw [List.drop_eq_getElem_cons h, List.all_cons, rd_getElem l i h]
theorem rd_mem (l : List Int) (i : Nat) (h : i < l.length) : rd l (i : Int) ∈ l := by rw [rd_getElem l i h]; exact List.getElem_mem h
theorem drop_rd (l : List Int) (i : Nat) (h : i < l.length) : l.drop i = rd l (i : Int) :: l.drop (i + 1) := by rw [rd_getElem l i h]; exact List.drop_eq_getElem_cons h
theorem wrap_sum (i k : Nat) (h : i + k ≤ 4000000000000) : wrap64 ((i : Int) + (k : Int)) = ((i + k : Nat) : Int) := by unfold wrap64; omega
def sgnI (x : Int) : Int := if x > 0 then 1 else if x < 0 then -1 else 0
theorem l1Sign_eq (x : Int) : spec_l1Sign.f x = some (sgnI x) := by
  unfold spec_l1Sign.f sgnI; split
  · rfl
  · split <;> rfl
/-- The exponents of a term are valid. -/
def hasB (t : S71) : Bool := decide ((0 : Int) ≤ t.f1 ∧ t.f1 ≤ 4) && (decide ((0 : Int) ≤ t.f2 ∧ t.f2 ≤ 4) && (decide ((0 : Int) ≤ t.f3 ∧ t.f3 ≤ 4) && decide (t.f1 + t.f2 + t.f3 ≤ 4)))
def tB (t : S71) : Bool := decide ((-1000 : Int) ≤ t.f0 ∧ t.f0 ≤ 1000) && hasB t
theorem hasB_bounds (t : S71) (h : hasB t = true) : ((0 : Int) ≤ t.f1 ∧ t.f1 ≤ 4) ∧ ((0 : Int) ≤ t.f2 ∧ t.f2 ≤ 4) ∧ ((0 : Int) ≤ t.f3 ∧ t.f3 ≤ 4) ∧ t.f1 + t.f2 + t.f3 ≤ 4 := by
  unfold hasB at h
  simp only [Bool.and_eq_true, decide_eq_true_eq] at h
  exact h
theorem tB_bounds (t : S71) (h : tB t = true) : ((-1000 : Int) ≤ t.f0 ∧ t.f0 ≤ 1000) ∧ ((0 : Int) ≤ t.f1 ∧ t.f1 ≤ 4) ∧ ((0 : Int) ≤ t.f2 ∧ t.f2 ≤ 4) ∧ ((0 : Int) ≤ t.f3 ∧ t.f3 ≤ 4) ∧ t.f1 + t.f2 + t.f3 ≤ 4 := by
  unfold tB at h
  simp only [Bool.and_eq_true, decide_eq_true_eq] at h
  exact ⟨h.1, hasB_bounds t h.2⟩
theorem sum3 (a b c : Int) (h1 : (0 : Int) ≤ a ∧ a ≤ 4) (h2 : (0 : Int) ≤ b ∧ b ≤ 4) (h3 : (0 : Int) ≤ c ∧ c ≤ 4) : wrap64 (wrap64 (a + b) + c) = a + b + c := by unfold wrap64; omega
theorem poTerm_eq (t : S71) : spec_poTerm.f t.f0 t.f1 t.f2 t.f3 = some (tB t) := by
  unfold spec_poTerm.f tB hasB
  simp only [l1In_eq, Option.bind_some]
  by_cases h0 : (-1000 : Int) ≤ t.f0 ∧ t.f0 ≤ 1000
  · by_cases h1 : (0 : Int) ≤ t.f1 ∧ t.f1 ≤ 4
    · by_cases h2 : (0 : Int) ≤ t.f2 ∧ t.f2 ≤ 4
      · by_cases h3 : (0 : Int) ≤ t.f3 ∧ t.f3 ≤ 4
        · simp only [decide_eq_true h0, decide_eq_true h1, decide_eq_true h2, decide_eq_true h3, if_true, Bool.true_and, sum3 _ _ _ h1 h2 h3]
        · simp only [decide_eq_true h0, decide_eq_true h1, decide_eq_true h2, decide_eq_false h3, if_true, Bool.true_and, Bool.false_eq_true, if_false, Bool.false_and]
      · simp only [decide_eq_true h0, decide_eq_true h1, decide_eq_false h2, if_true, Bool.true_and, Bool.false_eq_true, if_false, Bool.false_and]
    · simp only [decide_eq_true h0, decide_eq_false h1, if_true, Bool.true_and, Bool.false_eq_true, if_false, Bool.false_and]
  · simp only [decide_eq_false h0, Bool.false_eq_true, if_false, Bool.false_and]
theorem hasDegree_eq (t : S71) : impl_hasDegree.f t.f0 t.f1 t.f2 t.f3 = some (hasB t) := by
  unfold impl_hasDegree.f impl_Term_degree.f hasB
  simp only [inside_eq, Option.bind_some]
  by_cases h1 : (0 : Int) ≤ t.f1 ∧ t.f1 ≤ 4
  · by_cases h2 : (0 : Int) ≤ t.f2 ∧ t.f2 ≤ 4
    · by_cases h3 : (0 : Int) ≤ t.f3 ∧ t.f3 ≤ 4
      · simp only [decide_eq_true h1, decide_eq_true h2, decide_eq_true h3, if_true, Bool.true_and, sum3 _ _ _ h1 h2 h3]
      · simp only [decide_eq_true h1, decide_eq_true h2, decide_eq_false h3, if_true, Bool.true_and, Bool.false_eq_true, if_false, Bool.false_and]
    · simp only [decide_eq_true h1, decide_eq_false h2, if_true, Bool.true_and, Bool.false_eq_true, if_false, Bool.false_and]
  · simp only [decide_eq_false h1, Bool.false_eq_true, if_false, Bool.false_and]
/-- The order of the exponents. -/
def ordI (s t : S71) : Int := if s.f1 = t.f1 then (if s.f2 = t.f2 then sgnI (s.f3 - t.f3) else sgnI (s.f2 - t.f2)) else sgnI (s.f1 - t.f1)
theorem poOrder_eq (s t : S71) (hs : hasB s = true) (ht : hasB t = true) : spec_poOrder.f s.f0 s.f1 s.f2 s.f3 t.f0 t.f1 t.f2 t.f3 = some (ordI s t) := by
  obtain ⟨a1, a2, a3, _⟩ := hasB_bounds s hs
  obtain ⟨b1, b2, b3, _⟩ := hasB_bounds t ht
  unfold spec_poOrder.f ordI
  rw [show wrap64 (s.f3 - t.f3) = s.f3 - t.f3 by unfold wrap64; omega, show wrap64 (s.f2 - t.f2) = s.f2 - t.f2 by unfold wrap64; omega, show wrap64 (s.f1 - t.f1) = s.f1 - t.f1 by unfold wrap64; omega]
  simp only [l1Sign_eq, Option.bind_some]
  split
  · split <;> rfl
  · rfl
theorem compareInt_eq (a b : Int) : cmp_Compare_int.f a b = some (sgnI (a - b)) := by
  unfold cmp_Compare_int.f cmp_isNaN_int.f sgnI
  simp only [bne_self_eq_false, Option.bind_some]
  rw [if_neg (by decide), if_neg (by decide)]
  by_cases h : a < b
  · rw [if_pos h, if_neg (by omega), if_pos (by omega)]
  · rw [if_neg h]
    by_cases h2 : a > b
    · rw [if_pos h2, if_pos (by omega)]
    · rw [if_neg h2, if_neg (by omega), if_neg (by omega)]
theorem sgnI_zero (x : Int) : sgnI x = 0 ↔ x = 0 := by
  unfold sgnI
  constructor
  · intro h; split at h
    · omega
    · split at h <;> omega
  · intro h; subst h; rfl
theorem or3_ev (a b c : Int) : Ev (fun k => cmp_Or_int.f k [a, b, c]) (if a = 0 then (if b = 0 then c else b) else a) := by
  refine Ev.of (cmp_Or_int.mono [a, b, c]) (k := 5) ?_
  by_cases ha : a = 0 <;> by_cases hb : b = 0 <;> by_cases hc : c = 0 <;> simp [cmp_Or_int.f, cmp_Or_int.l0, rd, wrap64, ha, hb, hc]
theorem compareTerms_ev (s t : S71) : Ev (fun k => impl_compareTerms.f k s.f0 s.f1 s.f2 s.f3 t.f0 t.f1 t.f2 t.f3) (ordI s t) := by
  simp only [impl_compareTerms.f, compareInt_eq, Option.bind_some]
  refine Ev.bind (or3_ev _ _ _) (Ev_eq (Ev.now _) ?_)
  unfold ordI
  by_cases h1 : s.f1 = t.f1
  · rw [if_pos h1, if_pos ((sgnI_zero _).2 (by omega))]
    by_cases h2 : s.f2 = t.f2
    · rw [if_pos h2, if_pos ((sgnI_zero _).2 (by omega))]
    · rw [if_neg h2, if_neg (fun h => h2 (by have := (sgnI_zero _).1 h; omega))]
  · rw [if_neg h1, if_neg (fun h => h1 (by have := (sgnI_zero _).1 h; omega))]
/-- Term j of a polynomial is valid, and behind the one ahead of it. -/
def okT (p : List S71) (j : Nat) : Prop := tB (rd_T71 p (j : Int)) = true ∧ (rd_T71 p (j : Int)).f0 ≠ 0 ∧ (0 < j → ordI (rd_T71 p ((j : Int) - 1)) (rd_T71 p (j : Int)) < 0)
theorem po_l0 (p : List S71) (hl : p.length ≤ 1000000) (d : Nat) : ∀ (i : Nat), i ≤ p.length → p.length - i = d → (0 < i → hasB (rd_T71 p ((i : Int) - 1)) = true) → ∃ b, Ev (fun k => spec_poGood.l0 k p p (p.length : Int) (i : Int)) b ∧ Ev (fun k => impl_isPoly.l0 k p p (p.length : Int) (i : Int)) b ∧ (b = true → p.length ≤ 20 ∧ ∀ j, i ≤ j → j < p.length → okT p j) := by
  induction d with
  | zero =>
    intro i h1 hd hp
    refine ⟨decide ((p.length : Int) ≤ 20), Ev.step (fun k => rfl) ?_, Ev.step (fun k => rfl) ?_, fun h => ⟨by have := of_decide_eq_true h; omega, fun j h2 h3 => by omega⟩⟩
    · simp only [spec_poGood.l0]
      exact Ev_if (fun h => by omega) (fun _ => Ev.now _)
    · simp only [impl_isPoly.l0]
      exact Ev_if (fun h => by omega) (fun _ => Ev.now _)
  | succ d ih =>
    intro i h1 hd hp
    have e1 : wrap64 ((i : Int) - 1) = (i : Int) - 1 := by unfold wrap64; omega
    have e2 : wrap64 ((i : Int) + 1) = ((i + 1 : Nat) : Int) := wrap_next i (by omega)
    obtain ⟨t, ht⟩ : ∃ t, rd_T71 p (i : Int) = t := ⟨_, rfl⟩
    obtain ⟨s, hs⟩ : ∃ s, rd_T71 p ((i : Int) - 1) = s := ⟨_, rfl⟩
    rw [hs] at hp
    have S1 : ∀ {b : Bool}, Ev (fun k => if tB t = true then (if t.f0 = 0 then (some false) else (if (i : Int) > 0 then (if 0 ≤ ((i : Int) - 1) then (if ((i : Int) - 1) < (p.length : Int) then ((spec_poOrder.f s.f0 s.f1 s.f2 s.f3 t.f0 t.f1 t.f2 t.f3).bind fun t119 => (if t119 ≥ 0 then (some false) else (spec_poGood.l0 k p p (p.length : Int) ((i + 1 : Nat) : Int)))) else none) else none) else (spec_poGood.l0 k p p (p.length : Int) ((i + 1 : Nat) : Int)))) else (some false)) b → Ev (fun k => spec_poGood.l0 k p p (p.length : Int) (i : Int)) b := by
      intro b h
      refine Ev.step (fun k => rfl) ?_
      simp only [spec_poGood.l0]
      rw [e1, e2, ht, hs]
      exact Ev_if (fun _ => Ev_if (fun _ => Ev_if (fun _ => Ev_bindS (poTerm_eq t) h) (fun h => by omega)) (fun h => by omega)) (fun h => by omega)
    have I1 : ∀ {b : Bool}, Ev (fun k => if t.f0 = 0 then (some false) else (if decide ((-1000 : Int) ≤ t.f0 ∧ t.f0 ≤ 1000) = true then (if hasB t = true then (if (i : Int) > 0 then (if 0 ≤ ((i : Int) - 1) then (if ((i : Int) - 1) < (p.length : Int) then ((impl_compareTerms.f k s.f0 s.f1 s.f2 s.f3 t.f0 t.f1 t.f2 t.f3).bind fun t152 => (if t152 ≥ 0 then (some false) else (impl_isPoly.l0 k p p (p.length : Int) ((i + 1 : Nat) : Int)))) else none) else none) else (impl_isPoly.l0 k p p (p.length : Int) ((i + 1 : Nat) : Int))) else (some false)) else (some false))) b → Ev (fun k => impl_isPoly.l0 k p p (p.length : Int) (i : Int)) b := by
      intro b h
      refine Ev.step (fun k => rfl) ?_
      simp only [impl_isPoly.l0]
      rw [e1, e2, ht, hs]
      simp only [inside_eq, hasDegree_eq, Option.bind_some]
      exact Ev_if (fun _ => Ev_if (fun _ => Ev_if (fun _ => h) (fun h => by omega)) (fun h => by omega)) (fun h => by omega)
    by_cases h0 : t.f0 = 0
    · refine ⟨false, S1 ?_, I1 ?_, fun h => absurd h (by decide)⟩
      · exact Ev_if (fun _ => Ev_if (fun _ => Ev.now _) (fun h => absurd h0 h)) (fun _ => Ev.now _)
      · exact Ev_if (fun _ => Ev.now _) (fun h => absurd h0 h)
    · by_cases hB : tB t = true
      · have hB2 := hB
        unfold tB at hB2
        simp only [Bool.and_eq_true] at hB2
        have hA : hasB t = true := hB2.2
        obtain ⟨b, r1, r2, r3⟩ := ih (i + 1) (by omega) (by omega) (fun _ => by rw [show ((i + 1 : Nat) : Int) - 1 = (i : Int) by omega, ht]; exact hA)
        by_cases hi : 0 < i
        · by_cases ho : ordI s t ≥ 0
          · refine ⟨false, S1 ?_, I1 ?_, fun h => absurd h (by decide)⟩
            · exact Ev_if (fun _ => Ev_if (fun h => absurd h h0) (fun _ => Ev_if (fun _ => Ev_if (fun _ => Ev_if (fun _ => Ev_bindS (poOrder_eq s t (hp hi) hA) (Ev_if (fun _ => Ev.now _) (fun h => absurd ho h))) (fun h => by omega)) (fun h => by omega)) (fun h => by omega))) (fun h => absurd hB h)
            · exact Ev_if (fun h => absurd h h0) (fun _ => Ev_if (fun _ => Ev_if (fun _ => Ev_if (fun _ => Ev_if (fun _ => Ev_if (fun _ => Ev.bind (compareTerms_ev s t) (Ev_if (fun _ => Ev.now _) (fun h => absurd ho h))) (fun h => by omega)) (fun h => by omega)) (fun h => by omega)) (fun h => absurd hA h)) (fun h => absurd hB2.1 h))
          · refine ⟨b, S1 ?_, I1 ?_, fun hb => ⟨(r3 hb).1, fun j h2 h3 => ?_⟩⟩
            · exact Ev_if (fun _ => Ev_if (fun h => absurd h h0) (fun _ => Ev_if (fun _ => Ev_if (fun _ => Ev_if (fun _ => Ev_bindS (poOrder_eq s t (hp hi) hA) (Ev_if (fun h => absurd h ho) (fun _ => r1))) (fun h => by omega)) (fun h => by omega)) (fun h => by omega))) (fun h => absurd hB h)
            · exact Ev_if (fun h => absurd h h0) (fun _ => Ev_if (fun _ => Ev_if (fun _ => Ev_if (fun _ => Ev_if (fun _ => Ev_if (fun _ => Ev.bind (compareTerms_ev s t) (Ev_if (fun h => absurd h ho) (fun _ => r2))) (fun h => by omega)) (fun h => by omega)) (fun h => by omega)) (fun h => absurd hA h)) (fun h => absurd hB2.1 h))
            · by_cases hj : j = i
              · subst hj; exact ⟨by rw [ht]; exact hB, by rw [ht]; exact h0, fun _ => by rw [ht, hs]; omega⟩
              · exact (r3 hb).2 j (by omega) h3
        · refine ⟨b, S1 ?_, I1 ?_, fun hb => ⟨(r3 hb).1, fun j h2 h3 => ?_⟩⟩
          · exact Ev_if (fun _ => Ev_if (fun h => absurd h h0) (fun _ => Ev_if (fun h => by omega) (fun _ => r1))) (fun h => absurd hB h)
          · exact Ev_if (fun h => absurd h h0) (fun _ => Ev_if (fun _ => Ev_if (fun _ => Ev_if (fun h => by omega) (fun _ => r2)) (fun h => absurd hA h)) (fun h => absurd hB2.1 h))
          · by_cases hj : j = i
            · subst hj; exact ⟨by rw [ht]; exact hB, by rw [ht]; exact h0, fun h => absurd h hi⟩
            · exact (r3 hb).2 j (by omega) h3
      · refine ⟨false, S1 ?_, I1 ?_, fun h => absurd h (by decide)⟩
        · exact Ev_if (fun h => absurd h hB) (fun _ => Ev.now _)
        · exact Ev_if (fun h => absurd h h0) (fun _ => Ev_if (fun h1 => Ev_if (fun h2 => absurd (by unfold tB; rw [h1, h2]; rfl) hB) (fun _ => Ev.now _)) (fun _ => Ev.now _))
theorem po_ev2 (p : List S71) (hl : p.length ≤ 1000000) : ∃ b, Ev (fun k => spec_poGood.f k p) b ∧ Ev (fun k => impl_isPoly.f k p) b ∧ (b = true → p.length ≤ 20 ∧ ∀ j, j < p.length → okT p j) := by
  have h := po_l0 p hl p.length 0 (by omega) (by omega) (fun h => by omega)
  simpa [spec_poGood.f, impl_isPoly.f] using h
theorem po_ev (p : List S71) (hl : p.length ≤ 1000000) : ∃ b, Ev (fun k => spec_poGood.f k p) b ∧ Ev (fun k => impl_isPoly.f k p) b := by
  obtain ⟨b, h1, h2, _⟩ := po_ev2 p hl
  exact ⟨b, h1, h2⟩
theorem needs1_l1 (p : List S71) (i x y z : Int) (b : Bool) (h : y > 0 ∨ z > 0 → b = false) (hr : ¬ y > 0 → ¬ z > 0 → Ev (fun k => impl_needsAtMost.l0 k 1 p (p.length : Int) (wrap64 (i + 1))) b) : Ev (fun k => impl_needsAtMost.l1 k 1 p (p.length : Int) i 0 x y z) b := by
  have w1 : wrap64 ((0 : Int) + 1) = 1 := by unfold wrap64; omega
  have w2 : wrap64 ((1 : Int) + 1) = 2 := by unfold wrap64; omega
  have w3 : wrap64 ((2 : Int) + 1) = 3 := by unfold wrap64; omega
  refine Ev.step (fun k => rfl) ?_
  simp only [impl_needsAtMost.l1]
  rw [w1]
  refine Ev_if (fun _ => Ev_if (fun _ => Ev_if (fun h => by omega) (fun _ => ?_)) (fun h => by omega)) (fun h => by omega)
  refine Ev.step (fun k => rfl) ?_
  simp only [impl_needsAtMost.l1]
  rw [w2, show ix3 x y z 1 = y from rfl]
  refine Ev_if (fun _ => Ev_if (fun _ => Ev_if (fun _ => Ev_if (fun hy => ?_) (fun hy => ?_)) (fun h => by omega)) (fun h => by omega)) (fun h => by omega)
  · rw [h (.inl hy)]; exact Ev.now _
  refine Ev.step (fun k => rfl) ?_
  simp only [impl_needsAtMost.l1]
  rw [w3, show ix3 x y z 2 = z from rfl]
  refine Ev_if (fun _ => Ev_if (fun _ => Ev_if (fun _ => Ev_if (fun hz => ?_) (fun hz => ?_)) (fun h => by omega)) (fun h => by omega)) (fun h => by omega)
  · rw [h (.inr hz)]; exact Ev.now _
  refine Ev.step (fun k => rfl) ?_
  simp only [impl_needsAtMost.l1]
  exact Ev_if (fun h => by omega) (fun _ => hr hy hz)
theorem needs1_l0 (p : List S71) (hl : p.length ≤ 1000000) (hok : ∀ j, j < p.length → hasB (rd_T71 p (j : Int)) = true) (d : Nat) : ∀ i : Nat, i ≤ p.length → p.length - i = d →
    (Ev (fun k => impl_needsAtMost.l0 k 1 p (p.length : Int) (i : Int)) true ∧ ∀ j, i ≤ j → j < p.length → (rd_T71 p (j : Int)).f2 = 0 ∧ (rd_T71 p (j : Int)).f3 = 0) ∨ (Ev (fun k => impl_needsAtMost.l0 k 1 p (p.length : Int) (i : Int)) false ∧ ∃ j, i ≤ j ∧ j < p.length ∧ (rd_T71 p (j : Int)).f2 + (rd_T71 p (j : Int)).f3 > 0) := by
  induction d with
  | zero =>
    intro i h1 hd
    refine .inl ⟨Ev.step (fun k => rfl) ?_, fun j h2 h3 => by omega⟩
    simp only [impl_needsAtMost.l0]
    exact Ev_if (fun h => by omega) (fun _ => Ev.now _)
  | succ d ih =>
    intro i h1 hd
    obtain ⟨b1, b2, b3, _⟩ := hasB_bounds _ (hok i (by omega))
    have S : ∀ {b : Bool}, Ev (fun k => impl_needsAtMost.l1 k 1 p (p.length : Int) (i : Int) 0 (rd_T71 p (i : Int)).f1 (rd_T71 p (i : Int)).f2 (rd_T71 p (i : Int)).f3) b → Ev (fun k => impl_needsAtMost.l0 k 1 p (p.length : Int) (i : Int)) b := by
      intro b h
      refine Ev.step (fun k => rfl) ?_
      simp only [impl_needsAtMost.l0, impl_Term_exponents.f, Option.bind_some]
      exact Ev_if (fun _ => Ev_if (fun _ => Ev_if (fun _ => h) (fun h => by omega)) (fun h => by omega)) (fun h => by omega)
    by_cases hz : (rd_T71 p (i : Int)).f2 + (rd_T71 p (i : Int)).f3 > 0
    · exact .inr ⟨S (needs1_l1 p _ _ _ _ false (fun _ => rfl) (fun h h' => by omega)), i, Nat.le_refl _, by omega, hz⟩
    · rcases ih (i + 1) (by omega) (by omega) with ⟨h, h'⟩ | ⟨h, j, h2, h3, h4⟩
      · refine .inl ⟨S (needs1_l1 p _ _ _ _ true (fun h => by omega) (fun _ _ => by rw [wrap_next i (by omega)]; exact h)), fun j h2 h3 => ?_⟩
        by_cases hj : j = i
        · subst hj; omega
        · exact h' j (by omega) h3
      · exact .inr ⟨S (needs1_l1 p _ _ _ _ false (fun _ => rfl) (fun _ _ => by rw [wrap_next i (by omega)]; exact h)), j, by omega, h3, h4⟩
theorem List_snoc (l : List Int) (h : 0 < l.length) : ∃ q a, l = q ++ [a] := by
  rcases List.eq_nil_or_concat l with e | ⟨q, a, e⟩
  · simp [e] at h
  · exact ⟨q, a, by rw [e, List.concat_eq_append]⟩
def trimI (l : List Int) : List Int := (l.reverse.dropWhile (fun x => x == 0)).reverse
theorem trimI_nil : trimI [] = [] := rfl
theorem trimI_zero (q : List Int) : trimI (q ++ [0]) = trimI q := by simp [trimI]
theorem trimI_last (q : List Int) (a : Int) (h : a ≠ 0) : trimI (q ++ [a]) = q ++ [a] := by simp [trimI, h]
theorem trimI_length (l : List Int) : (trimI l).length ≤ l.length := by
  unfold trimI; rw [List.length_reverse]; exact Nat.le_trans (List.dropWhile_sublist _).length_le (by simp)
theorem rd_last (q : List Int) (a : Int) : rd (q ++ [a]) (q.length : Int) = a := by simp [rd]
theorem own_eq (l : List Int) (h : l.length ≤ 1000000) : spec_l1Own.f l = some l := by
  unfold spec_l1Own.f; simp only [Option.bind_some, List.length_nil, List.nil_append]; rw [if_pos (by omega)]
theorem sgTrim_eq (n : Nat) : ∀ l : List Int, l.length = n → l.length ≤ 1000000 → Ev (fun k => spec_sgTrim.f k l) (trimI l) := by
  induction n with
  | zero =>
    intro l hn hl
    obtain rfl := List.eq_nil_of_length_eq_zero hn
    refine Ev.step (fun k => rfl) ?_
    simp only [spec_sgTrim.f, spec_sgTrim.l0]
    exact Ev_if (fun h => by simp at h) (fun _ => Ev_bindS (own_eq [] (by simp)) (Ev.now _))
  | succ n ih =>
    intro l hn hl
    obtain ⟨q, a, rfl⟩ : ∃ q a, l = q ++ [a] := List_snoc l (by omega)
    have hq : q.length = n := by simpa using hn
    have e1 : wrap64 (((q ++ [a]).length : Int) - 1) = (q.length : Int) := by simp only [List.length_append, List.length_singleton] at hl ⊢; unfold wrap64; omega
    have e2 : (q ++ [a]).take ((q.length : Int)).toNat = q := by simp
    refine Ev.step (fun k => rfl) ?_
    simp only [spec_sgTrim.f, spec_sgTrim.l0]
    rw [e1, rd_last, e2]
    simp only [List.length_append, List.length_singleton] at hl ⊢
    refine Ev_if (fun _ => Ev_if (fun _ => Ev_if (fun _ => Ev_if (fun h => Ev_if (fun _ => ?_) (fun h => by omega)) (fun h => ?_)) (fun h => by omega)) (fun h => by omega)) (fun h => by omega)
    · subst h; rw [trimI_zero]; exact ih q hq (by omega)
    · rw [trimI_last q a h]; exact Ev_bindS (own_eq _ (by simp; omega)) (Ev.now _)
theorem trim_keeps (q : List Int) (c : Int) (h : c ≠ 0) (n : Nat) : trimI ((q ++ [c]) ++ List.replicate n 0) = q ++ [c] := by
  induction n with
  | zero => simp only [List.replicate_zero, List.append_nil]; exact trimI_last q c h
  | succ n ih => rw [List.replicate_succ', ← List.append_assoc, trimI_zero]; exact ih
theorem trim_zeros (n : Nat) : trimI (List.replicate n 0) = [] := by
  induction n with
  | zero => rfl
  | succ n ih => rw [List.replicate_succ', trimI_zero]; exact ih
theorem set_mid (o : List Int) (F n : Nat) (c : Int) (h1 : o.length ≤ n) (h2 : n < F) : (o ++ List.replicate (F - o.length) 0).set n c = (o ++ List.replicate (n - o.length) 0 ++ [c]) ++ List.replicate (F - (n + 1)) 0 := by
  have e : F - o.length = (n - o.length) + ((F - (n + 1)) + 1) := by omega
  rw [e, ← List.replicate_append_replicate, ← List.append_assoc, List.set_append_right _ _ (by simp; omega)]
  have e2 : n - (o ++ List.replicate (n - o.length) (0 : Int)).length = 0 := by simp; omega
  rw [e2, List.replicate_succ, List.set_cons_zero]
  simp
theorem grow_l1 (p : List S71) (i : Int) (a x y z : Int) (n : Nat) (hx : x = (n : Int)) (r : List Int × Bool) (m : Nat) : ∀ o : List Int, o.length + m = n + 1 → n ≤ 4 → Ev (fun k => impl_SingleOf.l1 k (o ++ List.replicate m 0) p (p.length : Int) i a x y z) r → Ev (fun k => impl_SingleOf.l1 k o p (p.length : Int) i a x y z) r := by
  induction m with
  | zero => intro o h hn he; simpa using he
  | succ m ih =>
    intro o h hn he
    refine Ev.step (fun k => rfl) ?_
    simp only [impl_SingleOf.l1]
    refine Ev_if (fun _ => Ev_if (fun _ => ?_) (fun h => by omega)) (fun h => by omega)
    refine ih (o ++ [0]) (by simp; omega) hn ?_
    have e : o ++ [0] ++ List.replicate m 0 = o ++ List.replicate (m + 1) (0 : Int) := by rw [List.replicate_succ]; simp
    rw [e]; exact he
theorem sgOf_bad (p : List S71) (hl : p.length ≤ 1000000) (hok : ∀ j, j < p.length → okT p j) (d : Nat) : ∀ (i : Nat) (x : List Int), x.length = 5 → i ≤ p.length → p.length - i = d → (∃ j, i ≤ j ∧ j < p.length ∧ (rd_T71 p (j : Int)).f2 + (rd_T71 p (j : Int)).f3 > 0) → Ev (fun k => spec_sgOf.l0 k x p (p.length : Int) (i : Int)) ([], false) := by
  induction d with
  | zero => intro i x hx h1 hd ⟨j, h2, h3, _⟩; omega
  | succ d ih =>
    intro i x hx h1 hd ⟨j, h2, h3, h4⟩
    obtain ⟨b0, b1, b2, b3, _⟩ := tB_bounds _ (hok i (by omega)).1
    have hw : wrap64 ((rd_T71 p (i : Int)).f2 + (rd_T71 p (i : Int)).f3) = (rd_T71 p (i : Int)).f2 + (rd_T71 p (i : Int)).f3 := by unfold wrap64; omega
    refine Ev.step (fun k => rfl) ?_
    simp only [spec_sgOf.l0]
    rw [hw, wrap_next i (by omega)]
    refine Ev_if (fun _ => Ev_if (fun _ => Ev_if (fun _ => Ev_if (fun _ => Ev.now _) (fun hz => Ev_if (fun _ => Ev_if (fun _ => ?_) (fun h => by omega)) (fun h => by omega))) (fun h => by omega)) (fun h => by omega)) (fun h => by omega)
    refine ih (i + 1) _ (by simp [hx]) (by omega) (by omega) ⟨j, ?_, h3, h4⟩
    by_cases hj : j = i
    · subst hj; omega
    · omega
theorem sgOf_good (p : List S71) (hl : p.length ≤ 1000000) (hok : ∀ j, j < p.length → okT p j) (hz : ∀ j, j < p.length → (rd_T71 p (j : Int)).f2 = 0 ∧ (rd_T71 p (j : Int)).f3 = 0) (d : Nat) : ∀ (i : Nat) (o : List Int), o.length ≤ 5 → i ≤ p.length → p.length - i = d → (i = 0 → o = []) → (0 < i → (o.length : Int) = (rd_T71 p ((i : Int) - 1)).f1 + 1) → (∀ n, trimI (o ++ List.replicate n 0) = o) →
    ∃ r, Ev (fun k => spec_sgOf.l0 k (o ++ List.replicate (5 - o.length) 0) p (p.length : Int) (i : Int)) (r, true) ∧ Ev (fun k => impl_SingleOf.l0 k o p (p.length : Int) (i : Int)) (r, true) ∧ r.length ≤ 5 := by
  induction d with
  | zero =>
    intro i o h5 h1 hd h0 hi ht
    refine ⟨o, Ev.step (fun k => rfl) ?_, Ev.step (fun k => rfl) ?_, h5⟩
    · simp only [spec_sgOf.l0]
      refine Ev_if (fun h => by omega) (fun _ => ?_)
      have h := sgTrim_eq _ (o ++ List.replicate (5 - o.length) 0) rfl (by simp; omega)
      rw [ht] at h
      exact Ev.bind h (Ev.now _)
    · simp only [impl_SingleOf.l0]
      exact Ev_if (fun h => by omega) (fun _ => Ev.now _)
  | succ d ih =>
    intro i o h5 h1 hd h0 hi ht
    obtain ⟨o1, o2, o3⟩ := hok i (by omega)
    obtain ⟨b0, b1, b2, b3, _⟩ := tB_bounds _ o1
    obtain ⟨z2, z3⟩ := hz i (by omega)
    have hle : (o.length : Int) ≤ (rd_T71 p (i : Int)).f1 := by
      by_cases h : i = 0
      · rw [h0 h]; simpa using b1.1
      · have hh := o3 (by omega)
        obtain ⟨y2, y3⟩ := hz (i - 1) (by omega)
        rw [show ((i - 1 : Nat) : Int) = (i : Int) - 1 by omega] at y2 y3
        have hj := hi (by omega)
        unfold ordI at hh
        rw [y2, y3, z2, z3] at hh
        by_cases he : (rd_T71 p ((i : Int) - 1)).f1 = (rd_T71 p (i : Int)).f1
        · rw [if_pos he, if_pos rfl] at hh; exact absurd hh (by decide)
        · rw [if_neg he] at hh
          unfold sgnI at hh
          split at hh
          · omega
          · omega
    obtain ⟨n, hn⟩ : ∃ n : Nat, (rd_T71 p (i : Int)).f1 = (n : Int) := ⟨(rd_T71 p (i : Int)).f1.toNat, by omega⟩
    have hn4 : n ≤ 4 := by omega
    have hon : o.length ≤ n := by omega
    obtain ⟨r, hs, hm, hr⟩ := ih (i + 1) (o ++ List.replicate (n - o.length) 0 ++ [(rd_T71 p (i : Int)).f0]) (by simp; omega) (by omega) (by omega) (fun h => by omega) (fun _ => by rw [show ((i + 1 : Nat) : Int) - 1 = (i : Int) by omega, hn]; simp; omega) (fun m => trim_keeps _ _ o2 m)
    refine ⟨r, Ev.step (fun k => rfl) ?_, Ev.step (fun k => rfl) ?_, hr⟩
    · simp only [spec_sgOf.l0]
      rw [z2, z3, wrap_next i (by omega), hn]
      refine Ev_if (fun _ => Ev_if (fun _ => Ev_if (fun _ => Ev_if (fun h => absurd h (by unfold wrap64; omega)) (fun _ => Ev_if (fun _ => Ev_if (fun _ => ?_) (fun h => ?_)) (fun h => by omega))) (fun h => by omega)) (fun h => by omega)) (fun h => by omega)
      · rw [Int.toNat_natCast, set_mid o 5 n _ hon (by omega)]
        have e : (o ++ List.replicate (n - o.length) 0 ++ [(rd_T71 p (i : Int)).f0]).length = n + 1 := by simp; omega
        rw [e] at hs
        exact hs
      · exact absurd (by simp; omega) h
    · simp only [impl_SingleOf.l0]
      refine Ev_if (fun _ => Ev_if (fun _ => Ev_if (fun _ => ?_) (fun h => by omega)) (fun h => by omega)) (fun h => by omega)
      refine grow_l1 p _ _ _ _ _ n hn _ (n + 1 - o.length) o (by omega) hn4 ?_
      refine Ev.step (fun k => rfl) ?_
      simp only [impl_SingleOf.l1]
      rw [wrap_next i (by omega), hn]
      have el : (o ++ List.replicate (n + 1 - o.length) (0 : Int)).length = n + 1 := by simp; omega
      refine Ev_if (fun h => by rw [el] at h; omega) (fun _ => Ev_if (fun _ => Ev_if (fun _ => ?_) (fun h => by rw [el] at h; omega)) (fun h => by omega))
      rw [Int.toNat_natCast, set_mid o (n + 1) n _ hon (by omega)]
      simp only [Nat.sub_self, List.replicate_zero, List.append_nil]
      exact hm
theorem Pure_holds : Pure := by
  intro l hl
  have hl2 : (l.map cvTermS).length ≤ 1000000 := by simpa using hl
  generalize l.map cvTermS = p at hl2
  have key : ∃ r1 r2, Ev (fun k => spec_SingleOf.f k p) (r1, r2) ∧ Ev (fun k => impl_SingleOf.f k p) (r1, r2) ∧ r1.length ≤ 1000000 := by
    obtain ⟨b, hs, hi, hb⟩ := po_ev2 p hl2
    cases b with
    | false =>
      refine ⟨[], false, ?_, ?_, by simp⟩
      · exact Ev.bind hs (Ev.now _)
      · exact Ev.bind hi (Ev.step (fun k => rfl) (Ev.now _))
    | true =>
      obtain ⟨h20, hok⟩ := hb rfl
      have hbb : ∀ j, j < p.length → hasB (rd_T71 p (j : Int)) = true := fun j hj => by
        have h := (hok j hj).1
        unfold tB at h
        simp only [Bool.and_eq_true] at h
        exact h.2
      rcases needs1_l0 p hl2 hbb p.length 0 (by omega) (by omega) with ⟨hn, hz⟩ | ⟨hn, hz⟩
      · obtain ⟨r, h1, h2, h3⟩ := sgOf_good p hl2 hok (fun j hj => hz j (by omega) hj) p.length 0 [] (by simp) (by omega) (by omega) (fun _ => rfl) (fun h => by omega) (fun n => by simpa using trim_zeros n)
        refine ⟨r, true, ?_, ?_, by omega⟩
        · refine Ev.bind hs ?_
          refine Ev.bind (a := (r, true)) ?_ (Ev.now _)
          unfold spec_sgOf.f
          exact h1
        · refine Ev.bind hi ?_
          refine Ev.bind (a := true) ?_ (Ev.step (fun k => rfl) h2)
          unfold impl_needsAtMost.f
          exact hn
      · refine ⟨[], false, ?_, ?_, by simp⟩
        · refine Ev.bind hs ?_
          refine Ev.bind (a := ([], false)) ?_ (Ev.now _)
          unfold spec_sgOf.f
          exact sgOf_bad p hl2 hok p.length 0 (List.replicate 5 0) (by simp) (by omega) (by omega) hz
        · refine Ev.bind hi ?_
          refine Ev.bind (a := false) ?_ (Ev.step (fun k => rfl) (Ev.now _))
          unfold impl_needsAtMost.f
          exact hn
  obtain ⟨r1, r2, h1, h2, h3⟩ := key
  obtain ⟨ks, ki, h, h'⟩ := Ev_both h1 h2
  exact ⟨ks, ki, r1, r2, h, h', h3⟩
end Go.Proofs.Ytolacpnhndbalaa.QSingleOf
