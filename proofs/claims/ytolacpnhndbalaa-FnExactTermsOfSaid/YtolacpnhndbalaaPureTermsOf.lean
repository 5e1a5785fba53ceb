/- Plain law: the reference's and the program's TermsOf come to the same, over numbers and lists alone. -/
import Derived.Test.YtolacpnhndbalaaLTermsOf
namespace Go.Proofs.Ytolacpnhndbalaa.QTermsOf
open Go.RowKit Go.Proofs.YtolacpnhndbalaaW.PrintWords Go.Proofs.YtolacpnhndbalaaW.PrintLast Go.Proofs.YtolacpnhndbalaaW.PrintMore
set_option linter.unusedVariables false
set_option linter.unusedSimpArgs false
theorem Ev_if {α : Type} {c : Prop} [Decidable c] {g f : Nat → Option α} {r : α} (hp : c → Ev g r) (hn : ¬ c → Ev f r) : Ev (fun k => if c then g k else f k) r := by
  by_cases h : c
  · simp only [if_pos h]; exact hp h
  · simp only [if_neg h]; exact hn h
theorem Ev_bindS {α β : Type} {a : Option α} {x : α} {f : Nat → α → Option β} {r : β} (h : a = some x) (k : Ev (fun n => f n x) r) : Ev (fun n => a.bind (f n)) r := by
  subst h; simpa only [Option.bind_some] using k
theorem Ev_eq {α : Type} {g : Nat → Option α} {r r' : α} (h : Ev g r) (e : r = r') : Ev g r' := e ▸ h
theorem Ev_both {α β : Type} {g : Nat → Option α} {f : Nat → Option β} {r : α} {q : β} (h : Ev g r) (h' : Ev f q) : ∃ ks ki, g ks = some r ∧ f ki = some q := by
  obtain ⟨a, ha⟩ := h.rounds
  obtain ⟨b, hb⟩ := h'.rounds
  exact ⟨a, b, ha, hb⟩
theorem l1In_eq (a b c : Int) : spec_l1In.f a b c = some (decide (b ≤ a ∧ a ≤ c)) := by
  unfold spec_l1In.f; by_cases h : b ≤ a <;> simp [h]
theorem inside_eq (a b c : Int) : impl_inside.f a b c = some (decide (b ≤ a ∧ a ≤ c)) := by
  unfold impl_inside.f; by_cases h : b ≤ a <;> simp [h]
theorem rd_getElem (l : List Int) (i : Nat) (h : i < l.length) : rd l (i : Int) = l[i] := by simp [rd, h]
theorem wrap_next (i : Nat) (h : i < 9223372036854775807) : wrap64 ((i : Int) + 1) = ((i + 1 : Nat) : Int) := by unfold wrap64; omega
theorem all_drop (l : List Int) (p : Int → Bool) (i : Nat) (h : i < l.length) : (l.drop i).all p = (p (rd l (i : Int)) && (l.drop (i + 1)).all p) := by
  rw [List.drop_eq_getElem_cons h, List.all_cons, rd_getElem l i h]
theorem rd_mem (l : List Int) (i : Nat) (h : i < l.length) : rd l (i : Int) ∈ l := by rw [rd_getElem l i h]; exact List.getElem_mem h
theorem drop_rd (l : List Int) (i : Nat) (h : i < l.length) : l.drop i = rd l (i : Int) :: l.drop (i + 1) := by rw [rd_getElem l i h]; exact List.drop_eq_getElem_cons h
theorem wrap_sum (i k : Nat) (h : i + k ≤ 4000000000000) : wrap64 ((i : Int) + (k : Int)) = ((i + k : Nat) : Int) := by unfold wrap64; omega
theorem l1All_l0 (l : List Int) (lo hi : Int) (hl : l.length ≤ 1000000) (d : Nat) : ∀ (k i : Nat), i ≤ l.length → l.length - i = d → d < k → spec_l1All.l0 k lo hi l (l.length : Int) (i : Int) = some ((l.drop i).all fun x => decide (lo ≤ x ∧ x ≤ hi)) := by
  induction d with
  | zero =>
    intro k i h1 hd hk
    obtain ⟨k, rfl⟩ : ∃ m, k = m + 1 := ⟨k - 1, by omega⟩
    simp only [spec_l1All.l0]; rw [if_neg (by omega), List.drop_eq_nil_of_le (by omega)]; rfl
  | succ d ih =>
    intro k i h1 hd hk
    obtain ⟨k, rfl⟩ : ∃ m, k = m + 1 := ⟨k - 1, by omega⟩
    simp only [spec_l1All.l0]
    rw [if_pos (by omega), if_pos (by omega), if_pos (by omega), l1In_eq, Option.bind_some, wrap_next i (by omega), all_drop l _ i (by omega)]
    by_cases hp : lo ≤ rd l (i : Int) ∧ rd l (i : Int) ≤ hi
    · rw [if_pos (decide_eq_true hp), decide_eq_true hp, ih k (i + 1) (by omega) (by omega) (by omega)]; rfl
    · rw [if_neg (by rw [decide_eq_false hp]; decide), decide_eq_false hp]; rfl
theorem l1All_eq (l : List Int) (lo hi : Int) (hl : l.length ≤ 1000000) (k : Nat) (hk : l.length < k) : spec_l1All.f k l lo hi = some (l.all fun x => decide (lo ≤ x ∧ x ≤ hi)) := by
  unfold spec_l1All.f
  have h := l1All_l0 l lo hi hl l.length k 0 (by omega) (by omega) hk
  simpa using h
def smallB (l : List Int) : Bool := l.all fun x => decide ((-1000000) ≤ x ∧ x ≤ 1000000)
def lastB (l : List Int) : Bool := if l.length = 0 then true else (rd l ((l.length : Int) - 1) != 0)
/-- A single polynomial. -/
def goodB (l : List Int) : Bool := decide (l.length ≤ 9) && (smallB l && lastB l)
theorem sgGood_eq (l : List Int) (hl : l.length ≤ 1000000) (k : Nat) (hk : l.length < k) : spec_sgGood.f k l = some (goodB l) := by
  unfold spec_sgGood.f goodB
  by_cases h9 : l.length ≤ 9
  · rw [if_neg (by omega), l1All_eq l _ _ hl k hk, Option.bind_some, decide_eq_true h9, Bool.true_and]
    change (if smallB l = true then _ else _) = _
    cases hs : smallB l with
    | false => rfl
    | true =>
      rw [if_pos rfl, Bool.true_and]
      unfold lastB
      by_cases h0 : l.length = 0
      · rw [if_pos (by omega), if_pos h0]
      · rw [if_neg (by omega), if_neg h0, show wrap64 ((l.length : Int) - 1) = (l.length : Int) - 1 by unfold wrap64; omega, if_pos (by omega), if_pos (by omega)]
  · rw [if_pos (by omega), decide_eq_false h9]; rfl
theorem isSingle_l0 (l : List Int) (hl : l.length ≤ 1000000) (d : Nat) : ∀ (k i : Nat), i ≤ l.length → l.length - i = d → d < k → impl_isSingle.l0 k l l (l.length : Int) (i : Int) = some (((l.drop i).all fun x => decide ((-1000000) ≤ x ∧ x ≤ 1000000)) && (if l.length = 0 then true else decide (l.length ≤ 9) && (rd l ((l.length : Int) - 1) != 0))) := by
  induction d with
  | zero =>
    intro k i h1 hd hk
    obtain ⟨k, rfl⟩ : ∃ m, k = m + 1 := ⟨k - 1, by omega⟩
    simp only [impl_isSingle.l0]; rw [if_neg (by omega), List.drop_eq_nil_of_le (by omega)]
    by_cases h0 : l.length = 0
    · rw [if_pos (by omega), if_pos h0]; rfl
    · rw [if_neg (by omega), if_neg h0]
      by_cases h9 : l.length ≤ 9
      · rw [if_pos (by omega), show wrap64 ((l.length : Int) - 1) = (l.length : Int) - 1 by unfold wrap64; omega, if_pos (by omega), if_pos (by omega), decide_eq_true h9]; rfl
      · rw [if_neg (by omega), decide_eq_false h9]; rfl
  | succ d ih =>
    intro k i h1 hd hk
    obtain ⟨k, rfl⟩ : ∃ m, k = m + 1 := ⟨k - 1, by omega⟩
    simp only [impl_isSingle.l0]
    rw [if_pos (by omega), if_pos (by omega), if_pos (by omega), inside_eq, Option.bind_some, wrap_next i (by omega), all_drop l _ i (by omega)]
    by_cases hp : (-1000000) ≤ rd l (i : Int) ∧ rd l (i : Int) ≤ 1000000
    · rw [if_pos (decide_eq_true hp), decide_eq_true hp, ih k (i + 1) (by omega) (by omega) (by omega)]; rfl
    · rw [if_neg (by rw [decide_eq_false hp]; decide), decide_eq_false hp]; rfl
theorem isSingle_eq (l : List Int) (hl : l.length ≤ 1000000) (k : Nat) (hk : l.length < k) : impl_isSingle.f k l = some (goodB l) := by
  unfold impl_isSingle.f
  have h := isSingle_l0 l hl l.length k 0 (by omega) (by omega) hk
  simp only [List.drop_zero] at h
  rw [show ((0 : Nat) : Int) = 0 from rfl] at h
  rw [h]
  congr 1
  unfold goodB lastB
  change (smallB l && _) = _
  cases smallB l <;> by_cases h0 : l.length = 0 <;> simp [h0]
theorem sgGood_ev (l : List Int) (hl : l.length ≤ 1000000) : Ev (fun k => spec_sgGood.f k l) (goodB l) := ⟨l.length + 1, fun k hk => sgGood_eq l hl k (by omega)⟩
theorem isSingle_ev (l : List Int) (hl : l.length ≤ 1000000) : Ev (fun k => impl_isSingle.f k l) (goodB l) := ⟨l.length + 1, fun k hk => isSingle_eq l hl k (by omega)⟩
theorem good_bound (l : List Int) (h : goodB l = true) : ∀ x ∈ l, (-1000000 : Int) ≤ x ∧ x ≤ 1000000 := by
  unfold goodB smallB at h
  simp only [Bool.and_eq_true, List.all_eq_true, decide_eq_true_eq] at h
  exact h.2.1
theorem good_length (l : List Int) (h : goodB l = true) : l.length ≤ 9 := by
  unfold goodB at h
  simp only [Bool.and_eq_true, decide_eq_true_eq] at h
  exact h.1
theorem good_last (l : List Int) (h : goodB l = true) (h0 : 0 < l.length) : rd l ((l.length : Int) - 1) ≠ 0 := by
  unfold goodB lastB at h
  simp only [Bool.and_eq_true] at h
  have := h.2.2
  rw [if_neg (by omega)] at this
  simpa using this
def sgnI (x : Int) : Int := if x > 0 then 1 else if x < 0 then -1 else 0
theorem l1Sign_eq (x : Int) : spec_l1Sign.f x = some (sgnI x) := by
  unfold spec_l1Sign.f sgnI; split
  · rfl
  · split <;> rfl
/-- The exponents of a term are valid. -/
def hasB (t : S71) : Bool := decide ((0 : Int) ≤ t.f1 ∧ t.f1 ≤ 4) && (decide ((0 : Int) ≤ t.f2 ∧ t.f2 ≤ 4) && (decide ((0 : Int) ≤ t.f3 ∧ t.f3 ≤ 4) && decide (t.f1 + t.f2 + t.f3 ≤ 4)))
def tB (t : S71) : Bool := decide ((-1000 : Int) ≤ t.f0 ∧ t.f0 ≤ 1000) && hasB t
theorem hasB_bounds (t : S71) (h : hasB t = true) : ((0 : Int) ≤ t.f1 ∧ t.f1 ≤ 4) ∧ ((0 : Int) ≤ t.f2 ∧ t.f2 ≤ 4) ∧ ((0 : Int) ≤ t.f3 ∧ t.f3 ≤ 4) ∧ t.f1 + t.f2 + t.f3 ≤ 4 := by
  unfold hasB at h
  simp only [Bool.and_eq_true, decide_eq_true_eq] at h
  exact h
theorem tB_bounds (t : S71) (h : tB t = true) : ((-1000 : Int) ≤ t.f0 ∧ t.f0 ≤ 1000) ∧ ((0 : Int) ≤ t.f1 ∧ t.f1 ≤ 4) ∧ ((0 : Int) ≤ t.f2 ∧ t.f2 ≤ 4) ∧ ((0 : Int) ≤ t.f3 ∧ t.f3 ≤ 4) ∧ t.f1 + t.f2 + t.f3 ≤ 4 := by
  unfold tB at h
  simp only [Bool.and_eq_true, decide_eq_true_eq] at h
  exact ⟨h.1, hasB_bounds t h.2⟩
theorem sum3 (a b c : Int) (h1 : (0 : Int) ≤ a ∧ a ≤ 4) (h2 : (0 : Int) ≤ b ∧ b ≤ 4) (h3 : (0 : Int) ≤ c ∧ c ≤ 4) : wrap64 (wrap64 (a + b) + c) = a + b + c := by unfold wrap64; omega
theorem poTerm_eq (t : S71) : spec_poTerm.f t.f0 t.f1 t.f2 t.f3 = some (tB t) := by
  unfold spec_poTerm.f tB hasB
  simp only [l1In_eq, Option.bind_some]
  by_cases h0 : (-1000 : Int) ≤ t.f0 ∧ t.f0 ≤ 1000
  · by_cases h1 : (0 : Int) ≤ t.f1 ∧ t.f1 ≤ 4
    · by_cases h2 : (0 : Int) ≤ t.f2 ∧ t.f2 ≤ 4
      · by_cases h3 : (0 : Int) ≤ t.f3 ∧ t.f3 ≤ 4
        · simp only [decide_eq_true h0, decide_eq_true h1, decide_eq_true h2, decide_eq_true h3, if_true, Bool.true_and, sum3 _ _ _ h1 h2 h3]
        · simp only [decide_eq_true h0, decide_eq_true h1, decide_eq_true h2, decide_eq_false h3, if_true, Bool.true_and, Bool.false_eq_true, if_false, Bool.false_and]
      · simp only [decide_eq_true h0, decide_eq_true h1, decide_eq_false h2, if_true, Bool.true_and, Bool.false_eq_true, if_false, Bool.false_and]
    · simp only [decide_eq_true h0, decide_eq_false h1, if_true, Bool.true_and, Bool.false_eq_true, if_false, Bool.false_and]
  · simp only [decide_eq_false h0, Bool.false_eq_true, if_false, Bool.false_and]
theorem hasDegree_eq (t : S71) : impl_hasDegree.f t.f0 t.f1 t.f2 t.f3 = some (hasB t) := by
  unfold impl_hasDegree.f impl_Term_degree.f hasB
  simp only [inside_eq, Option.bind_some]
  by_cases h1 : (0 : Int) ≤ t.f1 ∧ t.f1 ≤ 4
  · by_cases h2 : (0 : Int) ≤ t.f2 ∧ t.f2 ≤ 4
    · by_cases h3 : (0 : Int) ≤ t.f3 ∧ t.f3 ≤ 4
      · simp only [decide_eq_true h1, decide_eq_true h2, decide_eq_true h3, if_true, Bool.true_and, sum3 _ _ _ h1 h2 h3]
      · simp only [decide_eq_true h1, decide_eq_true h2, decide_eq_false h3, if_true, Bool.true_and, Bool.false_eq_true, if_false, Bool.false_and]
    · simp only [decide_eq_true h1, decide_eq_false h2, if_true, Bool.true_and, Bool.false_eq_true, if_false, Bool.false_and]
  · simp only [decide_eq_false h1, Bool.false_eq_true, if_false, Bool.false_and]
/-- The order of the exponents. -/
def ordI (s t : S71) : Int := if s.f1 = t.f1 then (if s.f2 = t.f2 then sgnI (s.f3 - t.f3) else sgnI (s.f2 - t.f2)) else sgnI (s.f1 - t.f1)
theorem poOrder_eq (s t : S71) (hs : hasB s = true) (ht : hasB t = true) : spec_poOrder.f s.f0 s.f1 s.f2 s.f3 t.f0 t.f1 t.f2 t.f3 = some (ordI s t) := by
  obtain ⟨a1, a2, a3, _⟩ := hasB_bounds s hs
  obtain ⟨b1, b2, b3, _⟩ := hasB_bounds t ht
  unfold spec_poOrder.f ordI
  rw [show wrap64 (s.f3 - t.f3) = s.f3 - t.f3 by unfold wrap64; omega, show wrap64 (s.f2 - t.f2) = s.f2 - t.f2 by unfold wrap64; omega, show wrap64 (s.f1 - t.f1) = s.f1 - t.f1 by unfold wrap64; omega]
  simp only [l1Sign_eq, Option.bind_some]
  split
  · split <;> rfl
  · rfl
theorem compareInt_eq (a b : Int) : cmp_Compare_int.f a b = some (sgnI (a - b)) := by
  unfold cmp_Compare_int.f cmp_isNaN_int.f sgnI
  simp only [bne_self_eq_false, Option.bind_some]
  rw [if_neg (by decide), if_neg (by decide)]
  by_cases h : a < b
  · rw [if_pos h, if_neg (by omega), if_pos (by omega)]
  · rw [if_neg h]
    by_cases h2 : a > b
    · rw [if_pos h2, if_pos (by omega)]
    · rw [if_neg h2, if_neg (by omega), if_neg (by omega)]
theorem sgnI_zero (x : Int) : sgnI x = 0 ↔ x = 0 := by
  unfold sgnI
  constructor
  · intro h; split at h
    · omega
    · split at h <;> omega
  · intro h; subst h; rfl
theorem or3_ev (a b c : Int) : Ev (fun k => cmp_Or_int.f k [a, b, c]) (if a = 0 then (if b = 0 then c else b) else a) := by
  refine Ev.of (cmp_Or_int.mono [a, b, c]) (k := 5) ?_
  by_cases ha : a = 0 <;> by_cases hb : b = 0 <;> by_cases hc : c = 0 <;> simp [cmp_Or_int.f, cmp_Or_int.l0, rd, wrap64, ha, hb, hc]
theorem compareTerms_ev (s t : S71) : Ev (fun k => impl_compareTerms.f k s.f0 s.f1 s.f2 s.f3 t.f0 t.f1 t.f2 t.f3) (ordI s t) := by
  simp only [impl_compareTerms.f, compareInt_eq, Option.bind_some]
  refine Ev.bind (or3_ev _ _ _) (Ev_eq (Ev.now _) ?_)
  unfold ordI
  by_cases h1 : s.f1 = t.f1
  · rw [if_pos h1, if_pos ((sgnI_zero _).2 (by omega))]
    by_cases h2 : s.f2 = t.f2
    · rw [if_pos h2, if_pos ((sgnI_zero _).2 (by omega))]
    · rw [if_neg h2, if_neg (fun h => h2 (by have := (sgnI_zero _).1 h; omega))]
  · rw [if_neg h1, if_neg (fun h => h1 (by have := (sgnI_zero _).1 h; omega))]
theorem po_l0 (p : List S71) (hl : p.length ≤ 1000000) (d : Nat) : ∀ (i : Nat), i ≤ p.length → p.length - i = d → (0 < i → hasB (rd_T71 p ((i : Int) - 1)) = true) → ∃ b, Ev (fun k => spec_poGood.l0 k p p (p.length : Int) (i : Int)) b ∧ Ev (fun k => impl_isPoly.l0 k p p (p.length : Int) (i : Int)) b := by
  induction d with
  | zero =>
    intro i h1 hd hp
    refine ⟨decide ((p.length : Int) ≤ 20), Ev.step (fun k => rfl) ?_, Ev.step (fun k => rfl) ?_⟩
    · simp only [spec_poGood.l0]
      exact Ev_if (fun h => by omega) (fun _ => Ev.now _)
    · simp only [impl_isPoly.l0]
      exact Ev_if (fun h => by omega) (fun _ => Ev.now _)
  | succ d ih =>
    intro i h1 hd hp
    have e1 : wrap64 ((i : Int) - 1) = (i : Int) - 1 := by unfold wrap64; omega
    have e2 : wrap64 ((i : Int) + 1) = ((i + 1 : Nat) : Int) := wrap_next i (by omega)
    generalize ht : rd_T71 p (i : Int) = t at *
    generalize hs : rd_T71 p ((i : Int) - 1) = s at *
    have S1 : ∀ {b : Bool}, Ev (fun k => if tB t = true then (if t.f0 = 0 then (some false) else (if (i : Int) > 0 then (if 0 ≤ ((i : Int) - 1) then (if ((i : Int) - 1) < (p.length : Int) then ((spec_poOrder.f s.f0 s.f1 s.f2 s.f3 t.f0 t.f1 t.f2 t.f3).bind fun t119 => (if t119 ≥ 0 then (some false) else (spec_poGood.l0 k p p (p.length : Int) ((i + 1 : Nat) : Int)))) else none) else none) else (spec_poGood.l0 k p p (p.length : Int) ((i + 1 : Nat) : Int)))) else (some false)) b → Ev (fun k => spec_poGood.l0 k p p (p.length : Int) (i : Int)) b := by
      intro b h
      refine Ev.step (fun k => rfl) ?_
      simp only [spec_poGood.l0]
      rw [e1, e2, ht, hs]
      exact Ev_if (fun _ => Ev_if (fun _ => Ev_if (fun _ => Ev_bindS (poTerm_eq t) h) (fun h => by omega)) (fun h => by omega)) (fun h => by omega)
    have I1 : ∀ {b : Bool}, Ev (fun k => if t.f0 = 0 then (some false) else (if decide ((-1000 : Int) ≤ t.f0 ∧ t.f0 ≤ 1000) = true then (if hasB t = true then (if (i : Int) > 0 then (if 0 ≤ ((i : Int) - 1) then (if ((i : Int) - 1) < (p.length : Int) then ((impl_compareTerms.f k s.f0 s.f1 s.f2 s.f3 t.f0 t.f1 t.f2 t.f3).bind fun t152 => (if t152 ≥ 0 then (some false) else (impl_isPoly.l0 k p p (p.length : Int) ((i + 1 : Nat) : Int)))) else none) else none) else (impl_isPoly.l0 k p p (p.length : Int) ((i + 1 : Nat) : Int))) else (some false)) else (some false))) b → Ev (fun k => impl_isPoly.l0 k p p (p.length : Int) (i : Int)) b := by
      intro b h
      refine Ev.step (fun k => rfl) ?_
      simp only [impl_isPoly.l0]
      rw [e1, e2, ht, hs]
      simp only [inside_eq, hasDegree_eq, Option.bind_some]
      exact Ev_if (fun _ => Ev_if (fun _ => Ev_if (fun _ => h) (fun h => by omega)) (fun h => by omega)) (fun h => by omega)
    by_cases h0 : t.f0 = 0
    · refine ⟨false, S1 ?_, I1 ?_⟩
      · exact Ev_if (fun _ => Ev_if (fun _ => Ev.now _) (fun h => absurd h0 h)) (fun _ => Ev.now _)
      · exact Ev_if (fun _ => Ev.now _) (fun h => absurd h0 h)
    · by_cases hB : tB t = true
      · have hB2 := hB
        unfold tB at hB2
        simp only [Bool.and_eq_true] at hB2
        have hA : hasB t = true := hB2.2
        obtain ⟨b, r1, r2⟩ := ih (i + 1) (by omega) (by omega) (fun _ => by rw [show ((i + 1 : Nat) : Int) - 1 = (i : Int) by omega, ht]; exact hA)
        by_cases hi : 0 < i
        · by_cases ho : ordI s t ≥ 0
          · refine ⟨false, S1 ?_, I1 ?_⟩
            · exact Ev_if (fun _ => Ev_if (fun h => absurd h h0) (fun _ => Ev_if (fun _ => Ev_if (fun _ => Ev_if (fun _ => Ev_bindS (poOrder_eq s t (hp hi) hA) (Ev_if (fun _ => Ev.now _) (fun h => absurd ho h))) (fun h => by omega)) (fun h => by omega)) (fun h => by omega))) (fun h => absurd hB h)
            · exact Ev_if (fun h => absurd h h0) (fun _ => Ev_if (fun _ => Ev_if (fun _ => Ev_if (fun _ => Ev_if (fun _ => Ev_if (fun _ => Ev.bind (compareTerms_ev s t) (Ev_if (fun _ => Ev.now _) (fun h => absurd ho h))) (fun h => by omega)) (fun h => by omega)) (fun h => by omega)) (fun h => absurd hA h)) (fun h => absurd hB2.1 h))
          · refine ⟨b, S1 ?_, I1 ?_⟩
            · exact Ev_if (fun _ => Ev_if (fun h => absurd h h0) (fun _ => Ev_if (fun _ => Ev_if (fun _ => Ev_if (fun _ => Ev_bindS (poOrder_eq s t (hp hi) hA) (Ev_if (fun h => absurd h ho) (fun _ => r1))) (fun h => by omega)) (fun h => by omega)) (fun h => by omega))) (fun h => absurd hB h)
            · exact Ev_if (fun h => absurd h h0) (fun _ => Ev_if (fun _ => Ev_if (fun _ => Ev_if (fun _ => Ev_if (fun _ => Ev_if (fun _ => Ev.bind (compareTerms_ev s t) (Ev_if (fun h => absurd h ho) (fun _ => r2))) (fun h => by omega)) (fun h => by omega)) (fun h => by omega)) (fun h => absurd hA h)) (fun h => absurd hB2.1 h))
        · refine ⟨b, S1 ?_, I1 ?_⟩
          · exact Ev_if (fun _ => Ev_if (fun h => absurd h h0) (fun _ => Ev_if (fun h => by omega) (fun _ => r1))) (fun h => absurd hB h)
          · exact Ev_if (fun h => absurd h h0) (fun _ => Ev_if (fun _ => Ev_if (fun _ => Ev_if (fun h => by omega) (fun _ => r2)) (fun h => absurd hA h)) (fun h => absurd hB2.1 h))
      · refine ⟨false, S1 ?_, I1 ?_⟩
        · exact Ev_if (fun h => absurd h hB) (fun _ => Ev.now _)
        · exact Ev_if (fun h => absurd h h0) (fun _ => Ev_if (fun h1 => Ev_if (fun h2 => absurd (by unfold tB; rw [h1, h2]; rfl) hB) (fun _ => Ev.now _)) (fun _ => Ev.now _))
theorem po_ev (p : List S71) (hl : p.length ≤ 1000000) : ∃ b, Ev (fun k => spec_poGood.f k p) b ∧ Ev (fun k => impl_isPoly.f k p) b := by
  have h := po_l0 p hl p.length 0 (by omega) (by omega) (fun h => by omega)
  simpa [spec_poGood.f, impl_isPoly.f] using h
theorem terms_l0 (l : List Int) (hl : l.length ≤ 1000000) (d : Nat) : ∀ (i : Nat) (acc : List S71), i ≤ l.length → l.length - i = d → acc.length ≤ i → ∃ r1 r2, Ev (fun k => spec_TermsOf.l0 k acc l (l.length : Int) (i : Int)) (r1, r2) ∧ Ev (fun k => impl_TermsOf.l0 k acc l (l.length : Int) (i : Int)) (r1, r2) ∧ r1.length ≤ 1000000 := by
  induction d with
  | zero =>
    intro i acc h1 hd ha
    obtain ⟨b, hs, hi⟩ := po_ev acc (by omega)
    cases b with
    | true =>
      refine ⟨acc, true, Ev.step (fun k => rfl) ?_, Ev.step (fun k => rfl) ?_, by omega⟩
      · simp only [spec_TermsOf.l0]
        exact Ev_if (fun h => by omega) (fun _ => Ev.bind hs (Ev.now _))
      · simp only [impl_TermsOf.l0, impl_polyResult.f]
        exact Ev_if (fun h => by omega) (fun _ => Ev.bind (Ev.bind hi (Ev.now _)) (Ev.now _))
    | false =>
      refine ⟨[], false, Ev.step (fun k => rfl) ?_, Ev.step (fun k => rfl) ?_, by simp⟩
      · simp only [spec_TermsOf.l0]
        exact Ev_if (fun h => by omega) (fun _ => Ev.bind hs (Ev.now _))
      · simp only [impl_TermsOf.l0, impl_polyResult.f]
        exact Ev_if (fun h => by omega) (fun _ => Ev.bind (Ev.bind hi (Ev.now _)) (Ev.now _))
  | succ d ih =>
    intro i acc h1 hd ha
    have e2 : wrap64 ((i : Int) + 1) = ((i + 1 : Nat) : Int) := wrap_next i (by omega)
    by_cases h0 : rd l (i : Int) = 0
    · obtain ⟨r1, r2, hs, hi, hr⟩ := ih (i + 1) acc (by omega) (by omega) (by omega)
      refine ⟨r1, r2, Ev.step (fun k => rfl) ?_, Ev.step (fun k => rfl) ?_, hr⟩
      · simp only [spec_TermsOf.l0]; rw [e2]
        exact Ev_if (fun _ => Ev_if (fun _ => Ev_if (fun _ => Ev_if (fun _ => hs) (fun h => absurd h0 h)) (fun h => by omega)) (fun h => by omega)) (fun h => by omega)
      · simp only [impl_TermsOf.l0]; rw [e2]
        exact Ev_if (fun _ => Ev_if (fun _ => Ev_if (fun _ => Ev_if (fun _ => hi) (fun h => absurd h0 h)) (fun h => by omega)) (fun h => by omega)) (fun h => by omega)
    · obtain ⟨r1, r2, hs, hi, hr⟩ := ih (i + 1) (acc ++ [(⟨rd l (i : Int), (i : Int), 0, 0⟩ : S71)]) (by omega) (by omega) (by simp; omega)
      refine ⟨r1, r2, Ev.step (fun k => rfl) ?_, Ev.step (fun k => rfl) ?_, hr⟩
      · simp only [spec_TermsOf.l0]; rw [e2]
        exact Ev_if (fun _ => Ev_if (fun _ => Ev_if (fun _ => Ev_if (fun h => absurd h h0) (fun _ => Ev_if (fun _ => hs) (fun h => by omega))) (fun h => by omega)) (fun h => by omega)) (fun h => by omega)
      · simp only [impl_TermsOf.l0]; rw [e2]
        exact Ev_if (fun _ => Ev_if (fun _ => Ev_if (fun _ => Ev_if (fun h => absurd h h0) (fun _ => Ev_if (fun _ => hi) (fun h => by omega))) (fun h => by omega)) (fun h => by omega)) (fun h => by omega)
theorem terms_j0 (l : List Int) (hl : l.length ≤ 1000000) (c : Bool) : ∃ r1 r2, Ev (fun k => spec_TermsOf.j0 k l c) (r1, r2) ∧ Ev (fun k => impl_TermsOf.j0 k l c) (r1, r2) ∧ r1.length ≤ 1000000 := by
  cases c with
  | true => exact ⟨[], false, Ev.step (fun k => rfl) (Ev.now _), Ev.step (fun k => rfl) (Ev.now _), by simp⟩
  | false =>
    obtain ⟨r1, r2, hs, hi, hr⟩ := terms_l0 l hl l.length 0 [] (by omega) (by omega) (by simp)
    exact ⟨r1, r2, Ev.step (fun k => rfl) hs, Ev.step (fun k => rfl) hi, hr⟩
theorem Pure_holds : Pure := by
  intro l hl _
  have key : ∃ r1 r2, Ev (fun k => spec_TermsOf.f k l) (r1, r2) ∧ Ev (fun k => impl_TermsOf.f k l) (r1, r2) ∧ r1.length ≤ 1000000 := by
    cases hg : goodB l with
    | false =>
      obtain ⟨r1, r2, hs, hi, hr⟩ := terms_j0 l hl true
      refine ⟨r1, r2, ?_, ?_, hr⟩
      · refine Ev.bind (sgGood_ev l hl) ?_; rw [hg]; exact hs
      · refine Ev.bind (isSingle_ev l hl) ?_; rw [hg]; exact hi
    | true =>
      obtain ⟨r1, r2, hs, hi, hr⟩ := terms_j0 l hl (decide ((l.length : Int) > 5))
      refine ⟨r1, r2, ?_, ?_, hr⟩
      · refine Ev.bind (sgGood_ev l hl) ?_; rw [hg]; exact hs
      · refine Ev.bind (isSingle_ev l hl) ?_; rw [hg]; exact hi
  obtain ⟨r1, r2, h1, h2, h3⟩ := key
  obtain ⟨ks, ki, h, h'⟩ := Ev_both h1 h2
  exact ⟨ks, ki, r1, r2, h, h', h3⟩
end Go.Proofs.Ytolacpnhndbalaa.QTermsOf
