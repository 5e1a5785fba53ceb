/- Plain law: the reference's and the program's MultiplySingle come to the same, over numbers and lists alone. -/
import Derived.Test.YtolacpnhndbalaaLMultiplySingle
namespace Go.Proofs.Ytolacpnhndbalaa.QMultiplySingle
open Go.RowKit Go.Proofs.YtolacpnhndbalaaW.PrintWords Go.Proofs.YtolacpnhndbalaaW.PrintLast Go.Proofs.YtolacpnhndbalaaW.PrintMore
set_option linter.unusedVariables false
set_option linter.unusedSimpArgs false
theorem Ev_if {α : Type} {c : Prop} [Decidable c] {g f : Nat → Option α} {r : α} (hp : c → Ev g r) (hn : ¬ c → Ev f r) : Ev (fun k => if c then g k else f k) r := by
  by_cases h : c
  · simp only [if_pos h]; exact hp h
  · simp only [if_neg h]; exact hn h
theorem Ev_bindS {α β : Type} {a : Option α} {x : α} {f : Nat → α → Option β} {r : β} (h : a = some x) (k : Ev (fun n => f n x) r) : Ev (fun n => a.bind (f n)) r := by
  subst h; simpa only [Option.bind_some] using k
theorem Ev_eq {α : Type} {g : Nat → Option α} {r r' : α} (h : Ev g r) (e : r = r') : Ev g r' := e ▸ h
theorem Ev_both {α β : Type} {g : Nat → Option α} {f : Nat → Option β} {r : α} {q : β} (h : Ev g r) (h' : Ev f q) : ∃ ks ki, g ks = some r ∧ f ki = some q := by
  obtain ⟨a, ha⟩ := h.rounds
  obtain ⟨b, hb⟩ := h'.rounds
  exact ⟨a, b, ha, hb⟩
theorem l1In_eq (a b c : Int) : spec_l1In.f a b c = some (decide (b ≤ a ∧ a ≤ c)) := by
  unfold spec_l1In.f; by_cases h : b ≤ a <;> simp [h]
theorem inside_eq (a b c : Int) : impl_inside.f a b c = some (decide (b ≤ a ∧ a ≤ c)) := by
  unfold impl_inside.f; by_cases h : b ≤ a <;> simp [h]
theorem rd_getElem (l : List Int) (i : Nat) (h : i < l.length) : rd l (i : Int) = l[i] := by simp [rd, h]
theorem wrap_next (i : Nat) (h : i < 9223372036854775807) : wrap64 ((i : Int) + 1) = ((i + 1 : Nat) : Int) := by unfold wrap64; omega
theorem all_drop (l : List Int) (p : Int → Bool) (i : Nat) (h : i < l.length) : (l.drop i).all p = (p (rd l (i : Int)) && (l.drop (i + 1)).all p) := by
  rw [List.drop_eq_getElem_cons h, List.all_cons, rd_getElem l i h]
theorem rd_mem (l : List Int) (i : Nat) (h : i < l.length) : rd l (i : Int) ∈ l := by rw [rd_getElem l i h]; exact List.getElem_mem h
theorem drop_rd (l : List Int) (i : Nat) (h : i < l.length) : l.drop i = rd l (i : Int) :: l.drop (i + 1) := by rw [rd_getElem l i h]; exact List.drop_eq_getElem_cons h
theorem l1All_l0 (l : List Int) (lo hi : Int) (hl : l.length ≤ 1000000) (d : Nat) : ∀ (k i : Nat), i ≤ l.length → l.length - i = d → d < k → spec_l1All.l0 k lo hi l (l.length : Int) (i : Int) = some ((l.drop i).all fun x => decide (lo ≤ x ∧ x ≤ hi)) := by
  induction d with
  | zero =>
    intro k i h1 hd hk
    obtain ⟨k, rfl⟩ : ∃ m, k = m + 1 := ⟨k - 1, by omega⟩
    simp only [spec_l1All.l0]; rw [if_neg (by omega), List.drop_eq_nil_of_le (by omega)]; rfl
  | succ d ih =>
    intro k i h1 hd hk
    obtain ⟨k, rfl⟩ : ∃ m, k = m + 1 := ⟨k - 1, by omega⟩
    simp only [spec_l1All.l0]
    rw [if_pos (by omega), if_pos (by omega), if_pos (by omega), l1In_eq, Option.bind_some, wrap_next i (by omega), all_drop l _ i (by omega)]
    by_cases hp : lo ≤ rd l (i : Int) ∧ rd l (i : Int) ≤ hi
    · rw [if_pos (decide_eq_true hp), decide_eq_true hp, ih k (i + 1) (by omega) (by omega) (by omega)]; rfl
    · rw [if_neg (by rw [decide_eq_false hp]; decide), decide_eq_false hp]; rfl
theorem l1All_eq (l : List Int) (lo hi : Int) (hl : l.length ≤ 1000000) (k : Nat) (hk : l.length < k) : spec_l1All.f k l lo hi = some (l.all fun x => decide (lo ≤ x ∧ x ≤ hi)) := by
  unfold spec_l1All.f
  have h := l1All_l0 l lo hi hl l.length k 0 (by omega) (by omega) hk
  simpa using h
def smallB (l : List Int) : Bool := l.all fun x => decide ((-1000000) ≤ x ∧ x ≤ 1000000)
def lastB (l : List Int) : Bool := if l.length = 0 then true else (rd l ((l.length : Int) - 1) != 0)
/-- A single polynomial. -/
def goodB (l : List Int) : Bool := decide (l.length ≤ 9) && (smallB l && lastB l)
theorem sgGood_eq (l : List Int) (hl : l.length ≤ 1000000) (k : Nat) (hk : l.length < k) : spec_sgGood.f k l = some (goodB l) := by
  unfold spec_sgGood.f goodB
  by_cases h9 : l.length ≤ 9
  · rw [if_neg (by omega), l1All_eq l _ _ hl k hk, Option.bind_some, decide_eq_true h9, Bool.true_and]
    change (if smallB l = true then _ else _) = _
    cases hs : smallB l with
    | false => rfl
    | true =>
      rw [if_pos rfl, Bool.true_and]
      unfold lastB
      by_cases h0 : l.length = 0
      · rw [if_pos (by omega), if_pos h0]
      · rw [if_neg (by omega), if_neg h0, show wrap64 ((l.length : Int) - 1) = (l.length : Int) - 1 by unfold wrap64; omega, if_pos (by omega), if_pos (by omega)]
  · rw [if_pos (by omega), decide_eq_false h9]; rfl
theorem isSingle_l0 (l : List Int) (hl : l.length ≤ 1000000) (d : Nat) : ∀ (k i : Nat), i ≤ l.length → l.length - i = d → d < k → impl_isSingle.l0 k l l (l.length : Int) (i : Int) = some (((l.drop i).all fun x => decide ((-1000000) ≤ x ∧ x ≤ 1000000)) && (if l.length = 0 then true else decide (l.length ≤ 9) && (rd l ((l.length : Int) - 1) != 0))) := by
  induction d with
  | zero =>
    intro k i h1 hd hk
    obtain ⟨k, rfl⟩ : ∃ m, k = m + 1 := ⟨k - 1, by omega⟩
    simp only [impl_isSingle.l0]; rw [if_neg (by omega), List.drop_eq_nil_of_le (by omega)]
    by_cases h0 : l.length = 0
    · rw [if_pos (by omega), if_pos h0]; rfl
    · rw [if_neg (by omega), if_neg h0]
      by_cases h9 : l.length ≤ 9
      · rw [if_pos (by omega), show wrap64 ((l.length : Int) - 1) = (l.length : Int) - 1 by unfold wrap64; omega, if_pos (by omega), if_pos (by omega), decide_eq_true h9]; rfl
      · rw [if_neg (by omega), decide_eq_false h9]; rfl
  | succ d ih =>
    intro k i h1 hd hk
    obtain ⟨k, rfl⟩ : ∃ m, k = m + 1 := ⟨k - 1, by omega⟩
    simp only [impl_isSingle.l0]
    rw [if_pos (by omega), if_pos (by omega), if_pos (by omega), inside_eq, Option.bind_some, wrap_next i (by omega), all_drop l _ i (by omega)]
    by_cases hp : (-1000000) ≤ rd l (i : Int) ∧ rd l (i : Int) ≤ 1000000
    · rw [if_pos (decide_eq_true hp), decide_eq_true hp, ih k (i + 1) (by omega) (by omega) (by omega)]; rfl
    · rw [if_neg (by rw [decide_eq_false hp]; decide), decide_eq_false hp]; rfl
theorem isSingle_eq (l : List Int) (hl : l.length ≤ 1000000) (k : Nat) (hk : l.length < k) : impl_isSingle.f k l = some (goodB l) := by
  unfold impl_isSingle.f
  have h := isSingle_l0 l hl l.length k 0 (by omega) (by omega) hk
  simp only [List.drop_zero] at h
  rw [show ((0 : Nat) : Int) = 0 from rfl] at h
  rw [h]
  congr 1
  unfold goodB lastB
  change (smallB l && _) = _
  cases smallB l <;> by_cases h0 : l.length = 0 <;> simp [h0]
theorem sgGood_ev (l : List Int) (hl : l.length ≤ 1000000) : Ev (fun k => spec_sgGood.f k l) (goodB l) := ⟨l.length + 1, fun k hk => sgGood_eq l hl k (by omega)⟩
theorem isSingle_ev (l : List Int) (hl : l.length ≤ 1000000) : Ev (fun k => impl_isSingle.f k l) (goodB l) := ⟨l.length + 1, fun k hk => isSingle_eq l hl k (by omega)⟩
theorem good_bound (l : List Int) (h : goodB l = true) : ∀ x ∈ l, (-1000000 : Int) ≤ x ∧ x ≤ 1000000 := by
  unfold goodB smallB at h
  simp only [Bool.and_eq_true, List.all_eq_true, decide_eq_true_eq] at h
  exact h.2.1
theorem good_length (l : List Int) (h : goodB l = true) : l.length ≤ 9 := by
  unfold goodB at h
  simp only [Bool.and_eq_true, decide_eq_true_eq] at h
  exact h.1
theorem good_last (l : List Int) (h : goodB l = true) (h0 : 0 < l.length) : rd l ((l.length : Int) - 1) ≠ 0 := by
  unfold goodB lastB at h
  simp only [Bool.and_eq_true] at h
  have := h.2.2
  rw [if_neg (by omega)] at this
  simpa using this
theorem List_snoc (l : List Int) (h : 0 < l.length) : ∃ q a, l = q ++ [a] := by
  rcases List.eq_nil_or_concat l with e | ⟨q, a, e⟩
  · simp [e] at h
  · exact ⟨q, a, by rw [e, List.concat_eq_append]⟩
def trimI (l : List Int) : List Int := (l.reverse.dropWhile (fun x => x == 0)).reverse
theorem trimI_nil : trimI [] = [] := rfl
theorem trimI_zero (q : List Int) : trimI (q ++ [0]) = trimI q := by simp [trimI]
theorem trimI_last (q : List Int) (a : Int) (h : a ≠ 0) : trimI (q ++ [a]) = q ++ [a] := by simp [trimI, h]
theorem trimI_length (l : List Int) : (trimI l).length ≤ l.length := by
  unfold trimI; rw [List.length_reverse]; exact Nat.le_trans (List.dropWhile_sublist _).length_le (by simp)
theorem own_eq (l : List Int) (h : l.length ≤ 1000000) : spec_l1Own.f l = some l := by
  unfold spec_l1Own.f; simp only [Option.bind_some, List.length_nil, List.nil_append]; rw [if_pos (by omega)]
theorem clone_eq (l : List Int) (h : l.length ≤ 1000000) : slices_Clone_int_int.f l = some l := by
  unfold slices_Clone_int_int.f; rw [if_pos (by omega)]
theorem rd_last (q : List Int) (a : Int) : rd (q ++ [a]) (q.length : Int) = a := by simp [rd]
theorem sgTrim_eq (n : Nat) : ∀ l : List Int, l.length = n → l.length ≤ 1000000 → Ev (fun k => spec_sgTrim.f k l) (trimI l) := by
  induction n with
  | zero =>
    intro l hn hl
    obtain rfl := List.eq_nil_of_length_eq_zero hn
    refine Ev.step (fun k => rfl) ?_
    simp only [spec_sgTrim.f, spec_sgTrim.l0]
    exact Ev_if (fun h => by simp at h) (fun _ => Ev_bindS (own_eq [] (by simp)) (Ev.now _))
  | succ n ih =>
    intro l hn hl
    obtain ⟨q, a, rfl⟩ : ∃ q a, l = q ++ [a] := List_snoc l (by omega)
    have hq : q.length = n := by simpa using hn
    have e1 : wrap64 (((q ++ [a]).length : Int) - 1) = (q.length : Int) := by simp only [List.length_append, List.length_singleton] at hl ⊢; unfold wrap64; omega
    have e2 : (q ++ [a]).take ((q.length : Int)).toNat = q := by simp
    refine Ev.step (fun k => rfl) ?_
    simp only [spec_sgTrim.f, spec_sgTrim.l0]
    rw [e1, rd_last, e2]
    simp only [List.length_append, List.length_singleton] at hl ⊢
    refine Ev_if (fun _ => Ev_if (fun _ => Ev_if (fun _ => Ev_if (fun h => Ev_if (fun _ => ?_) (fun h => by omega)) (fun h => ?_)) (fun h => by omega)) (fun h => by omega)) (fun h => by omega)
    · subst h; rw [trimI_zero]; exact ih q hq (by omega)
    · rw [trimI_last q a h]; exact Ev_bindS (own_eq _ (by simp; omega)) (Ev.now _)
theorem stripped_eq (n : Nat) : ∀ l : List Int, l.length = n → l.length ≤ 1000000 → Ev (fun k => impl_stripped.f k l) (trimI l) := by
  induction n with
  | zero =>
    intro l hn hl
    obtain rfl := List.eq_nil_of_length_eq_zero hn
    refine Ev.step (fun k => rfl) ?_
    simp only [impl_stripped.f, impl_stripped.l0]
    exact Ev_if (fun h => by simp at h) (fun _ => Ev_bindS (clone_eq [] (by simp)) (Ev.now _))
  | succ n ih =>
    intro l hn hl
    obtain ⟨q, a, rfl⟩ : ∃ q a, l = q ++ [a] := List_snoc l (by omega)
    have hq : q.length = n := by simpa using hn
    have e1 : wrap64 (((q ++ [a]).length : Int) - 1) = (q.length : Int) := by simp only [List.length_append, List.length_singleton] at hl ⊢; unfold wrap64; omega
    have e2 : (q ++ [a]).take ((q.length : Int)).toNat = q := by simp
    refine Ev.step (fun k => rfl) ?_
    simp only [impl_stripped.f, impl_stripped.l0]
    rw [e1, rd_last, e2]
    simp only [List.length_append, List.length_singleton] at hl ⊢
    refine Ev_if (fun _ => Ev_if (fun _ => Ev_if (fun _ => Ev_if (fun h => Ev_if (fun _ => ?_) (fun h => by omega)) (fun h => ?_)) (fun h => by omega)) (fun h => by omega)) (fun h => by omega)
    · subst h; rw [trimI_zero]; exact ih q hq (by omega)
    · rw [trimI_last q a h]; exact Ev_bindS (clone_eq _ (by simp; omega)) (Ev.now _)
theorem single_result (d : List Int) (hd : d.length ≤ 1000000) : ∃ r1 r2, Ev (fun k => spec_sgIf.f k d) (r1, r2) ∧ Ev (fun k => impl_singleResult.f k (trimI d) true) (r1, r2) ∧ r1.length ≤ 9 := by
  have hl := trimI_length d
  cases hg : goodB (trimI d) with
  | false =>
    refine ⟨[], false, ?_, ?_, by simp⟩
    · refine Ev.bind (sgTrim_eq _ d rfl hd) (Ev.bind (sgGood_ev _ (by omega)) ?_); rw [hg]; exact Ev.now _
    · refine Ev_if (fun _ => Ev.bind (isSingle_ev _ (by omega)) ?_) (fun h => absurd rfl h); rw [hg]; exact Ev.now _
  | true =>
    refine ⟨trimI d, true, ?_, ?_, good_length _ hg⟩
    · refine Ev.bind (sgTrim_eq _ d rfl hd) (Ev.bind (sgGood_ev _ (by omega)) ?_); rw [hg]; exact Ev.now _
    · refine Ev_if (fun _ => Ev.bind (isSingle_ev _ (by omega)) ?_) (fun h => absurd rfl h); rw [hg]; exact Ev.now _
theorem rd_app (X : List Int) (j : Nat) (h : j < X.length) : rd (X ++ [0]) (j : Int) = rd X (j : Int) := by
  rw [rd_getElem _ j (by simp; omega), rd_getElem X j h, List.getElem_append_left h]
theorem wrap_sum (i k : Nat) (h : i + k ≤ 4000000000000) : wrap64 ((i : Int) + (k : Int)) = ((i + k : Nat) : Int) := by unfold wrap64; omega
/-- One row of a product: the reference's cells and the program's, which has one cell more, go side by side. -/
theorem prod_l1 (p q : List Int) (i : Nat) (a : Int) (hi : i < p.length) (hp : p.length ≤ 1000000) (hq : q.length ≤ 1000000) (n : Nat) : ∀ (k : Nat) (X : List Int), k ≤ q.length → q.length - k = n → i + q.length ≤ X.length →
    ∃ X', X'.length = X.length ∧ (∀ r, Ev (fun z => spec_sgProduct.l0 z q X' p (p.length : Int) ((i + 1 : Nat) : Int)) r → Ev (fun z => spec_sgProduct.l1 z q X (i : Int) a p (p.length : Int) (i : Int) q (q.length : Int) (k : Int)) r) ∧
      (∀ r, Ev (fun z => impl_multiplySingle.l0 z q (X' ++ [0]) p (p.length : Int) ((i + 1 : Nat) : Int)) r → Ev (fun z => impl_multiplySingle.l1 z q (X ++ [0]) (i : Int) a p (p.length : Int) (i : Int) q (q.length : Int) (k : Int)) r) := by
  induction n with
  | zero =>
    intro k X hk hn hX
    refine ⟨X, rfl, fun r hr => ?_, fun r hr => ?_⟩
    · refine Ev.step (fun z => rfl) ?_
      simp only [spec_sgProduct.l1]
      rw [wrap_next i (by omega)]
      exact Ev_if (fun h => by omega) (fun _ => hr)
    · refine Ev.step (fun z => rfl) ?_
      simp only [impl_multiplySingle.l1]
      rw [wrap_next i (by omega)]
      exact Ev_if (fun h => by omega) (fun _ => hr)
  | succ n ih =>
    intro k X hk hn hX
    obtain ⟨v, hv⟩ : ∃ v, v = wrap64 (rd X ((i + k : Nat) : Int) + wrap64 (a * rd q (k : Int))) := ⟨_, rfl⟩
    obtain ⟨X', h1, h2, h3⟩ := ih (k + 1) (X.set (i + k) v) (by omega) (by omega) (by rw [List.length_set]; omega)
    refine ⟨X', by rw [h1, List.length_set], fun r hr => ?_, fun r hr => ?_⟩
    · refine Ev.step (fun z => rfl) ?_
      simp only [spec_sgProduct.l1]
      rw [wrap_next k (by omega), wrap_sum i k (by omega), Int.toNat_natCast, ← hv]
      exact Ev_if (fun _ => Ev_if (fun _ => Ev_if (fun _ => Ev_if (fun _ => Ev_if (fun _ => h2 r hr) (fun h => by omega)) (fun h => by omega)) (fun h => by omega)) (fun h => by omega)) (fun h => by omega)
    · have e1 := rd_app X (i + k) (by omega)
      have e2 : (X ++ [0]).set (i + k) v = X.set (i + k) v ++ [0] := List.set_append_left _ _ (by omega)
      refine Ev.step (fun z => rfl) ?_
      simp only [impl_multiplySingle.l1]
      rw [wrap_next k (by omega), wrap_sum i k (by omega), Int.toNat_natCast, e1, ← hv, e2]
      simp only [List.length_append, List.length_singleton]
      exact Ev_if (fun _ => Ev_if (fun _ => Ev_if (fun _ => Ev_if (fun _ => Ev_if (fun _ => h3 r hr) (fun h => by omega)) (fun h => by omega)) (fun h => by omega)) (fun h => by omega)) (fun h => by omega)
theorem prod_l0 (p q : List Int) (hp : p.length ≤ 1000000) (hq : q.length ≤ 1000000) (n : Nat) : ∀ (i : Nat) (X : List Int), i ≤ p.length → p.length - i = n → p.length + q.length ≤ X.length + 1 →
    ∃ X', X'.length = X.length ∧ Ev (fun z => spec_sgProduct.l0 z q X p (p.length : Int) (i : Int)) X' ∧
      (∀ r, Ev (fun z => impl_stripped.f z (X' ++ [0])) r → Ev (fun z => impl_multiplySingle.l0 z q (X ++ [0]) p (p.length : Int) (i : Int)) r) := by
  induction n with
  | zero =>
    intro i X hi hn hX
    refine ⟨X, rfl, ?_, fun r hr => ?_⟩
    · refine Ev.step (fun z => rfl) ?_
      simp only [spec_sgProduct.l0]
      exact Ev_if (fun h => by omega) (fun _ => Ev.now _)
    · refine Ev.step (fun z => rfl) ?_
      simp only [impl_multiplySingle.l0]
      exact Ev_if (fun h => by omega) (fun _ => Ev.bind hr (Ev.now _))
  | succ n ih =>
    intro i X hi hn hX
    obtain ⟨X1, h1, h2, h3⟩ := prod_l1 p q i (rd p (i : Int)) (by omega) hp hq q.length 0 X (by omega) (by omega) (by omega)
    obtain ⟨X', e1, e2, e3⟩ := ih (i + 1) X1 (by omega) (by omega) (by omega)
    refine ⟨X', by omega, ?_, fun r hr => ?_⟩
    · refine Ev.step (fun z => rfl) ?_
      simp only [spec_sgProduct.l0]
      exact Ev_if (fun _ => Ev_if (fun _ => Ev_if (fun _ => h2 _ e2) (fun h => by omega)) (fun h => by omega)) (fun h => by omega)
    · refine Ev.step (fun z => rfl) ?_
      simp only [impl_multiplySingle.l0]
      exact Ev_if (fun _ => Ev_if (fun _ => Ev_if (fun _ => h3 _ (e3 r hr)) (fun h => by omega)) (fun h => by omega)) (fun h => by omega)
/-- A row of zeros stays so where the other factor is empty. -/
theorem prod_none (p : List Int) (hp : p.length ≤ 1000000) (X : List Int) (n : Nat) : ∀ (i : Nat), i ≤ p.length → p.length - i = n →
    ∀ r, Ev (fun z => impl_stripped.f z X) r → Ev (fun z => impl_multiplySingle.l0 z [] X p (p.length : Int) (i : Int)) r := by
  induction n with
  | zero =>
    intro i hi hn r hr
    refine Ev.step (fun z => rfl) ?_
    simp only [impl_multiplySingle.l0]
    exact Ev_if (fun h => by omega) (fun _ => Ev.bind hr (Ev.now _))
  | succ n ih =>
    intro i hi hn r hr
    refine Ev.step (fun z => rfl) ?_
    simp only [impl_multiplySingle.l0]
    refine Ev_if (fun _ => Ev_if (fun _ => Ev_if (fun _ => ?_) (fun h => by omega)) (fun h => by omega)) (fun h => by omega)
    refine Ev.step (fun z => rfl) ?_
    simp only [impl_multiplySingle.l1]
    rw [wrap_next i (by omega)]
    exact Ev_if (fun h => by simp at h) (fun _ => ih (i + 1) (by omega) (by omega) r hr)
theorem trimI_zeros (n : Nat) : trimI (List.replicate n 0) = [] := by
  induction n with
  | zero => rfl
  | succ n ih => rw [List.replicate_succ', trimI_zero, ih]
theorem product_ev (p q : List Int) (hp : p.length ≤ 500000) (hq : q.length ≤ 500000) : ∃ d, Ev (fun z => spec_sgProduct.f z p q) d ∧ Ev (fun z => impl_multiplySingle.f z p q) (trimI d) ∧ d.length ≤ 1000000 := by
  by_cases he : p.length = 0 ∨ q.length = 0
  · refine ⟨[], ?_, ?_, by simp⟩
    · refine Ev_if (fun _ => Ev.step (f := fun _ => some []) (fun z => rfl) (Ev.now _)) (fun h => ?_)
      have e : ((q.length : Int) == 0) = true := by simp only [beq_iff_eq]; omega
      rw [e]; exact Ev.step (f := fun _ => some []) (fun z => rfl) (Ev.now _)
    · unfold impl_multiplySingle.f
      rw [wrap_sum _ _ (by omega), Int.toNat_natCast]
      refine Ev_if (fun _ => Ev_if (fun _ => ?_) (fun h => by omega)) (fun h => by omega)
      have hz : Ev (fun z => impl_stripped.f z (List.replicate (p.length + q.length) 0)) (trimI []) := by
        have := stripped_eq _ (List.replicate (p.length + q.length) 0) rfl (by simp; omega)
        rwa [trimI_zeros] at this
      rcases he with h | h
      · have := List.eq_nil_of_length_eq_zero h
        subst this
        refine Ev.step (fun z => rfl) ?_
        simp only [impl_multiplySingle.l0]
        exact Ev_if (fun h => by simp at h) (fun _ => Ev.bind hz (Ev.now _))
      · have := List.eq_nil_of_length_eq_zero h
        subst this
        exact prod_none p (by omega) _ p.length 0 (by omega) (by omega) _ hz
  · obtain ⟨X', h1, h2, h3⟩ := prod_l0 p q (by omega) (by omega) p.length 0 (List.replicate (p.length + q.length - 1) 0) (by omega) (by omega) (by simp; omega)
    rw [List.length_replicate] at h1
    refine ⟨X', ?_, ?_, by omega⟩
    · refine Ev_if (fun h => by omega) (fun h => ?_)
      have e : ((q.length : Int) == 0) = false := by simp only [beq_eq_false_iff_ne]; omega
      rw [e]
      refine Ev.step (fun z => rfl) ?_
      simp only [spec_sgProduct.j0]
      rw [wrap_sum _ _ (by omega), show wrap64 (((p.length + q.length : Nat) : Int) - 1) = ((p.length + q.length - 1 : Nat) : Int) by unfold wrap64; omega, Int.toNat_natCast]
      exact Ev_if (fun h => by cases h) (fun _ => Ev_if (fun _ => Ev_if (fun _ => h2) (fun h => by omega)) (fun h => by omega))
    · unfold impl_multiplySingle.f
      rw [wrap_sum _ _ (by omega), Int.toNat_natCast]
      refine Ev_if (fun _ => Ev_if (fun _ => ?_) (fun h => by omega)) (fun h => by omega)
      have e : List.replicate (p.length + q.length) (0 : Int) = List.replicate (p.length + q.length - 1) 0 ++ [0] := by
        rw [← List.replicate_succ']; congr 1; omega
      rw [e]
      refine h3 _ ?_
      have := stripped_eq _ (X' ++ [0]) rfl (by simp; omega)
      rwa [trimI_zero] at this
theorem Pure_holds : Pure := by
  intro p q hp _ hq _ _
  have key : ∃ r1 r2, Ev (fun k => spec_MultiplySingle.f k p q) (r1, r2) ∧ Ev (fun k => impl_MultiplySingle.f k p q) (r1, r2) ∧ r1.length ≤ 1000000 := by
    have hno : (goodB p = false ∨ goodB q = false) → Ev (fun k => spec_MultiplySingle.f k p q) ([], false) ∧ Ev (fun k => impl_MultiplySingle.f k p q) ([], false) := by
      intro h
      constructor
      · refine Ev.bind (sgGood_ev p hp) ?_
        refine Ev_if (fun hg => Ev.bind (sgGood_ev q hq) ?_) (fun _ => Ev.step (f := fun _ => some ([], false)) (fun z => rfl) (Ev.now _))
        have e : goodB q = false := h.resolve_left (by rw [hg]; decide)
        rw [e]; exact Ev.step (f := fun _ => some ([], false)) (fun z => rfl) (Ev.now _)
      · refine Ev.bind (isSingle_ev p hp) ?_
        refine Ev_if (fun hg => Ev.bind (isSingle_ev q hq) ?_) (fun _ => Ev.step (f := fun _ => some ([], false)) (fun z => rfl) (Ev.now _))
        have e : goodB q = false := h.resolve_left (by rw [hg]; decide)
        rw [e]; exact Ev.step (f := fun _ => some ([], false)) (fun z => rfl) (Ev.now _)
    cases hgp : goodB p with
    | false => exact ⟨_, _, (hno (.inl hgp)).1, (hno (.inl hgp)).2, by simp⟩
    | true =>
      cases hgq : goodB q with
      | false => exact ⟨_, _, (hno (.inr hgq)).1, (hno (.inr hgq)).2, by simp⟩
      | true =>
        have h1 := good_length p hgp
        have h2 := good_length q hgq
        obtain ⟨d, e1, e2, e3⟩ := product_ev p q (by omega) (by omega)
        obtain ⟨r1, r2, f1, f2, f3⟩ := single_result d e3
        refine ⟨r1, r2, ?_, ?_, by omega⟩
        · refine Ev.bind (sgGood_ev p hp) ?_; rw [hgp]
          refine Ev_if (fun _ => Ev.bind (sgGood_ev q hq) ?_) (fun h => absurd rfl h); rw [hgq]
          refine Ev.step (fun z => rfl) ?_
          simp only [spec_MultiplySingle.j0]
          exact Ev_if (fun h => by cases h) (fun _ => Ev.bind e1 (Ev.bind f1 (Ev.now _)))
        · refine Ev.bind (isSingle_ev p hp) ?_; rw [hgp]
          refine Ev_if (fun _ => Ev.bind (isSingle_ev q hq) ?_) (fun h => absurd rfl h); rw [hgq]
          refine Ev.step (fun z => rfl) ?_
          simp only [impl_MultiplySingle.j0]
          exact Ev_if (fun h => by cases h) (fun _ => Ev.bind e2 (Ev.bind f2 (Ev.now _)))
  obtain ⟨r1, r2, h1, h2, h3⟩ := key
  obtain ⟨ks, ki, h, h'⟩ := Ev_both h1 h2
  exact ⟨ks, ki, r1, r2, h, h', h3⟩
end Go.Proofs.Ytolacpnhndbalaa.QMultiplySingle
