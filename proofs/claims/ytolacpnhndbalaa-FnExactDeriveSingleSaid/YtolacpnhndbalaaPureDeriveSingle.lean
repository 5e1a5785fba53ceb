/- Plain law: the reference's and the program's DeriveSingle come to the same, over numbers and lists alone. -/
import Derived.Test.YtolacpnhndbalaaLDeriveSingle
namespace Go.Proofs.Ytolacpnhndbalaa.QDeriveSingle
open Go.RowKit Go.Proofs.YtolacpnhndbalaaW.PrintWords Go.Proofs.YtolacpnhndbalaaW.PrintLast Go.Proofs.YtolacpnhndbalaaW.PrintMore
set_option linter.unusedVariables false
set_option linter.unusedSimpArgs false
theorem Ev_if {α : Type} {c : Prop} [Decidable c] {g f : Nat → Option α} {r : α} (hp : c → Ev g r) (hn : ¬ c → Ev f r) : Ev (fun k => if c then g k else f k) r := by
  by_cases h : c
  · simp only [if_pos h]; exact hp h
  · simp only [if_neg h]; exact hn h
theorem Ev_bindS {α β : Type} {a : Option α} {x : α} {f : Nat → α → Option β} {r : β} (h : a = some x) (k : Ev (fun n => f n x) r) : Ev (fun n => a.bind (f n)) r := by
  subst h; simpa only [Option.bind_some] using k
theorem Ev_eq {α : Type} {g : Nat → Option α} {r r' : α} (h : Ev g r) (e : r = r') : Ev g r' := e ▸ h
theorem Ev_both {α β : Type} {g : Nat → Option α} {f : Nat → Option β} {r : α} {q : β} (h : Ev g r) (h' : Ev f q) : ∃ ks ki, g ks = some r ∧ f ki = some q := by
  obtain ⟨a, ha⟩ := h.rounds
  obtain ⟨b, hb⟩ := h'.rounds
  exact ⟨a, b, ha, hb⟩
theorem l1In_eq (a b c : Int) : spec_l1In.f a b c = some (decide (b ≤ a ∧ a ≤ c)) := by
  unfold spec_l1In.f; by_cases h : b ≤ a <;> simp [h]
theorem inside_eq (a b c : Int) : impl_inside.f a b c = some (decide (b ≤ a ∧ a ≤ c)) := by
  unfold impl_inside.f; by_cases h : b ≤ a <;> simp [h]
theorem rd_getElem (l : List Int) (i : Nat) (h : i < l.length) : rd l (i : Int) = l[i] := by simp [rd, h]
theorem wrap_next (i : Nat) (h : i < 9223372036854775807) : wrap64 ((i : Int) + 1) = ((i + 1 : Nat) : Int) := by unfold wrap64; omega
theorem all_drop (l : List Int) (p : Int → Bool) (i : Nat) (h : i < l.length) : (l.drop i).all p = (p (rd l (i : Int)) && (l.drop (i + 1)).all p) := by
  rw [List.drop_eq_getElem_cons h, List.all_cons, rd_getElem l i h]
theorem rd_mem (l : List Int) (i : Nat) (h : i < l.length) : rd l (i : Int) ∈ l := by rw [rd_getElem l i h]; exact List.getElem_mem h
theorem drop_rd (l : List Int) (i : Nat) (h : i < l.length) : l.drop i = rd l (i : Int) :: l.drop (i + 1) := by rw [rd_getElem l i h]; exact List.drop_eq_getElem_cons h
theorem l1All_l0 (l : List Int) (lo hi : Int) (hl : l.length ≤ 1000000) (d : Nat) : ∀ (k i : Nat), i ≤ l.length → l.length - i = d → d < k → spec_l1All.l0 k lo hi l (l.length : Int) (i : Int) = some ((l.drop i).all fun x => decide (lo ≤ x ∧ x ≤ hi)) := by
  induction d with
  | zero =>
    intro k i h1 hd hk
    obtain ⟨k, rfl⟩ : ∃ m, k = m + 1 := ⟨k - 1, by omega⟩
    simp only [spec_l1All.l0]; rw [if_neg (by omega), List.drop_eq_nil_of_le (by omega)]; rfl
  | succ d ih =>
    intro k i h1 hd hk
    obtain ⟨k, rfl⟩ : ∃ m, k = m + 1 := ⟨k - 1, by omega⟩
    simp only [spec_l1All.l0]
    rw [if_pos (by omega), if_pos (by omega), if_pos (by omega), l1In_eq, Option.bind_some, wrap_next i (by omega), all_drop l _ i (by omega)]
    by_cases hp : lo ≤ rd l (i : Int) ∧ rd l (i : Int) ≤ hi
    · rw [if_pos (decide_eq_true hp), decide_eq_true hp, ih k (i + 1) (by omega) (by omega) (by omega)]; rfl
    · rw [if_neg (by rw [decide_eq_false hp]; decide), decide_eq_false hp]; rfl
theorem l1All_eq (l : List Int) (lo hi : Int) (hl : l.length ≤ 1000000) (k : Nat) (hk : l.length < k) : spec_l1All.f k l lo hi = some (l.all fun x => decide (lo ≤ x ∧ x ≤ hi)) := by
  unfold spec_l1All.f
  have h := l1All_l0 l lo hi hl l.length k 0 (by omega) (by omega) hk
  simpa using h
def smallB (l : List Int) : Bool := l.all fun x => decide ((-1000000) ≤ x ∧ x ≤ 1000000)
def lastB (l : List Int) : Bool := if l.length = 0 then true else (rd l ((l.length : Int) - 1) != 0)
/-- A single polynomial. -/
def goodB (l : List Int) : Bool := decide (l.length ≤ 9) && (smallB l && lastB l)
theorem sgGood_eq (l : List Int) (hl : l.length ≤ 1000000) (k : Nat) (hk : l.length < k) : spec_sgGood.f k l = some (goodB l) := by
  unfold spec_sgGood.f goodB
  by_cases h9 : l.length ≤ 9
  · rw [if_neg (by omega), l1All_eq l _ _ hl k hk, Option.bind_some, decide_eq_true h9, Bool.true_and]
    change (if smallB l = true then _ else _) = _
    cases hs : smallB l with
    | false => rfl
    | true =>
      rw [if_pos rfl, Bool.true_and]
      unfold lastB
      by_cases h0 : l.length = 0
      · rw [if_pos (by omega), if_pos h0]
      · rw [if_neg (by omega), if_neg h0, show wrap64 ((l.length : Int) - 1) = (l.length : Int) - 1 by unfold wrap64; omega, if_pos (by omega), if_pos (by omega)]
  · rw [if_pos (by omega), decide_eq_false h9]; rfl
theorem isSingle_l0 (l : List Int) (hl : l.length ≤ 1000000) (d : Nat) : ∀ (k i : Nat), i ≤ l.length → l.length - i = d → d < k → impl_isSingle.l0 k l l (l.length : Int) (i : Int) = some (((l.drop i).all fun x => decide ((-1000000) ≤ x ∧ x ≤ 1000000)) && (if l.length = 0 then true else decide (l.length ≤ 9) && (rd l ((l.length : Int) - 1) != 0))) := by
  induction d with
  | zero =>
    intro k i h1 hd hk
    obtain ⟨k, rfl⟩ : ∃ m, k = m + 1 := ⟨k - 1, by omega⟩
    simp only [impl_isSingle.l0]; rw [if_neg (by omega), List.drop_eq_nil_of_le (by omega)]
    by_cases h0 : l.length = 0
    · rw [if_pos (by omega), if_pos h0]; rfl
    · rw [if_neg (by omega), if_neg h0]
      by_cases h9 : l.length ≤ 9
      · rw [if_pos (by omega), show wrap64 ((l.length : Int) - 1) = (l.length : Int) - 1 by unfold wrap64; omega, if_pos (by omega), if_pos (by omega), decide_eq_true h9]; rfl
      · rw [if_neg (by omega), decide_eq_false h9]; rfl
  | succ d ih =>
    intro k i h1 hd hk
    obtain ⟨k, rfl⟩ : ∃ m, k = m + 1 := ⟨k - 1, by omega⟩
    simp only [impl_isSingle.l0]
    rw [if_pos (by omega), if_pos (by omega), if_pos (by omega), inside_eq, Option.bind_some, wrap_next i (by omega), all_drop l _ i (by omega)]
    by_cases hp : (-1000000) ≤ rd l (i : Int) ∧ rd l (i : Int) ≤ 1000000
    · rw [if_pos (decide_eq_true hp), decide_eq_true hp, ih k (i + 1) (by omega) (by omega) (by omega)]; rfl
    · rw [if_neg (by rw [decide_eq_false hp]; decide), decide_eq_false hp]; rfl
theorem isSingle_eq (l : List Int) (hl : l.length ≤ 1000000) (k : Nat) (hk : l.length < k) : impl_isSingle.f k l = some (goodB l) := by
  unfold impl_isSingle.f
  have h := isSingle_l0 l hl l.length k 0 (by omega) (by omega) hk
  simp only [List.drop_zero] at h
  rw [show ((0 : Nat) : Int) = 0 from rfl] at h
  rw [h]
  congr 1
  unfold goodB lastB
  change (smallB l && _) = _
  cases smallB l <;> by_cases h0 : l.length = 0 <;> simp [h0]
theorem sgGood_ev (l : List Int) (hl : l.length ≤ 1000000) : Ev (fun k => spec_sgGood.f k l) (goodB l) := ⟨l.length + 1, fun k hk => sgGood_eq l hl k (by omega)⟩
theorem isSingle_ev (l : List Int) (hl : l.length ≤ 1000000) : Ev (fun k => impl_isSingle.f k l) (goodB l) := ⟨l.length + 1, fun k hk => isSingle_eq l hl k (by omega)⟩
theorem good_bound (l : List Int) (h : goodB l = true) : ∀ x ∈ l, (-1000000 : Int) ≤ x ∧ x ≤ 1000000 := by
  unfold goodB smallB at h
  simp only [Bool.and_eq_true, List.all_eq_true, decide_eq_true_eq] at h
  exact h.2.1
theorem good_length (l : List Int) (h : goodB l = true) : l.length ≤ 9 := by
  unfold goodB at h
  simp only [Bool.and_eq_true, decide_eq_true_eq] at h
  exact h.1
theorem good_last (l : List Int) (h : goodB l = true) (h0 : 0 < l.length) : rd l ((l.length : Int) - 1) ≠ 0 := by
  unfold goodB lastB at h
  simp only [Bool.and_eq_true] at h
  have := h.2.2
  rw [if_neg (by omega)] at this
  simpa using this
theorem List_snoc (l : List Int) (h : 0 < l.length) : ∃ q a, l = q ++ [a] := by
  rcases List.eq_nil_or_concat l with e | ⟨q, a, e⟩
  · simp [e] at h
  · exact ⟨q, a, by rw [e, List.concat_eq_append]⟩
def trimI (l : List Int) : List Int := (l.reverse.dropWhile (fun x => x == 0)).reverse
theorem trimI_nil : trimI [] = [] := rfl
theorem trimI_zero (q : List Int) : trimI (q ++ [0]) = trimI q := by simp [trimI]
theorem trimI_last (q : List Int) (a : Int) (h : a ≠ 0) : trimI (q ++ [a]) = q ++ [a] := by simp [trimI, h]
theorem trimI_length (l : List Int) : (trimI l).length ≤ l.length := by
  unfold trimI; rw [List.length_reverse]; exact Nat.le_trans (List.dropWhile_sublist _).length_le (by simp)
theorem own_eq (l : List Int) (h : l.length ≤ 1000000) : spec_l1Own.f l = some l := by
  unfold spec_l1Own.f; simp only [Option.bind_some, List.length_nil, List.nil_append]; rw [if_pos (by omega)]
theorem clone_eq (l : List Int) (h : l.length ≤ 1000000) : slices_Clone_int_int.f l = some l := by
  unfold slices_Clone_int_int.f; rw [if_pos (by omega)]
theorem rd_last (q : List Int) (a : Int) : rd (q ++ [a]) (q.length : Int) = a := by simp [rd]
theorem sgTrim_eq (n : Nat) : ∀ l : List Int, l.length = n → l.length ≤ 1000000 → Ev (fun k => spec_sgTrim.f k l) (trimI l) := by
  induction n with
  | zero =>
    intro l hn hl
    obtain rfl := List.eq_nil_of_length_eq_zero hn
    refine Ev.step (fun k => rfl) ?_
    simp only [spec_sgTrim.f, spec_sgTrim.l0]
    exact Ev_if (fun h => by simp at h) (fun _ => Ev_bindS (own_eq [] (by simp)) (Ev.now _))
  | succ n ih =>
    intro l hn hl
    obtain ⟨q, a, rfl⟩ : ∃ q a, l = q ++ [a] := List_snoc l (by omega)
    have hq : q.length = n := by simpa using hn
    have e1 : wrap64 (((q ++ [a]).length : Int) - 1) = (q.length : Int) := by simp only [List.length_append, List.length_singleton] at hl ⊢; unfold wrap64; omega
    have e2 : (q ++ [a]).take ((q.length : Int)).toNat = q := by simp
    refine Ev.step (fun k => rfl) ?_
    simp only [spec_sgTrim.f, spec_sgTrim.l0]
    rw [e1, rd_last, e2]
    simp only [List.length_append, List.length_singleton] at hl ⊢
    refine Ev_if (fun _ => Ev_if (fun _ => Ev_if (fun _ => Ev_if (fun h => Ev_if (fun _ => ?_) (fun h => by omega)) (fun h => ?_)) (fun h => by omega)) (fun h => by omega)) (fun h => by omega)
    · subst h; rw [trimI_zero]; exact ih q hq (by omega)
    · rw [trimI_last q a h]; exact Ev_bindS (own_eq _ (by simp; omega)) (Ev.now _)
theorem stripped_eq (n : Nat) : ∀ l : List Int, l.length = n → l.length ≤ 1000000 → Ev (fun k => impl_stripped.f k l) (trimI l) := by
  induction n with
  | zero =>
    intro l hn hl
    obtain rfl := List.eq_nil_of_length_eq_zero hn
    refine Ev.step (fun k => rfl) ?_
    simp only [impl_stripped.f, impl_stripped.l0]
    exact Ev_if (fun h => by simp at h) (fun _ => Ev_bindS (clone_eq [] (by simp)) (Ev.now _))
  | succ n ih =>
    intro l hn hl
    obtain ⟨q, a, rfl⟩ : ∃ q a, l = q ++ [a] := List_snoc l (by omega)
    have hq : q.length = n := by simpa using hn
    have e1 : wrap64 (((q ++ [a]).length : Int) - 1) = (q.length : Int) := by simp only [List.length_append, List.length_singleton] at hl ⊢; unfold wrap64; omega
    have e2 : (q ++ [a]).take ((q.length : Int)).toNat = q := by simp
    refine Ev.step (fun k => rfl) ?_
    simp only [impl_stripped.f, impl_stripped.l0]
    rw [e1, rd_last, e2]
    simp only [List.length_append, List.length_singleton] at hl ⊢
    refine Ev_if (fun _ => Ev_if (fun _ => Ev_if (fun _ => Ev_if (fun h => Ev_if (fun _ => ?_) (fun h => by omega)) (fun h => ?_)) (fun h => by omega)) (fun h => by omega)) (fun h => by omega)
    · subst h; rw [trimI_zero]; exact ih q hq (by omega)
    · rw [trimI_last q a h]; exact Ev_bindS (clone_eq _ (by simp; omega)) (Ev.now _)
def derF (l : List Int) : Nat → Nat → List Int
  | _, 0 => []
  | i, n + 1 => wrap64 ((i : Int) * rd l (i : Int)) :: derF l (i + 1) n
theorem derF_length (l : List Int) : ∀ n i, (derF l i n).length = n
  | 0, i => rfl
  | n + 1, i => by simp [derF, derF_length l n (i + 1)]
theorem sgDerive_l0 (l : List Int) (hl : l.length ≤ 1000000) (n : Nat) : ∀ (i : Nat) (acc : List Int), 1 ≤ i → i ≤ l.length → l.length - i = n → acc.length ≤ i → Ev (fun k => spec_sgDerive.l0 k acc l (l.length : Int) (i : Int)) (acc ++ derF l i n) := by
  induction n with
  | zero =>
    intro i acc h1 hi hn ha
    refine Ev.step (fun k => rfl) ?_
    simp only [spec_sgDerive.l0]
    exact Ev_if (fun h => by omega) (fun _ => Ev_eq (Ev.now _) (by simp [derF]))
  | succ n ih =>
    intro i acc h1 hi hn ha
    refine Ev.step (fun k => rfl) ?_
    simp only [spec_sgDerive.l0]
    rw [wrap_next i (by omega)]
    refine Ev_if (fun _ => Ev_if (fun _ => Ev_if (fun _ => Ev_if (fun _ => Ev_if (fun _ => ?_) (fun h => by omega)) (fun h => by omega)) (fun h => by omega)) (fun h => by omega)) (fun h => by omega)
    refine Ev_eq (ih (i + 1) _ (by omega) (by omega) (by omega) (by simp; omega)) ?_
    simp [derF]
theorem sgDerive_ev (l : List Int) (hl : l.length ≤ 1000000) : Ev (fun k => spec_sgDerive.f k l) (derF l 1 (l.length - 1)) := by
  refine Ev.step (fun k => rfl) ?_
  simp only [spec_sgDerive.f, spec_sgDerive.l0]
  refine Ev_if (fun h => ?_) (fun h => ?_)
  · refine Ev_if (fun _ => Ev_if (fun _ => Ev_if (fun h => by omega) (fun _ => ?_)) (fun h => by omega)) (fun h => by omega)
    rw [show wrap64 ((0 : Int) + 1) = ((1 : Nat) : Int) from wrap_next 0 (by omega)]
    exact Ev_eq (sgDerive_l0 l hl (l.length - 1) 1 [] (by omega) (by omega) (by omega) (by simp)) (by simp)
  · have : l.length - 1 = 0 := by omega
    rw [this]; exact Ev.now _
theorem derive_l0 (l : List Int) (hl : l.length ≤ 1000000) (n : Nat) : ∀ (i : Nat) (acc : List Int), 1 ≤ i → l.length - i = n → acc.length < i → acc.length ≤ 1000000 → Ev (fun k => impl_deriveSingle.l0 k l acc (i : Int)) (trimI (acc ++ derF l i n)) := by
  induction n with
  | zero =>
    intro i acc h1 hn ha hb
    refine Ev.step (fun k => rfl) ?_
    simp only [impl_deriveSingle.l0]
    refine Ev_if (fun h => by omega) (fun _ => ?_)
    exact Ev.bind (stripped_eq _ acc rfl hb) (Ev_eq (Ev.now _) (by simp [derF]))
  | succ n ih =>
    intro i acc h1 hn ha hb
    refine Ev.step (fun k => rfl) ?_
    simp only [impl_deriveSingle.l0]
    rw [wrap_next i (by omega)]
    refine Ev_if (fun _ => Ev_if (fun _ => Ev_if (fun _ => ?_) (fun h => by omega)) (fun h => by omega)) (fun h => by omega)
    refine Ev_eq (ih (i + 1) _ (by omega) (by omega) (by simp; omega) (by simp; omega)) ?_
    simp [derF]
theorem derive_ev (l : List Int) (hl : l.length ≤ 1000000) : Ev (fun k => impl_deriveSingle.f k l) (trimI (derF l 1 (l.length - 1))) := by
  have h := derive_l0 l hl (l.length - 1) 1 [] (by omega) (by omega) (by simp) (by simp)
  simpa [impl_deriveSingle.f] using h
theorem derive_small (l : List Int) (h : l.length ≤ 9) : ∃ d, Ev (fun k => spec_sgDerive.f k l) d ∧ Ev (fun k => impl_deriveSingle.f k l) (trimI d) ∧ d.length ≤ 9 :=
  ⟨_, sgDerive_ev l (by omega), derive_ev l (by omega), by rw [derF_length]; omega⟩
theorem single_result (d : List Int) (hd : d.length ≤ 1000000) : ∃ r1 r2, Ev (fun k => spec_sgIf.f k d) (r1, r2) ∧ Ev (fun k => impl_singleResult.f k (trimI d) true) (r1, r2) ∧ r1.length ≤ 9 := by
  have hl := trimI_length d
  cases hg : goodB (trimI d) with
  | false =>
    refine ⟨[], false, ?_, ?_, by simp⟩
    · refine Ev.bind (sgTrim_eq _ d rfl hd) (Ev.bind (sgGood_ev _ (by omega)) ?_); rw [hg]; exact Ev.now _
    · refine Ev_if (fun _ => Ev.bind (isSingle_ev _ (by omega)) ?_) (fun h => absurd rfl h); rw [hg]; exact Ev.now _
  | true =>
    refine ⟨trimI d, true, ?_, ?_, good_length _ hg⟩
    · refine Ev.bind (sgTrim_eq _ d rfl hd) (Ev.bind (sgGood_ev _ (by omega)) ?_); rw [hg]; exact Ev.now _
    · refine Ev_if (fun _ => Ev.bind (isSingle_ev _ (by omega)) ?_) (fun h => absurd rfl h); rw [hg]; exact Ev.now _
theorem Pure_holds : Pure := by
  intro l hl _
  have key : ∃ r1 r2, Ev (fun k => spec_DeriveSingle.f k l) (r1, r2) ∧ Ev (fun k => impl_DeriveSingle.f k l) (r1, r2) ∧ r1.length ≤ 1000000 := by
    cases hg : goodB l with
    | false =>
      refine ⟨[], false, ?_, ?_, by simp⟩
      · refine Ev.bind (sgGood_ev l hl) ?_; rw [hg]; exact Ev.now _
      · refine Ev.bind (isSingle_ev l hl) ?_; rw [hg]; exact Ev.now _
    | true =>
      obtain ⟨d, h1, h2, h3⟩ := derive_small l (good_length l hg)
      obtain ⟨r1, r2, e1, e2, e3⟩ := single_result d (by omega)
      refine ⟨r1, r2, ?_, ?_, by omega⟩
      · refine Ev.bind (sgGood_ev l hl) ?_; rw [hg]; exact Ev.bind h1 (Ev.bind e1 (Ev.now _))
      · refine Ev.bind (isSingle_ev l hl) ?_; rw [hg]; exact Ev.bind h2 (Ev.bind e2 (Ev.now _))
  obtain ⟨r1, r2, h1, h2, h3⟩ := key
  obtain ⟨ks, ki, h, h'⟩ := Ev_both h1 h2
  exact ⟨ks, ki, r1, r2, h, h', h3⟩
end Go.Proofs.Ytolacpnhndbalaa.QDeriveSingle
