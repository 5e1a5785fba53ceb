import Derived.Test.YtgkpbbmacjgilaaZFnSinglesQSgsx
namespace Go.Proofs.Ytgkpbbmacjgilaa.QSgs
open Go.RowKit Go.Proofs.YtgkpbbmacjgilaaW.PrintWords Go.Proofs.YtgkpbbmacjgilaaW.PrintLast Go.Proofs.YtgkpbbmacjgilaaW.PrintMore
set_option linter.unusedVariables false
set_option linter.unusedSimpArgs false
theorem Ev_if {α : Type} {c : Prop} [Decidable c] {g f : Nat → Option α} {r : α} (hp : c → Ev g r) (hn : ¬ c → Ev f r) : Ev (fun k => if c then g k else f k) r := by
 by_cases h : c
 ·simp only [if_pos h]; exact hp h
 ·simp only [if_neg h]; exact hn h
theorem Ev_bindS {α β : Type} {a : Option α} {x : α} {f : Nat → α → Option β} {r : β} (h : a = some x) (k : Ev (fun n => f n x) r) : Ev (fun n => a.bind (f n)) r := by
 subst h; simpa only [Option.bind_some] using k
theorem Ev_eq {α : Type} {g : Nat → Option α} {r r' : α} (h : Ev g r) (e : r = r') : Ev g r' := e ▸ h
theorem l1In_eq (a b c : Int) : spec_l1In.f a b c = some (decide (b ≤ a ∧ a ≤ c)) := by
 unfold spec_l1In.f; by_cases h : b ≤ a <;> simp [h]
theorem inside_eq (a b c : Int) : impl_inside.f a b c = some (decide (b ≤ a ∧ a ≤ c)) := by
 unfold impl_inside.f; by_cases h : b ≤ a <;> simp [h]
theorem rd_getElem (l : List Int) (i : Nat) (h : i < l.length) : rd l (i : Int) = l[i] := by simp [rd, h]
theorem wrap_next (i : Nat) (h : i < 9223372036854775807) : wrap64 ((i : Int) + 1) = ((i + 1 : Nat) : Int) := by unfold wrap64; omega
theorem all_drop (l : List Int) (p : Int → Bool) (i : Nat) (h : i < l.length) : (l.drop i).all p = (p (rd l (i : Int)) && (l.drop (i + 1)).all p) := by
 rw [List.drop_eq_getElem_cons h, List.all_cons, rd_getElem l i h]
theorem rd_mem (l : List Int) (i : Nat) (h : i < l.length) : rd l (i : Int) ∈ l := by rw [rd_getElem l i h]; exact List.getElem_mem h
theorem drop_rd (l : List Int) (i : Nat) (h : i < l.length) : l.drop i = rd l (i : Int) :: l.drop (i + 1) := by rw [rd_getElem l i h]; exact List.drop_eq_getElem_cons h
theorem wrap_sum (i k : Nat) (h : i + k ≤ 4000000000000) : wrap64 ((i : Int) + (k : Int)) = ((i + k : Nat) : Int) := by unfold wrap64; omega
theorem l1All_l0 (l : List Int) (lo hi : Int) (hl : l.length ≤ 1000000) (d : Nat) : ∀ (k i : Nat), i ≤ l.length → l.length - i = d → d < k → spec_l1All.l0 k lo hi l (l.length : Int) (i : Int) = some ((l.drop i).all fun x => decide (lo ≤ x ∧ x ≤ hi)) := by
 induction d with
 | zero =>
  intro k i h1 hd hk
  obtain ⟨k, rfl⟩ : ∃ m, k = m + 1 := ⟨k - 1, by omega⟩
  simp only [spec_l1All.l0]; rw [if_neg (by omega), List.drop_eq_nil_of_le (by omega)]; rfl
 | succ d ih =>
  intro k i h1 hd hk
  obtain ⟨k, rfl⟩ : ∃ m, k = m + 1 := ⟨k - 1, by omega⟩
  simp only [spec_l1All.l0]
  rw [if_pos (by omega), if_pos (by omega), if_pos (by omega), l1In_eq, Option.bind_some, wrap_next i (by omega), all_drop l _ i (by omega)]
  by_cases hp : lo ≤ rd l (i : Int) ∧ rd l (i : Int) ≤ hi
  ·rw [if_pos (decide_eq_true hp), decide_eq_true hp, ih k (i + 1) (by omega) (by omega) (by omega)]; rfl
  ·rw [if_neg (by rw [decide_eq_false hp]; decide), decide_eq_false hp]; rfl
theorem l1All_eq (l : List Int) (lo hi : Int) (hl : l.length ≤ 1000000) (k : Nat) (hk : l.length < k) : spec_l1All.f k l lo hi = some (l.all fun x => decide (lo ≤ x ∧ x ≤ hi)) := by
 unfold spec_l1All.f
 have h := l1All_l0 l lo hi hl l.length k 0 (by omega) (by omega) hk
 simpa using h
def smallB (l : List Int) : Bool := l.all fun x => decide ((-1000000) ≤ x ∧ x ≤ 1000000)
def lastB (l : List Int) : Bool := if l.length = 0 then true else (rd l ((l.length : Int) - 1) != 0)
def goodB (l : List Int) : Bool := decide (l.length ≤ 9) && (smallB l && lastB l)
theorem sgGood_eq (l : List Int) (hl : l.length ≤ 1000000) (k : Nat) (hk : l.length < k) : spec_sgGood.f k l = some (goodB l) := by
 unfold spec_sgGood.f goodB
 by_cases h9 : l.length ≤ 9
 ·rw [if_neg (by omega), l1All_eq l _ _ hl k hk, Option.bind_some, decide_eq_true h9, Bool.true_and]
  change (if smallB l = true then _ else _) = _
  cases hs : smallB l with
  | false => rfl
  | true =>
   rw [if_pos rfl, Bool.true_and]
   unfold lastB
   by_cases h0 : l.length = 0
   ·rw [if_pos (by omega), if_pos h0]
   ·rw [if_neg (by omega), if_neg h0, show wrap64 ((l.length : Int) - 1) = (l.length : Int) - 1 by unfold wrap64; omega, if_pos (by omega), if_pos (by omega)]
 ·rw [if_pos (by omega), decide_eq_false h9]; rfl
theorem isSingle_l0 (l : List Int) (hl : l.length ≤ 1000000) (d : Nat) : ∀ (k i : Nat), i ≤ l.length → l.length - i = d → d < k → impl_isSingle.l0 k l l (l.length : Int) (i : Int) = some (((l.drop i).all fun x => decide ((-1000000) ≤ x ∧ x ≤ 1000000)) && (if l.length = 0 then true else decide (l.length ≤ 9) && (rd l ((l.length : Int) - 1) != 0))) := by
 induction d with
 | zero =>
  intro k i h1 hd hk
  obtain ⟨k, rfl⟩ : ∃ m, k = m + 1 := ⟨k - 1, by omega⟩
  simp only [impl_isSingle.l0]; rw [if_neg (by omega), List.drop_eq_nil_of_le (by omega)]
  by_cases h0 : l.length = 0
  ·rw [if_pos (by omega), if_pos h0]; rfl
  ·rw [if_neg (by omega), if_neg h0]
   by_cases h9 : l.length ≤ 9
   ·rw [if_pos (by omega), show wrap64 ((l.length : Int) - 1) = (l.length : Int) - 1 by unfold wrap64; omega, if_pos (by omega), if_pos (by omega), decide_eq_true h9]; rfl
   ·rw [if_neg (by omega), decide_eq_false h9]; rfl
 | succ d ih =>
  intro k i h1 hd hk
  obtain ⟨k, rfl⟩ : ∃ m, k = m + 1 := ⟨k - 1, by omega⟩
  simp only [impl_isSingle.l0]
  rw [if_pos (by omega), if_pos (by omega), if_pos (by omega), inside_eq, Option.bind_some, wrap_next i (by omega), all_drop l _ i (by omega)]
  by_cases hp : (-1000000) ≤ rd l (i : Int) ∧ rd l (i : Int) ≤ 1000000
  ·rw [if_pos (decide_eq_true hp), decide_eq_true hp, ih k (i + 1) (by omega) (by omega) (by omega)]; rfl
  ·rw [if_neg (by rw [decide_eq_false hp]; decide), decide_eq_false hp]; rfl
theorem isSingle_eq (l : List Int) (hl : l.length ≤ 1000000) (k : Nat) (hk : l.length < k) : impl_isSingle.f k l = some (goodB l) := by
 unfold impl_isSingle.f
 have h := isSingle_l0 l hl l.length k 0 (by omega) (by omega) hk
 simp only [List.drop_zero] at h
 rw [show ((0 : Nat) : Int) = 0 from rfl] at h
 rw [h]
 congr 1
 unfold goodB lastB
 change (smallB l && _) = _
 cases smallB l <;> by_cases h0 : l.length = 0 <;> simp [h0]
theorem sgGood_ev (l : List Int) (hl : l.length ≤ 1000000) : Ev (fun k => spec_sgGood.f k l) (goodB l) := ⟨l.length + 1, fun k hk => sgGood_eq l hl k (by omega)⟩
theorem isSingle_ev (l : List Int) (hl : l.length ≤ 1000000) : Ev (fun k => impl_isSingle.f k l) (goodB l) := ⟨l.length + 1, fun k hk => isSingle_eq l hl k (by omega)⟩
theorem good_bound (l : List Int) (h : goodB l = true) : ∀ x ∈ l, (-1000000 : Int) ≤ x ∧ x ≤ 1000000 := by
 unfold goodB smallB at h
 simp only [Bool.and_eq_true, List.all_eq_true, decide_eq_true_eq] at h
 exact h.2.1
theorem good_length (l : List Int) (h : goodB l = true) : l.length ≤ 9 := by
 unfold goodB at h
 simp only [Bool.and_eq_true, decide_eq_true_eq] at h
 exact h.1
theorem good_last (l : List Int) (h : goodB l = true) (h0 : 0 < l.length) : rd l ((l.length : Int) - 1) ≠ 0 := by
 unfold goodB lastB at h
 simp only [Bool.and_eq_true] at h
 have := h.2.2
 rw [if_neg (by omega)] at this
 simpa using this
def absI (x : Int) : Int := (x.natAbs : Int)
theorem l1Abs_eq (x : Int) (h : -4611686018427387904 ≤ x ∧ x ≤ 4611686018427387904) : spec_l1Abs.f x = some (absI x) := by
 unfold spec_l1Abs.f spec_l1Most.f absI
 have : wrap64 (-x) = -x := by unfold wrap64; omega
 rw [this]
 by_cases hx : x > -x
 ·rw [if_pos hx]; simp only [Option.bind_some]; congr 1; omega
 ·rw [if_neg hx]; simp only [Option.bind_some]; congr 1; omega
theorem mxAbs_eq (x : Int) (h : -4611686018427387904 ≤ x ∧ x ≤ 4611686018427387904) : mx x (wrap64 (-x)) = absI x := by
 have : wrap64 (-x) = -x := by unfold wrap64; omega
 rw [this]; unfold mx absI; split <;> omega
theorem gcd_tmod (a b : Int) : Int.gcd b (Int.tmod a b) = Int.gcd a b := by
 have h : Int.tmod a b = a - b * Int.tdiv a b := by have := Int.mul_tdiv_add_tmod a b; omega
 rw [h, Int.gcd_comm, show a - b * Int.tdiv a b = a + b * (-(Int.tdiv a b)) by rw [Int.mul_neg]; omega, Int.gcd_add_mul_left_left]
theorem sgGcd_l0 (n : Nat) : ∀ (a b : Int), 0 ≤ a → 0 ≤ b → b.natAbs < n → Ev (fun k => spec_sgGcd.l0 k a b) ((Int.gcd a b : Nat) : Int) := by
 induction n with
 | zero => intro a b _ _ h; omega
 | succ n ih =>
  intro a b ha hb hn
  refine Ev.step (fun k => rfl) ?_
  refine Ev_if (fun h => Ev_if (fun h2 => by omega) (fun h2 => ?_)) (fun h => ?_)
  ·have e : Int.tmod a b = a % b := Int.tmod_eq_emod_of_nonneg ha
   have h0 := Int.emod_nonneg a (show b ≠ 0 by omega)
   have h1 := Int.emod_lt_of_pos a (show 0 < b by omega)
   rw [e]
   refine Ev_eq (ih b (a % b) hb h0 (by omega)) ?_
   rw [← e, gcd_tmod]
  ·have : b = 0 := by omega
   subst this
   refine Ev_eq (Ev.now _) ?_
   simp; omega
theorem tmod_lt (a b : Int) (hb : b ≠ 0) : (Int.tmod a b).natAbs < b.natAbs := by
 rw [Int.natAbs_tmod]; exact Nat.mod_lt _ (by omega)
theorem gcd_l0 (n : Nat) : ∀ (a b : Int), -4611686018427387904 ≤ a ∧ a ≤ 4611686018427387904 → -4611686018427387904 ≤ b ∧ b ≤ 4611686018427387904 → b.natAbs < n → Ev (fun k => impl_gcd.l0 k a b) ((Int.gcd a b : Nat) : Int) := by
 induction n with
 | zero => intro a b _ _ h; omega
 | succ n ih =>
  intro a b ha hb hn
  refine Ev.step (fun k => rfl) ?_
  refine Ev_if (fun h => ?_) (fun h => ?_)
  ·subst h
   refine Ev_eq (Ev.now _) ?_
   rw [mxAbs_eq a ha]; simp [absI]
  ·have h1 := tmod_lt a b h
   refine Ev_eq (ih b (Int.tmod a b) hb ⟨by omega, by omega⟩ (by omega)) ?_
   rw [gcd_tmod]
theorem sgGcd_eq (a b : Int) (ha : 0 ≤ a) (hb : 0 ≤ b) : Ev (fun k => spec_sgGcd.f k a b) ((Int.gcd a b : Nat) : Int) := sgGcd_l0 (b.natAbs + 1) a b ha hb (by omega)
theorem gcd_eq (a b : Int) (ha : -4611686018427387904 ≤ a ∧ a ≤ 4611686018427387904) (hb : -4611686018427387904 ≤ b ∧ b ≤ 4611686018427387904) : Ev (fun k => impl_gcd.f k a b) ((Int.gcd a b : Nat) : Int) := gcd_l0 (b.natAbs + 1) a b ha hb (by omega)
def boundB (l : List Int) (m : Int) : Prop := ∀ x ∈ l, -m ≤ x ∧ x ≤ m
def contentI (d : Int) (l : List Int) : Int := l.foldl (fun d c => ((Int.gcd d c : Nat) : Int)) d
theorem gcd_bound (d c m : Int) (hd : 0 ≤ d ∧ d ≤ m) (hc : -m ≤ c ∧ c ≤ m) : 0 ≤ ((Int.gcd d c : Nat) : Int) ∧ ((Int.gcd d c : Nat) : Int) ≤ m := by
 refine ⟨by omega, ?_⟩
 by_cases h : c = 0
 ·subst h; simp; omega
 ·have h1 := Nat.le_of_dvd (show 0 < c.natAbs by omega) (Int.gcd_dvd_natAbs_right d c)
  omega
theorem sgContent_l0 (l : List Int) (hl : l.length ≤ 1000000) (m : Int) (hm : 0 ≤ m ∧ m ≤ 4611686018427387904) (hb : boundB l m) (n : Nat) : ∀ (i : Nat) (d : Int), i ≤ l.length → l.length - i = n → 0 ≤ d ∧ d ≤ m → Ev (fun k => spec_sgContent.l0 k d l (l.length : Int) (i : Int)) (contentI d (l.drop i)) := by
 induction n with
 | zero =>
  intro i d hi hn hd
  refine Ev.step (fun k => rfl) ?_
  refine Ev_if (fun h => by omega) (fun h => ?_)
  rw [List.drop_eq_nil_of_le (by omega)]; exact Ev.now _
 | succ n ih =>
  intro i d hi hn hd
  have hr := hb _ (rd_mem l i (by omega))
  refine Ev.step (fun k => rfl) ?_
  refine Ev_if (fun h => Ev_if (fun h2 => Ev_if (fun h3 => ?_) (fun h3 => by omega)) (fun h2 => by omega)) (fun h => by omega)
  refine Ev_bindS (l1Abs_eq _ ⟨by omega, by omega⟩) ?_
  refine Ev.bind (sgGcd_eq d _ hd.1 (by unfold absI; omega)) ?_
  rw [wrap_next i (by omega), drop_rd l i (by omega)]
  have e : ((Int.gcd d (absI (rd l (i : Int))) : Nat) : Int) = ((Int.gcd d (rd l (i : Int)) : Nat) : Int) := by unfold absI; simp [Int.gcd]
  rw [e]
  exact ih (i + 1) _ (by omega) (by omega) (gcd_bound d _ m hd hr)
theorem sgContent_eq (l : List Int) (hl : l.length ≤ 1000000) (m : Int) (hm : 0 ≤ m ∧ m ≤ 4611686018427387904) (hb : boundB l m) : Ev (fun k => spec_sgContent.f k l) (contentI 0 l) := by
 have h := sgContent_l0 l hl m hm hb l.length 0 0 (by omega) (by omega) ⟨by omega, by omega⟩
 simpa [spec_sgContent.f] using h
theorem contentOf_l0 (l : List Int) (hl : l.length ≤ 1000000) (m : Int) (hm : 0 ≤ m ∧ m ≤ 4611686018427387904) (hb : boundB l m) (n : Nat) : ∀ (i : Nat) (d : Int), i ≤ l.length → l.length - i = n → 0 ≤ d ∧ d ≤ m → Ev (fun k => impl_contentOf.l0 k d l (l.length : Int) (i : Int)) (contentI d (l.drop i)) := by
 induction n with
 | zero =>
  intro i d hi hn hd
  refine Ev.step (fun k => rfl) ?_
  refine Ev_if (fun h => by omega) (fun h => ?_)
  rw [List.drop_eq_nil_of_le (by omega)]; exact Ev.now _
 | succ n ih =>
  intro i d hi hn hd
  have hr := hb _ (rd_mem l i (by omega))
  refine Ev.step (fun k => rfl) ?_
  refine Ev_if (fun h => Ev_if (fun h2 => Ev_if (fun h3 => ?_) (fun h3 => by omega)) (fun h2 => by omega)) (fun h => by omega)
  refine Ev.bind (gcd_eq d _ ⟨by omega, by omega⟩ ⟨by omega, by omega⟩) ?_
  rw [wrap_next i (by omega), drop_rd l i (by omega)]
  exact ih (i + 1) _ (by omega) (by omega) (gcd_bound d _ m hd hr)
theorem contentOf_eq (l : List Int) (hl : l.length ≤ 1000000) (m : Int) (hm : 0 ≤ m ∧ m ≤ 4611686018427387904) (hb : boundB l m) : Ev (fun k => impl_contentOf.f k l) (contentI 0 l) := by
 have h := contentOf_l0 l hl m hm hb l.length 0 0 (by omega) (by omega) ⟨by omega, by omega⟩
 simpa [impl_contentOf.f] using h
theorem own_eq (l : List Int) (h : l.length ≤ 1000000) : spec_l1Own.f l = some l := by
 unfold spec_l1Own.f; simp only [Option.bind_some, List.length_nil, List.nil_append]; rw [if_pos (by omega)]
theorem List_snoc (l : List Int) (h : 0 < l.length) : ∃ q a, l = q ++ [a] := by
 rcases List.eq_nil_or_concat l with e | ⟨q, a, e⟩
 ·simp [e] at h
 ·exact ⟨q, a, by rw [e, List.concat_eq_append]⟩
def trimI (l : List Int) : List Int := (l.reverse.dropWhile (fun x => x == 0)).reverse
theorem trimI_zero (q : List Int) : trimI (q ++ [0]) = trimI q := by simp [trimI]
theorem trimI_last (q : List Int) (a : Int) (h : a ≠ 0) : trimI (q ++ [a]) = q ++ [a] := by simp [trimI, h]
theorem trimI_length (l : List Int) : (trimI l).length ≤ l.length := by
 unfold trimI; rw [List.length_reverse]; exact Nat.le_trans (List.dropWhile_sublist _).length_le (by simp)
theorem clone_eq (l : List Int) (h : l.length ≤ 1000000) : slices_Clone_int_int.f l = some l := by
 unfold slices_Clone_int_int.f; rw [if_pos (by omega)]
theorem rd_last (q : List Int) (a : Int) : rd (q ++ [a]) (q.length : Int) = a := by simp [rd]
theorem stripped_eq (n : Nat) : ∀ l : List Int, l.length = n → l.length ≤ 1000000 → Ev (fun k => impl_stripped.f k l) (trimI l) := by
 induction n with
 | zero =>
  intro l hn hl
  obtain rfl := List.eq_nil_of_length_eq_zero hn
  refine Ev.step (fun k => rfl) ?_
  simp only [impl_stripped.f, impl_stripped.l0]
  exact Ev_if (fun h => by simp at h) (fun _ => Ev_bindS (clone_eq [] (by simp)) (Ev.now _))
 | succ n ih =>
  intro l hn hl
  obtain ⟨q, a, rfl⟩ : ∃ q a, l = q ++ [a] := List_snoc l (by omega)
  have hq : q.length = n := by simpa using hn
  have e1 : wrap64 (((q ++ [a]).length : Int) - 1) = (q.length : Int) := by simp only [List.length_append, List.length_singleton] at hl ⊢; unfold wrap64; omega
  have e2 : (q ++ [a]).take ((q.length : Int)).toNat = q := by simp
  refine Ev.step (fun k => rfl) ?_
  simp only [impl_stripped.f, impl_stripped.l0]
  rw [e1, rd_last, e2]
  simp only [List.length_append, List.length_singleton] at hl ⊢
  refine Ev_if (fun _ => Ev_if (fun _ => Ev_if (fun _ => Ev_if (fun h => Ev_if (fun _ => ?_) (fun h => by omega)) (fun h => ?_)) (fun h => by omega)) (fun h => by omega)) (fun h => by omega)
  ·subst h; rw [trimI_zero]; exact ih q hq (by omega)
  ·rw [trimI_last q a h]; exact Ev_bindS (clone_eq _ (by simp; omega)) (Ev.now _)
theorem sgTrim_eq (n : Nat) : ∀ l : List Int, l.length = n → l.length ≤ 1000000 → Ev (fun k => spec_sgTrim.f k l) (trimI l) := by
 induction n with
 | zero =>
  intro l hn hl
  obtain rfl := List.eq_nil_of_length_eq_zero hn
  refine Ev.step (fun k => rfl) ?_
  simp only [spec_sgTrim.f, spec_sgTrim.l0]
  exact Ev_if (fun h => by simp at h) (fun _ => Ev_bindS (own_eq [] (by simp)) (Ev.now _))
 | succ n ih =>
  intro l hn hl
  obtain ⟨q, a, rfl⟩ : ∃ q a, l = q ++ [a] := List_snoc l (by omega)
  have hq : q.length = n := by simpa using hn
  have e1 : wrap64 (((q ++ [a]).length : Int) - 1) = (q.length : Int) := by simp only [List.length_append, List.length_singleton] at hl ⊢; unfold wrap64; omega
  have e2 : (q ++ [a]).take ((q.length : Int)).toNat = q := by simp
  refine Ev.step (fun k => rfl) ?_
  simp only [spec_sgTrim.f, spec_sgTrim.l0]
  rw [e1, rd_last, e2]
  simp only [List.length_append, List.length_singleton] at hl ⊢
  refine Ev_if (fun _ => Ev_if (fun _ => Ev_if (fun _ => Ev_if (fun h => Ev_if (fun _ => ?_) (fun h => by omega)) (fun h => ?_)) (fun h => by omega)) (fun h => by omega)) (fun h => by omega)
  ·subst h; rw [trimI_zero]; exact ih q hq (by omega)
  ·rw [trimI_last q a h]; exact Ev_bindS (own_eq _ (by simp; omega)) (Ev.now _)
theorem contentI_dvd (l : List Int) : ∀ d, contentI d l ∣ d ∧ ∀ x ∈ l, contentI d l ∣ x := by
 induction l with
 | nil => intro d; exact ⟨Int.dvd_refl _, fun x hx => by cases hx⟩
 | cons a l ih =>
  intro d
  obtain ⟨h1, h2⟩ := ih ((Int.gcd d a : Nat) : Int)
  refine ⟨Int.dvd_trans h1 (Int.gcd_dvd_left ..), fun x hx => ?_⟩
  rcases List.mem_cons.1 hx with e | hx
  ·subst e; exact Int.dvd_trans h1 (Int.gcd_dvd_right ..)
  ·exact h2 x hx
theorem contentI_range (l : List Int) (m : Int) (hm : 0 ≤ m) (hb : boundB l m) : ∀ d, 0 ≤ d ∧ d ≤ m → 0 ≤ contentI d l ∧ contentI d l ≤ m := by
 induction l with
 | nil => intro d hd; exact hd
 | cons a l ih =>
  intro d hd
  exact ih (fun x hx => hb x (List.mem_cons_of_mem _ hx)) _ (gcd_bound d a m hd (hb a List.mem_cons_self))
theorem contentI_pos (l : List Int) (x : Int) (hx : x ∈ l) (h : x ≠ 0) : contentI 0 l ≠ 0 := by
 intro e
 have := (contentI_dvd l 0).2 x hx
 rw [e] at this
 exact h (Int.zero_dvd.1 this)
def partI (l : List Int) : List Int := l.map fun x => Int.tdiv x (contentI 0 l)
theorem tdiv_bound (x d : Int) : -((x.natAbs : Nat) : Int) ≤ Int.tdiv x d ∧ Int.tdiv x d ≤ ((x.natAbs : Nat) : Int) := by
 have h : (Int.tdiv x d).natAbs ≤ x.natAbs := by rw [Int.natAbs_tdiv]; exact Nat.div_le_self _ _
 omega
theorem part_bound (l : List Int) (m : Int) (hb : boundB l m) : boundB (partI l) m := by
 intro y hy
 obtain ⟨x, hx, rfl⟩ := List.mem_map.1 hy
 have h1 := tdiv_bound x (contentI 0 l)
 have h2 := hb x hx
 omega
theorem part_length (l : List Int) : (partI l).length = l.length := by simp [partI]
theorem rd_part (l : List Int) (i : Nat) (h : i < l.length) : rd (partI l) (i : Int) = Int.tdiv (rd l (i : Int)) (contentI 0 l) := by
 rw [rd_getElem _ i (by rw [part_length]; exact h), rd_getElem l i h]; simp [partI]
theorem tdiv_ne_zero (x d : Int) (hd : d ∣ x) (hx : x ≠ 0) : Int.tdiv x d ≠ 0 := by
 intro h
 have := Int.tdiv_mul_cancel hd
 rw [h] at this; simp at this; exact hx this.symm
theorem sgPart_l0 (l : List Int) (hl : l.length ≤ 1000000) (d : Int) (hd : d ≠ 0) (m : Int) (hm : 0 ≤ m ∧ m ≤ 4611686018427387904) (hb : boundB l m) (n : Nat) : ∀ (i : Nat) (acc : List Int), i ≤ l.length → l.length - i = n → acc.length ≤ i → Ev (fun k => spec_sgPart.l0 k d acc l (l.length : Int) (i : Int)) (acc ++ (l.drop i).map fun x => Int.tdiv x d) := by
 induction n with
 | zero =>
  intro i acc hi hn ha
  refine Ev.step (fun k => rfl) ?_
  simp only [spec_sgPart.l0]
  refine Ev_if (fun h => by omega) (fun _ => ?_)
  rw [List.drop_eq_nil_of_le (by omega)]; exact Ev_eq (Ev.now _) (by simp)
 | succ n ih =>
  intro i acc hi hn ha
  have h1 := hb _ (rd_mem l i (by omega))
  have h2 := tdiv_bound (rd l (i : Int)) d
  refine Ev.step (fun k => rfl) ?_
  simp only [spec_sgPart.l0]
  rw [wrap_next i (by omega), show wrap64 (Int.tdiv (rd l (i : Int)) d) = Int.tdiv (rd l (i : Int)) d by unfold wrap64; omega, drop_rd l i (by omega)]
  refine Ev_if (fun _ => Ev_if (fun _ => Ev_if (fun _ => Ev_if (fun h => absurd h hd) (fun _ => Ev_if (fun _ => ?_) (fun h => by omega))) (fun h => by omega)) (fun h => by omega)) (fun h => by omega)
  exact Ev_eq (ih (i + 1) _ (by omega) (by omega) (by simp; omega)) (by simp)
theorem divided_l0 (l : List Int) (hl : l.length ≤ 1000000) (d : Int) (hd : d ≠ 0) (m : Int) (hm : 0 ≤ m ∧ m ≤ 4611686018427387904) (hb : boundB l m) (n : Nat) : ∀ (i : Nat) (acc : List Int), i ≤ l.length → l.length - i = n → acc.length ≤ i → Ev (fun k => impl_divided.l0 k d acc l (l.length : Int) (i : Int)) (acc ++ (l.drop i).map fun x => Int.tdiv x d) := by
 induction n with
 | zero =>
  intro i acc hi hn ha
  refine Ev.step (fun k => rfl) ?_
  simp only [impl_divided.l0]
  refine Ev_if (fun h => by omega) (fun _ => ?_)
  rw [List.drop_eq_nil_of_le (by omega)]; exact Ev_eq (Ev.now _) (by simp)
 | succ n ih =>
  intro i acc hi hn ha
  have h1 := hb _ (rd_mem l i (by omega))
  have h2 := tdiv_bound (rd l (i : Int)) d
  refine Ev.step (fun k => rfl) ?_
  simp only [impl_divided.l0]
  rw [wrap_next i (by omega), show wrap64 (Int.tdiv (rd l (i : Int)) d) = Int.tdiv (rd l (i : Int)) d by unfold wrap64; omega, drop_rd l i (by omega)]
  refine Ev_if (fun _ => Ev_if (fun _ => Ev_if (fun _ => Ev_if (fun h => absurd h hd) (fun _ => Ev_if (fun _ => ?_) (fun h => by omega))) (fun h => by omega)) (fun h => by omega)) (fun h => by omega)
  exact Ev_eq (ih (i + 1) _ (by omega) (by omega) (by simp; omega)) (by simp)
def tight (l : List Int) : Prop := 0 < l.length → rd l ((l.length : Int) - 1) ≠ 0
theorem tight_pos (l : List Int) (h : tight l) (h0 : 0 < l.length) : contentI 0 l ≠ 0 := by
 have e : ((l.length : Int) - 1) = ((l.length - 1 : Nat) : Int) := by omega
 have h1 := h h0
 rw [e] at h1
 exact contentI_pos l _ (rd_mem l (l.length - 1) (by omega)) h1
theorem tight_part (l : List Int) (h : tight l) : tight (partI l) := by
 intro h0
 rw [part_length] at h0 ⊢
 have e : ((l.length : Int) - 1) = ((l.length - 1 : Nat) : Int) := by omega
 have h1 := h h0
 rw [e] at h1 ⊢
 rw [rd_part l _ (by omega)]
 exact tdiv_ne_zero _ _ ((contentI_dvd l 0).2 _ (rd_mem l _ (by omega))) h1
theorem sgPart_ev (l : List Int) (hl : l.length ≤ 1000000) (m : Int) (hm : 0 ≤ m ∧ m ≤ 4611686018427387904) (hb : boundB l m) (ht : tight l) : Ev (fun k => spec_sgPart.f k l) (partI l) := by
 refine Ev.bind (sgContent_eq l hl m hm hb) ?_
 by_cases h0 : l.length = 0
 ·have := List.eq_nil_of_length_eq_zero h0
  subst this
  exact Ev.step (f := fun _ => some []) (fun z => rfl) (Ev.now _)
 ·have h := sgPart_l0 l hl (contentI 0 l) (tight_pos l ht (by omega)) m hm hb l.length 0 [] (by omega) (by omega) (by simp)
  simpa [partI] using h
theorem divided_ev (l : List Int) (hl : l.length ≤ 1000000) (m : Int) (hm : 0 ≤ m ∧ m ≤ 4611686018427387904) (hb : boundB l m) (ht : tight l) : Ev (fun k => impl_divided.f k l) (partI l) := by
 refine Ev.bind (contentOf_eq l hl m hm hb) ?_
 by_cases h0 : l.length = 0
 ·have := List.eq_nil_of_length_eq_zero h0
  subst this
  exact Ev.step (f := fun _ => some []) (fun z => rfl) (Ev.now _)
 ·have hp := tight_pos l ht (by omega)
  have hr := contentI_range l m hm.1 hb 0 ⟨by omega, by omega⟩
  have h := divided_l0 l hl (contentI 0 l) hp m hm hb l.length 0 [] (by omega) (by omega) (by simp)
  rw [show mx (contentI 0 l) 1 = contentI 0 l by unfold mx; split <;> omega]
  simpa [partI] using h
theorem trimI_tight (l : List Int) : tight (trimI l) := by
 generalize hn : l.length = n
 induction n generalizing l with
 | zero => have := List.eq_nil_of_length_eq_zero hn; subst this; intro h; simp [trimI] at h
 | succ n ih =>
  obtain ⟨q, a, rfl⟩ := List_snoc l (by omega)
  by_cases ha : a = 0
  ·subst ha; rw [trimI_zero]; exact ih q (by simpa using hn)
  ·rw [trimI_last q a ha]
   intro _
   have e : (((q ++ [a]).length : Int) - 1) = (q.length : Int) := by simp
   rw [e, rd_last]; exact ha
theorem trimI_sub (l : List Int) : ∀ x ∈ trimI l, x ∈ l := by
 intro x hx
 unfold trimI at hx
 have := (List.dropWhile_sublist (fun x => x == 0) (l := l.reverse)).subset (by simpa using hx)
 simpa using this
theorem gcd_exact (a b : Int) (hb : b ≠ 0) : a * Int.tdiv (absI b) ((Int.gcd a b : Nat) : Int) = absI b * Int.tdiv a ((Int.gcd a b : Nat) : Int) := by
 obtain ⟨g, hg⟩ : ∃ g : Int, ((Int.gcd a b : Nat) : Int) = g := ⟨_, rfl⟩
 have h1 : g ∣ a := by rw [← hg]; exact Int.gcd_dvd_left ..
 have h2 : g ∣ b := by rw [← hg]; exact Int.gcd_dvd_right ..
 have h3 : g ∣ absI b := by unfold absI; exact Int.dvd_natAbs.2 h2
 have hg0 : g ≠ 0 := by
  intro e; rw [e] at h2; exact hb (Int.zero_dvd.1 h2)
 rw [hg]
 obtain ⟨u, hu⟩ := h1
 obtain ⟨v, hv⟩ := h3
 rw [hv, Int.mul_tdiv_cancel_left _ hg0]
 rw [hu, Int.mul_tdiv_cancel_left _ hg0]
 rw [Int.mul_assoc, Int.mul_assoc, Int.mul_comm u v]
theorem up_eq (b g : Int) (hb : -1000000000 ≤ b ∧ b ≤ 1000000000) (hg : 0 < g) : mx (wrap64 (Int.tdiv b g)) (wrap64 (Int.tdiv (wrap64 (-b)) g)) = Int.tdiv (absI b) g := by
 have h1 := tdiv_bound b g
 rw [show wrap64 (-b) = -b by unfold wrap64; omega, Int.neg_tdiv, show wrap64 (Int.tdiv b g) = Int.tdiv b g by unfold wrap64; omega, show wrap64 (-Int.tdiv b g) = -Int.tdiv b g by unfold wrap64; omega]
 unfold absI mx
 by_cases h : 0 ≤ b
 ·have h2 := Int.tdiv_nonneg h (by omega : 0 ≤ g)
  rw [if_neg (by omega), show ((b.natAbs : Nat) : Int) = b by omega]
 ·have h2 := Int.tdiv_nonneg (show 0 ≤ -b by omega) (by omega : 0 ≤ g)
  rw [Int.neg_tdiv] at h2
  rw [show ((b.natAbs : Nat) : Int) = -b by omega, Int.neg_tdiv]
  split <;> omega
def downI (a b : Int) : Int := if b < 0 then -(Int.tdiv a ((Int.gcd a b : Nat) : Int)) else Int.tdiv a ((Int.gcd a b : Nat) : Int)
def upI (a b : Int) : Int := Int.tdiv (absI b) ((Int.gcd a b : Nat) : Int)
theorem up_down (a b : Int) (hb : b ≠ 0) : a * upI a b = b * downI a b := by
 unfold upI downI
 rw [gcd_exact a b hb]
 unfold absI
 split
 ·rw [show ((b.natAbs : Nat) : Int) = -b by omega, Int.mul_neg, Int.neg_mul]
 ·rw [show ((b.natAbs : Nat) : Int) = b by omega]
theorem up_bound (a b : Int) (hb : -1000000000 ≤ b ∧ b ≤ 1000000000) : -1000000000 ≤ upI a b ∧ upI a b ≤ 1000000000 := by
 have := tdiv_bound (absI b) ((Int.gcd a b : Nat) : Int)
 unfold upI
 unfold absI at this ⊢
 omega
theorem down_bound (a b : Int) (ha : -1000000000 ≤ a ∧ a ≤ 1000000000) : -1000000000 ≤ downI a b ∧ downI a b ≤ 1000000000 := by
 have := tdiv_bound a ((Int.gcd a b : Nat) : Int)
 unfold downI
 split <;> omega
def lessI (X q : List Int) (down : Int) (s i : Nat) : List Int := (List.range X.length).map fun j => if s ≤ j ∧ j < s + i then wrap64 (rd X (j : Int) - wrap64 (rd q ((j - s : Nat) : Int) * down)) else rd X (j : Int)
theorem lessI_length (X q : List Int) (down : Int) (s i : Nat) : (lessI X q down s i).length = X.length := by simp [lessI]
theorem lessI_rd (X q : List Int) (down : Int) (s i j : Nat) (h : j < X.length) : rd (lessI X q down s i) (j : Int) = if s ≤ j ∧ j < s + i then wrap64 (rd X (j : Int) - wrap64 (rd q ((j - s : Nat) : Int) * down)) else rd X (j : Int) := by
 rw [rd_getElem _ j (by rw [lessI_length]; exact h)]; simp [lessI]
theorem lessI_zero (X q : List Int) (down : Int) (s : Nat) : lessI X q down s 0 = X := by
 apply List.ext_getElem (by rw [lessI_length])
 intro j h1 h2
 have h3 := lessI_rd X q down s 0 j h2
 rw [rd_getElem _ j h1, rd_getElem X j h2, if_neg (by omega)] at h3
 exact h3
theorem lessI_set (X q : List Int) (down : Int) (s i : Nat) (h : s + i < X.length) : (lessI X q down s i).set (s + i) (wrap64 (rd (lessI X q down s i) ((s + i : Nat) : Int) - wrap64 (rd q (i : Int) * down))) = lessI X q down s (i + 1) := by
 apply List.ext_getElem (by rw [List.length_set, lessI_length, lessI_length])
 intro j h1 h2
 have hj : j < X.length := by rw [lessI_length] at h2; exact h2
 have e2 := lessI_rd X q down s (i + 1) j hj
 rw [rd_getElem _ j h2] at e2
 rw [e2, List.getElem_set]
 by_cases e : s + i = j
 ·subst e
  rw [if_pos rfl, if_pos (by omega), lessI_rd X q down s i _ h, if_neg (by omega), show s + i - s = i by omega]
 ·rw [if_neg e]
  have e1 := lessI_rd X q down s i j hj
  rw [rd_getElem _ j (by rw [lessI_length]; exact hj)] at e1
  rw [e1]
  by_cases hc : s ≤ j ∧ j < s + i
  ·rw [if_pos hc, if_pos (by omega)]
  ·rw [if_neg hc, if_neg (by omega)]
def mulI (p : List Int) (u : Int) : List Int := p.map fun x => wrap64 (x * u)
theorem mulI_length (p : List Int) (u : Int) : (mulI p u).length = p.length := by simp [mulI]
theorem mulI_rd (p : List Int) (u : Int) (j : Nat) (h : j < p.length) : rd (mulI p u) (j : Int) = wrap64 (rd p (j : Int) * u) := by
 rw [rd_getElem _ j (by rw [mulI_length]; exact h), rd_getElem p j h]; simp [mulI]
theorem idx_eq (p q : List Int) (hp : p.length ≤ 1000000) (hq : q.length ≤ p.length) (i : Nat) (hi : i ≤ q.length) : wrap64 (wrap64 ((i : Int) + (p.length : Int)) - (q.length : Int)) = ((p.length - q.length + i : Nat) : Int) := by unfold wrap64; omega
def nextI (p q : List Int) : List Int := lessI (mulI p (upI (rd p ((p.length : Int) - 1)) (rd q ((q.length : Int) - 1)))) q (downI (rd p ((p.length : Int) - 1)) (rd q ((q.length : Int) - 1))) (p.length - q.length) q.length
theorem nextI_length (p q : List Int) : (nextI p q).length = p.length := by unfold nextI; rw [lessI_length, mulI_length]
def tail1 (N : List Int) (z : Nat) : Option (List Int × Bool) := (spec_sgTrim.f z N).bind fun t => (spec_sgPart.f z t).bind fun t => (spec_l1All.f z t (-1000000000) 1000000000).bind fun t' => some (t, t')
theorem step_l1 (p q : List Int) (down : Int) (X : List Int) (hX : X.length = p.length) (hp : p.length ≤ 1000000) (hq : q.length ≤ p.length) (n : Nat) : ∀ (i : Nat), i ≤ q.length → q.length - i = n →
 ∀ r, Ev (tail1 (lessI X q down (p.length - q.length) q.length)) r → Ev (fun z => spec_sgStep.l1 z p q down (lessI X q down (p.length - q.length) i) q (q.length : Int) (i : Int)) r := by
 induction n with
 | zero =>
  intro i hi hn r hr
  have e : i = q.length := by omega
  subst e
  refine Ev.step (fun z => rfl) ?_
  simp only [spec_sgStep.l1]
  exact Ev_if (fun h => by omega) (fun _ => hr)
 | succ n ih =>
  intro i hi hn r hr
  refine Ev.step (fun z => rfl) ?_
  simp only [spec_sgStep.l1]
  rw [idx_eq p q hp hq i hi, wrap_next i (by omega), Int.toNat_natCast, lessI_set X q down _ i (by omega), lessI_length]
  exact Ev_if (fun _ => Ev_if (fun _ => Ev_if (fun _ => Ev_if (fun _ => Ev_if (fun _ => ih (i + 1) (by omega) (by omega) r hr) (fun h => by omega)) (fun h => by omega)) (fun h => by omega)) (fun h => by omega)) (fun h => by omega)
theorem step_l0 (p q : List Int) (up down : Int) (hp : p.length ≤ 1000000) (hq : q.length ≤ p.length) (n : Nat) : ∀ (i : Nat), i ≤ p.length → p.length - i = n →
 ∀ r, Ev (tail1 (lessI (mulI p up) q down (p.length - q.length) q.length)) r → Ev (fun z => spec_sgStep.l0 z p q up down ((mulI p up).take i) p (p.length : Int) (i : Int)) r := by
 induction n with
 | zero =>
  intro i hi hn r hr
  refine Ev.step (fun z => rfl) ?_
  simp only [spec_sgStep.l0]
  refine Ev_if (fun h => by omega) (fun _ => ?_)
  rw [List.take_of_length_le (by rw [mulI_length]; omega)]
  have h := step_l1 p q down (mulI p up) (mulI_length _ _) hp hq q.length 0 (by omega) (by omega) r hr
  rw [lessI_zero] at h
  exact h
 | succ n ih =>
  intro i hi hn r hr
  refine Ev.step (fun z => rfl) ?_
  simp only [spec_sgStep.l0]
  have e : (mulI p up).take i ++ [wrap64 (rd p (i : Int) * up)] = (mulI p up).take (i + 1) := by
   have h1 : i < (mulI p up).length := by rw [mulI_length]; omega
   rw [← mulI_rd p up i (by omega), rd_getElem _ i h1, List.take_succ_eq_append_getElem h1]
  rw [wrap_next i (by omega), e]
  exact Ev_if (fun _ => Ev_if (fun _ => Ev_if (fun _ => Ev_if (fun _ => ih (i + 1) (by omega) (by omega) r hr) (fun h => absurd (by simp; omega) h)) (fun h => by omega)) (fun h => by omega)) (fun h => by omega)
theorem gcd_abs2 (a b : Int) : Int.gcd (absI a) (absI b) = Int.gcd a b := by unfold absI; simp [Int.gcd]
theorem sgStep_ev (p q : List Int) (hp : p.length ≤ 1000000) (hq : q.length ≤ p.length) (hq0 : 0 < q.length) (hpb : boundB p 1000000000) (hqb : boundB q 1000000000) (hb : rd q ((q.length : Int) - 1) ≠ 0) :
 ∀ r, Ev (tail1 (nextI p q)) r → Ev (fun z => spec_sgStep.f z p q) r := by
 intro r hr
 have hw1 : wrap64 ((q.length : Int) - 1) = (q.length : Int) - 1 := by unfold wrap64; omega
 have hw2 : wrap64 ((p.length : Int) - 1) = (p.length : Int) - 1 := by unfold wrap64; omega
 have ma : rd p ((p.length : Int) - 1) ∈ p := by
  have e : ((p.length : Int) - 1) = ((p.length - 1 : Nat) : Int) := by omega
  rw [e]; exact rd_mem p _ (by omega)
 have mb : rd q ((q.length : Int) - 1) ∈ q := by
  have e : ((q.length : Int) - 1) = ((q.length - 1 : Nat) : Int) := by omega
  rw [e]; exact rd_mem q _ (by omega)
 unfold nextI at hr
 obtain ⟨a, ha⟩ : ∃ a, rd p ((p.length : Int) - 1) = a := ⟨_, rfl⟩
 obtain ⟨b, hbe⟩ : ∃ b, rd q ((q.length : Int) - 1) = b := ⟨_, rfl⟩
 rw [ha] at ma hr
 rw [hbe] at mb hb hr
 have hab := hpb a ma
 have hbb := hqb b mb
 have hg := sgGcd_eq (absI a) (absI b) (by unfold absI; omega) (by unfold absI; omega)
 rw [gcd_abs2] at hg
 obtain ⟨g, hge⟩ : ∃ g : Int, ((Int.gcd a b : Nat) : Int) = g := ⟨_, rfl⟩
 have hg0 : g ≠ 0 := by
  intro e
  have h2 : g ∣ b := by rw [← hge]; exact Int.gcd_dvd_right ..
  rw [e] at h2; exact hb (Int.zero_dvd.1 h2)
 have ub := up_bound a b hbb
 have db := down_bound a b hab
 have dt := tdiv_bound a g
 have hj : ∀ r, Ev (tail1 (lessI (mulI p (upI a b)) q (downI a b) (p.length - q.length) q.length)) r → Ev (fun z => spec_sgStep.j0 z p q (upI a b) (downI a b)) r := by
  intro r hr
  refine Ev.step (fun z => rfl) ?_
  simp only [spec_sgStep.j0]
  have h := step_l0 p q (upI a b) (downI a b) hp hq p.length 0 (by omega) (by omega) r hr
  simpa using h
 unfold spec_sgStep.f
 rw [hw1, hw2, ha, hbe]
 refine Ev_if (fun _ => Ev_if (fun _ => Ev_if (fun _ => Ev_if (fun _ => ?_) (fun h => by omega)) (fun h => by omega)) (fun h => by omega)) (fun h => by omega)
 refine Ev_bindS (l1Abs_eq a ⟨by omega, by omega⟩) (Ev_bindS (l1Abs_eq b ⟨by omega, by omega⟩) (Ev.bind hg ?_))
 rw [hge]
 have eu : wrap64 (Int.tdiv (absI b) g) = upI a b := by
  have : Int.tdiv (absI b) g = upI a b := by unfold upI; rw [hge]
  rw [this]; unfold wrap64; omega
 have ed : wrap64 (Int.tdiv a g) = Int.tdiv a g := by unfold wrap64; omega
 have edn : wrap64 (-(Int.tdiv a g)) = -(Int.tdiv a g) := by unfold wrap64; omega
 rw [eu, ed, edn]
 refine Ev_if (fun h => absurd h hg0) (fun _ => Ev_if (fun hneg => ?_) (fun hneg => ?_))
 ·have e : -(Int.tdiv a g) = downI a b := by unfold downI; rw [if_pos hneg, hge]
  rw [e]; exact hj r hr
 ·have e : Int.tdiv a g = downI a b := by unfold downI; rw [if_neg hneg, hge]
  rw [e]; exact hj r hr
def tailI (q : List Int) (b : Int) (N : List Int) (z : Nat) : Option (List Int × Bool) := (impl_stripped.f z N).bind fun t => (impl_divided.f z t).bind fun t => (slices_ContainsFunc_int_int__impl_remainder_1.f t).bind fun t' => if t' = true then some (([] : List Int), false) else impl_remainder.l0 z t q b
theorem rem_l2 (p q : List Int) (b down : Int) (X : List Int) (hX : X.length = p.length) (hp : p.length ≤ 1000000) (hq : q.length ≤ p.length) (n : Nat) : ∀ (i : Nat), i ≤ q.length → q.length - i = n →
 ∀ r, Ev (tailI q b (lessI X q down (p.length - q.length) q.length)) r → Ev (fun z => impl_remainder.l2 z p q b down (lessI X q down (p.length - q.length) i) q (q.length : Int) (i : Int)) r := by
 induction n with
 | zero =>
  intro i hi hn r hr
  have e : i = q.length := by omega
  subst e
  refine Ev.step (fun z => rfl) ?_
  simp only [impl_remainder.l2]
  exact Ev_if (fun h => by omega) (fun _ => hr)
 | succ n ih =>
  intro i hi hn r hr
  refine Ev.step (fun z => rfl) ?_
  simp only [impl_remainder.l2]
  rw [idx_eq p q hp hq i hi, wrap_next i (by omega), Int.toNat_natCast, Int.mul_comm down, lessI_set X q down _ i (by omega), lessI_length]
  exact Ev_if (fun _ => Ev_if (fun _ => Ev_if (fun _ => Ev_if (fun _ => Ev_if (fun _ => ih (i + 1) (by omega) (by omega) r hr) (fun h => by omega)) (fun h => by omega)) (fun h => by omega)) (fun h => by omega)) (fun h => by omega)
theorem mul_fill (p : List Int) (u : Int) (i : Nat) (h : i < p.length) : ((mulI p u).take i ++ List.replicate (p.length - i) 0).set i (wrap64 (u * rd p (i : Int))) = (mulI p u).take (i + 1) ++ List.replicate (p.length - (i + 1)) 0 := by
 have h1 : i < (mulI p u).length := by rw [mulI_length]; exact h
 have h2 : p.length - i = (p.length - (i + 1)) + 1 := by omega
 rw [Int.mul_comm u, ← mulI_rd p u i h, rd_getElem _ i h1, List.take_succ_eq_append_getElem h1, h2, List.replicate_succ, List.set_append_right _ _ (by simp; omega)]
 have h3 : i - ((mulI p u).take i).length = 0 := by simp; omega
 rw [h3, List.set_cons_zero, List.append_assoc]
 rfl
theorem rem_l1 (p q : List Int) (b up down : Int) (hp : p.length ≤ 1000000) (hq : q.length ≤ p.length) (n : Nat) : ∀ (i : Nat), i ≤ p.length → p.length - i = n →
 ∀ r, Ev (tailI q b (lessI (mulI p up) q down (p.length - q.length) q.length)) r → Ev (fun z => impl_remainder.l1 z p q b up down ((mulI p up).take i ++ List.replicate (p.length - i) 0) p (p.length : Int) (i : Int)) r := by
 induction n with
 | zero =>
  intro i hi hn r hr
  have e : i = p.length := by omega
  subst e
  refine Ev.step (fun z => rfl) ?_
  simp only [impl_remainder.l1]
  refine Ev_if (fun h => by omega) (fun _ => ?_)
  have h := rem_l2 p q b down (mulI p up) (mulI_length _ _) hp hq q.length 0 (by omega) (by omega) r hr
  rw [lessI_zero] at h
  rw [List.take_of_length_le (by rw [mulI_length]; omega), Nat.sub_self]
  simpa using h
 | succ n ih =>
  intro i hi hn r hr
  refine Ev.step (fun z => rfl) ?_
  simp only [impl_remainder.l1]
  rw [wrap_next i (by omega), Int.toNat_natCast, mul_fill p up i (by omega)]
  refine Ev_if (fun _ => Ev_if (fun _ => Ev_if (fun _ => Ev_if (fun _ => ih (i + 1) (by omega) (by omega) r hr) (fun h => absurd ?_ h)) (fun h => by omega)) (fun h => by omega)) (fun h => by omega)
  simp only [List.length_append, List.length_take, List.length_replicate, mulI_length]; omega
theorem rem_step (p q : List Int) (hp : p.length ≤ 1000000) (hq : q.length ≤ p.length) (hq0 : 0 < q.length) (hpb : boundB p 1000000000) (hqb : boundB q 1000000000) (hb : rd q ((q.length : Int) - 1) ≠ 0) :
 ∀ r, Ev (tailI q (rd q ((q.length : Int) - 1)) (nextI p q)) r → Ev (fun z => impl_remainder.l0 z p q (rd q ((q.length : Int) - 1))) r := by
 intro r hr
 have hw2 : wrap64 ((p.length : Int) - 1) = (p.length : Int) - 1 := by unfold wrap64; omega
 have ma : rd p ((p.length : Int) - 1) ∈ p := by
  have e : ((p.length : Int) - 1) = ((p.length - 1 : Nat) : Int) := by omega
  rw [e]; exact rd_mem p _ (by omega)
 have mb : rd q ((q.length : Int) - 1) ∈ q := by
  have e : ((q.length : Int) - 1) = ((q.length - 1 : Nat) : Int) := by omega
  rw [e]; exact rd_mem q _ (by omega)
 unfold nextI at hr
 obtain ⟨a, ha⟩ : ∃ a, rd p ((p.length : Int) - 1) = a := ⟨_, rfl⟩
 obtain ⟨b, hbe⟩ : ∃ b, rd q ((q.length : Int) - 1) = b := ⟨_, rfl⟩
 rw [ha] at ma hr
 rw [hbe] at mb hb hr ⊢
 have hab := hpb a ma
 have hbb := hqb b mb
 have hg := gcd_eq a b ⟨by omega, by omega⟩ ⟨by omega, by omega⟩
 obtain ⟨g, hge⟩ : ∃ g : Int, ((Int.gcd a b : Nat) : Int) = g := ⟨_, rfl⟩
 have hg0 : g ≠ 0 := by
  intro e
  have h2 : g ∣ b := by rw [← hge]; exact Int.gcd_dvd_right ..
  rw [e] at h2; exact hb (Int.zero_dvd.1 h2)
 have hgp : 0 < g := by omega
 have ub := up_bound a b hbb
 have db := down_bound a b hab
 have dt := tdiv_bound a g
 have hj : ∀ r, Ev (tailI q b (lessI (mulI p (upI a b)) q (downI a b) (p.length - q.length) q.length)) r → Ev (fun z => impl_remainder.j1 z p q b (upI a b) (downI a b)) r := by
  intro r hr
  refine Ev.step (fun z => rfl) ?_
  simp only [impl_remainder.j1]
  rw [Int.toNat_natCast]
  have h := rem_l1 p q b (upI a b) (downI a b) hp hq p.length 0 (by omega) (by omega) r hr
  refine Ev_if (fun _ => Ev_if (fun _ => ?_) (fun h => by omega)) (fun h => by omega)
  simpa using h
 refine Ev.step (fun z => rfl) ?_
 simp only [impl_remainder.l0]
 rw [hw2, ha]
 refine Ev_if (fun _ => Ev_if (fun _ => Ev_if (fun _ => Ev.bind hg ?_) (fun h => by omega)) (fun h => by omega)) (fun h => by omega)
 rw [hge]
 have eu : mx (wrap64 (Int.tdiv b g)) (wrap64 (Int.tdiv (wrap64 (-b)) g)) = upI a b := by
  rw [up_eq b g hbb hgp]; unfold upI; rw [hge]
 have ed : wrap64 (Int.tdiv a g) = Int.tdiv a g := by unfold wrap64; omega
 have edn : wrap64 (-(Int.tdiv a g)) = -(Int.tdiv a g) := by unfold wrap64; omega
 rw [eu, ed, edn]
 refine Ev_if (fun h => absurd h hg0) (fun _ => Ev_if (fun hneg => ?_) (fun hneg => ?_))
 ·have e : -(Int.tdiv a g) = downI a b := by unfold downI; rw [if_pos hneg, hge]
  rw [e]; exact hj r hr
 ·have e : Int.tdiv a g = downI a b := by unfold downI; rw [if_neg hneg, hge]
  rw [e]; exact hj r hr
theorem mul_bound (x y : Int) (hx : -1000000000 ≤ x ∧ x ≤ 1000000000) (hy : -1000000000 ≤ y ∧ y ≤ 1000000000) : -1000000000000000000 ≤ x * y ∧ x * y ≤ 1000000000000000000 := by
 have h1 : (x * y).natAbs ≤ 1000000000 * 1000000000 := by rw [Int.natAbs_mul]; exact Nat.mul_le_mul (by omega) (by omega)
 omega
theorem next_facts (p q : List Int) (hq : q.length ≤ p.length) (hq0 : 0 < q.length) (hpb : boundB p 1000000000) (hqb : boundB q 1000000000) (hb : rd q ((q.length : Int) - 1) ≠ 0) :
 boundB (nextI p q) 2000000000000000000 ∧ (trimI (nextI p q)).length < p.length := by
 have ma : rd p ((p.length : Int) - 1) ∈ p := by
  have e : ((p.length : Int) - 1) = ((p.length - 1 : Nat) : Int) := by omega
  rw [e]; exact rd_mem p _ (by omega)
 have mb : rd q ((q.length : Int) - 1) ∈ q := by
  have e : ((q.length : Int) - 1) = ((q.length - 1 : Nat) : Int) := by omega
  rw [e]; exact rd_mem q _ (by omega)
 have hl := nextI_length p q
 have hud := up_down (rd p ((p.length : Int) - 1)) (rd q ((q.length : Int) - 1)) hb
 have ub := up_bound (rd p ((p.length : Int) - 1)) (rd q ((q.length : Int) - 1)) (hqb _ mb)
 have db := down_bound (rd p ((p.length : Int) - 1)) (rd q ((q.length : Int) - 1)) (hpb _ ma)
 have key : ∀ j : Nat, j < p.length → rd (nextI p q) (j : Int) = rd p (j : Int) * upI (rd p ((p.length : Int) - 1)) (rd q ((q.length : Int) - 1)) - (if p.length - q.length ≤ j then rd q ((j - (p.length - q.length) : Nat) : Int) * downI (rd p ((p.length : Int) - 1)) (rd q ((q.length : Int) - 1)) else 0) ∧ -2000000000000000000 ≤ rd (nextI p q) (j : Int) ∧ rd (nextI p q) (j : Int) ≤ 2000000000000000000 := by
  intro j hj
  have h1 := mul_bound _ _ (hpb _ (rd_mem p j hj)) ub
  unfold nextI
  rw [lessI_rd _ _ _ _ _ j (by rw [mulI_length]; exact hj), mulI_rd p _ j hj]
  have e1 : wrap64 (rd p (j : Int) * upI (rd p ((p.length : Int) - 1)) (rd q ((q.length : Int) - 1))) = rd p (j : Int) * upI (rd p ((p.length : Int) - 1)) (rd q ((q.length : Int) - 1)) := by unfold wrap64; omega
  rw [e1]
  by_cases hs : p.length - q.length ≤ j
  ·have hr := rd_mem q (j - (p.length - q.length)) (by omega)
   have h2 := mul_bound _ _ (hqb _ hr) db
   have e2 : wrap64 (rd q ((j - (p.length - q.length) : Nat) : Int) * downI (rd p ((p.length : Int) - 1)) (rd q ((q.length : Int) - 1))) = rd q ((j - (p.length - q.length) : Nat) : Int) * downI (rd p ((p.length : Int) - 1)) (rd q ((q.length : Int) - 1)) := by unfold wrap64; omega
   rw [if_pos (by omega), if_pos hs, e2]
   have e3 : wrap64 (rd p (j : Int) * upI (rd p ((p.length : Int) - 1)) (rd q ((q.length : Int) - 1)) - rd q ((j - (p.length - q.length) : Nat) : Int) * downI (rd p ((p.length : Int) - 1)) (rd q ((q.length : Int) - 1))) = rd p (j : Int) * upI (rd p ((p.length : Int) - 1)) (rd q ((q.length : Int) - 1)) - rd q ((j - (p.length - q.length) : Nat) : Int) * downI (rd p ((p.length : Int) - 1)) (rd q ((q.length : Int) - 1)) := by unfold wrap64; omega
   rw [e3]
   exact ⟨rfl, by omega, by omega⟩
  ·rw [if_neg (by omega), if_neg hs]
   exact ⟨by omega, by omega, by omega⟩
 constructor
 ·intro x hx
  obtain ⟨j, hj, rfl⟩ := List.getElem_of_mem hx
  have := (key j (by omega)).2
  rw [rd_getElem _ j hj] at this
  exact this
 ·obtain ⟨N, a, hN⟩ := List_snoc (nextI p q) (by omega)
  have hlN : N.length = p.length - 1 := by
   have := congrArg List.length hN
   rw [hl] at this; simp at this; omega
  have ha : a = 0 := by
   have h := (key (p.length - 1) (by omega)).1
   have e1 : rd (nextI p q) ((p.length - 1 : Nat) : Int) = a := by rw [hN, ← hlN, rd_last]
   rw [e1, if_pos (by omega), show p.length - 1 - (p.length - q.length) = q.length - 1 by omega] at h
   have e2 : ((p.length - 1 : Nat) : Int) = (p.length : Int) - 1 := by omega
   have e3 : ((q.length - 1 : Nat) : Int) = (q.length : Int) - 1 := by omega
   rw [e2, e3, hud] at h
   omega
  rw [hN, ha, trimI_zero]
  have := trimI_length N
  omega
theorem cf_rem (l : List Int) : slices_ContainsFunc_int_int__impl_remainder_1.f l = some (!(l.all fun x => decide ((-1000000000) ≤ x ∧ x ≤ 1000000000))) := by
 induction l with
 | nil => rfl
 | cons x q ih =>
  simp only [slices_ContainsFunc_int_int__impl_remainder_1.f, impl_remainder_1.f, inside_eq, Option.bind_some, List.all_cons, ih]
  by_cases h : (-1000000000) ≤ x ∧ x ≤ 1000000000
  ·rw [decide_eq_true h]; rfl
  ·rw [decide_eq_false h]; rfl
theorem rem_loop (q : List Int) (hq0 : 0 < q.length) (hqb : boundB q 1000000000) (hb : rd q ((q.length : Int) - 1) ≠ 0) (n : Nat) : ∀ (p : List Int), p.length ≤ n → p.length ≤ 1000000 → boundB p 1000000000 → tight p →
 ∃ r ok, Ev (fun z => spec_sgRemainder.l0 z p q) (r, ok) ∧ Ev (fun z => impl_remainder.l0 z p q (rd q ((q.length : Int) - 1))) (r, ok) ∧ (ok = true → r.length < q.length ∧ boundB r 1000000000 ∧ tight r) ∧ (ok = false → r = []) := by
 induction n with
 | zero =>
  intro p hpn hp hpb ht
  refine ⟨p, true, ?_, ?_, fun _ => ⟨by omega, hpb, ht⟩, fun h => by cases h⟩
  ·refine Ev.step (fun z => rfl) ?_
   simp only [spec_sgRemainder.l0]
   exact Ev_if (fun h => by omega) (fun _ => Ev.now _)
  ·refine Ev.step (fun z => rfl) ?_
   simp only [impl_remainder.l0]
   exact Ev_if (fun h => by omega) (fun _ => Ev.now _)
 | succ n ih =>
  intro p hpn hp hpb ht
  by_cases hlen : q.length ≤ p.length
  ·obtain ⟨nb, nt⟩ := next_facts p q hlen hq0 hpb hqb hb
   have hTb : boundB (trimI (nextI p q)) 2000000000000000000 := fun x hx => nb x (trimI_sub _ x hx)
   have hTt := trimI_tight (nextI p q)
   have hTl : (trimI (nextI p q)).length ≤ 1000000 := by omega
   have hPl := part_length (trimI (nextI p q))
   have hPt := tight_part _ hTt
   have s1 := sgTrim_eq _ (nextI p q) rfl (by rw [nextI_length]; omega)
   have s2 := stripped_eq _ (nextI p q) rfl (by rw [nextI_length]; omega)
   have p1 := sgPart_ev _ hTl 2000000000000000000 ⟨by omega, by omega⟩ hTb hTt
   have p2 := divided_ev _ hTl 2000000000000000000 ⟨by omega, by omega⟩ hTb hTt
   obtain ⟨P, hPe⟩ : ∃ P, partI (trimI (nextI p q)) = P := ⟨_, rfl⟩
   rw [hPe] at hPl hPt p1 p2
   have a1 : Ev (fun z => spec_l1All.f z P (-1000000000) 1000000000) (P.all fun x => decide ((-1000000000) ≤ x ∧ x ≤ 1000000000)) := ⟨P.length + 1, fun k hk => l1All_eq P _ _ (by omega) k (by omega)⟩
   cases hall : (P.all fun x => decide ((-1000000000 : Int) ≤ x ∧ x ≤ 1000000000)) with
   | false =>
    rw [hall] at a1
    refine ⟨[], false, ?_, ?_, (fun h => by cases h), fun _ => rfl⟩
    ·have hs := sgStep_ev p q hp hlen hq0 hpb hqb hb (P, false) (Ev.bind s1 (Ev.bind p1 (Ev.bind a1 (Ev.now _))))
     refine Ev.step (fun z => rfl) ?_
     simp only [spec_sgRemainder.l0]
     exact Ev_if (fun _ => Ev.bind hs (Ev_if (fun h => by cases h) (fun _ => Ev.now _))) (fun h => by omega)
    ·refine rem_step p q hp hlen hq0 hpb hqb hb _ (Ev.bind s2 (Ev.bind p2 (Ev_bindS (cf_rem P) ?_)))
     rw [hall]
     exact Ev_if (fun _ => Ev.now _) (fun h => absurd rfl h)
   | true =>
    rw [hall] at a1
    have hPb : boundB P 1000000000 := by
     intro x hx
     have := List.all_eq_true.1 hall x hx
     simpa using this
    obtain ⟨r, ok, e1, e2, e3, e4⟩ := ih P (by omega) (by omega) hPb hPt
    refine ⟨r, ok, ?_, ?_, e3, e4⟩
    ·have hs := sgStep_ev p q hp hlen hq0 hpb hqb hb (P, true) (Ev.bind s1 (Ev.bind p1 (Ev.bind a1 (Ev.now _))))
     refine Ev.step (fun z => rfl) ?_
     simp only [spec_sgRemainder.l0]
     exact Ev_if (fun _ => Ev.bind hs (Ev_if (fun _ => e1) (fun h => absurd rfl h))) (fun h => by omega)
    ·refine rem_step p q hp hlen hq0 hpb hqb hb _ (Ev.bind s2 (Ev.bind p2 (Ev_bindS (cf_rem P) ?_)))
     rw [hall]
     exact Ev_if (fun h => by cases h) (fun _ => e2)
  ·refine ⟨p, true, ?_, ?_, fun _ => ⟨by omega, hpb, ht⟩, fun h => by cases h⟩
   ·refine Ev.step (fun z => rfl) ?_
    simp only [spec_sgRemainder.l0]
    exact Ev_if (fun h => by omega) (fun _ => Ev.now _)
   ·refine Ev.step (fun z => rfl) ?_
    simp only [impl_remainder.l0]
    exact Ev_if (fun h => by omega) (fun _ => Ev.now _)
theorem rem_ev (p q : List Int) (hp : p.length ≤ 1000000) (hq : q.length ≤ 1000000) (hq0 : 0 < q.length) (hpb : boundB p 1000000000) (hpt : tight p) (hqb : boundB q 1000000000) (hqt : tight q) :
 ∃ r ok, Ev (fun z => spec_sgRemainder.f z p q) (r, ok) ∧ Ev (fun z => impl_remainder.f z p q) (r, ok) ∧ (ok = true → r.length < q.length ∧ boundB r 1000000000 ∧ tight r) ∧ (ok = false → r = []) := by
 have hPb := part_bound p 1000000000 hpb
 have hPt := tight_part p hpt
 have hPl := part_length p
 obtain ⟨r, ok, e1, e2, e3, e4⟩ := rem_loop q hq0 hqb (hqt hq0) (partI p).length (partI p) (Nat.le_refl _) (by omega) hPb hPt
 refine ⟨r, ok, ?_, ?_, e3, e4⟩
 ·exact Ev.bind (sgPart_ev p hp 1000000000 ⟨by omega, by omega⟩ hpb hpt) e1
 ·refine Ev.bind (divided_ev p hp 1000000000 ⟨by omega, by omega⟩ hpb hpt) ?_
  rw [show wrap64 ((q.length : Int) - 1) = (q.length : Int) - 1 by unfold wrap64; omega]
  exact Ev_if (fun _ => Ev_if (fun _ => e2) (fun h => by omega)) (fun h => by omega)
theorem good_tight (l : List Int) (h : goodB l = true) : tight l := good_last l h
theorem good_bound9 (l : List Int) (h : goodB l = true) : boundB l 1000000000 := fun x hx => by have := good_bound l h x hx; omega
def negI (l : List Int) : List Int := l.map fun x => wrap64 (-x)
theorem negI_length (l : List Int) : (negI l).length = l.length := by simp [negI]
theorem negI_rd (l : List Int) (j : Nat) (h : j < l.length) : rd (negI l) (j : Int) = wrap64 (-(rd l (j : Int))) := by
 rw [rd_getElem _ j (by rw [negI_length]; exact h), rd_getElem l j h]; simp [negI]
theorem negated_l0 (l : List Int) (hl : l.length ≤ 1000000) (n : Nat) : ∀ (i : Nat), i ≤ l.length → l.length - i = n → Ev (fun z => impl_negated.l0 z ((negI l).take i) l (l.length : Int) (i : Int)) (negI l) := by
 induction n with
 | zero =>
  intro i hi hn
  refine Ev.step (fun z => rfl) ?_
  simp only [impl_negated.l0]
  refine Ev_if (fun h => by omega) (fun _ => ?_)
  rw [List.take_of_length_le (by rw [negI_length]; omega)]
  exact Ev.now _
 | succ n ih =>
  intro i hi hn
  refine Ev.step (fun z => rfl) ?_
  simp only [impl_negated.l0]
  have e : (negI l).take i ++ [wrap64 (-(rd l (i : Int)))] = (negI l).take (i + 1) := by
   have h1 : i < (negI l).length := by rw [negI_length]; omega
   rw [← negI_rd l i (by omega), rd_getElem _ i h1, List.take_succ_eq_append_getElem h1]
  rw [wrap_next i (by omega), e]
  exact Ev_if (fun _ => Ev_if (fun _ => Ev_if (fun _ => Ev_if (fun _ => ih (i + 1) (by omega) (by omega)) (fun h => absurd (by simp; omega) h)) (fun h => by omega)) (fun h => by omega)) (fun h => by omega)
theorem negated_ev (l : List Int) (hl : l.length ≤ 1000000) : Ev (fun z => impl_negated.f z l) (negI l) := by
 have h := negated_l0 l hl l.length 0 (by omega) (by omega)
 unfold impl_negated.f
 simpa using h
theorem sgUp_l0 (l : List Int) (hl : l.length ≤ 1000000) (n : Nat) : ∀ (i : Nat), i ≤ l.length → l.length - i = n → Ev (fun z => spec_sgUp.l0 z ((negI l).take i ++ l.drop i) (l.length : Int) (i : Int)) (negI l) := by
 induction n with
 | zero =>
  intro i hi hn
  refine Ev.step (fun z => rfl) ?_
  simp only [spec_sgUp.l0]
  refine Ev_if (fun h => by omega) (fun _ => ?_)
  rw [List.take_of_length_le (by rw [negI_length]; omega), List.drop_eq_nil_of_le (by omega), List.append_nil]
  exact Ev.now _
 | succ n ih =>
  intro i hi hn
  refine Ev.step (fun z => rfl) ?_
  simp only [spec_sgUp.l0]
  have hlen : ((negI l).take i ++ l.drop i).length = l.length := by simp [negI_length]; omega
  have er : rd ((negI l).take i ++ l.drop i) (i : Int) = rd l (i : Int) := by
   rw [rd_getElem _ i (by rw [hlen]; omega), rd_getElem l i (by omega), List.getElem_append_right (by simp; omega)]
   simp [negI_length, Nat.min_eq_left (by omega : i ≤ l.length)]
  have e : ((negI l).take i ++ l.drop i).set i (wrap64 (-(rd l (i : Int)))) = (negI l).take (i + 1) ++ l.drop (i + 1) := by
   have h1 : i < (negI l).length := by rw [negI_length]; omega
   rw [List.set_append_right _ _ (by simp; omega)]
   have h3 : i - ((negI l).take i).length = 0 := by simp [negI_length]; omega
   rw [h3, drop_rd l i (by omega), List.set_cons_zero, List.take_succ_eq_append_getElem h1, ← negI_rd l i (by omega), rd_getElem _ i h1, List.append_assoc]
   rfl
  rw [wrap_next i (by omega), er, Int.toNat_natCast, e, hlen]
  exact Ev_if (fun _ => Ev_if (fun _ => Ev_if (fun _ => ih (i + 1) (by omega) (by omega)) (fun h => by omega)) (fun h => by omega)) (fun h => by omega)
theorem sgUp_neg (l : List Int) (hl : l.length ≤ 1000000) : Ev (fun z => spec_sgUp.l0 z l (l.length : Int) 0) (negI l) := by
 have h := sgUp_l0 l hl l.length 0 (by omega) (by omega)
 simpa using h
def signI (l : List Int) : List Int := if l.length = 0 then l else if rd l ((l.length : Int) - 1) < 0 then negI l else l
theorem signI_length (l : List Int) : (signI l).length = l.length := by
 unfold signI; split
 ·rfl
 ·split
  ·exact negI_length l
  ·rfl
theorem withSign_ev (l : List Int) (hl : l.length ≤ 1000000) : Ev (fun z => impl_withSign.f z l) (signI l) := by
 unfold impl_withSign.f signI
 rw [show wrap64 ((l.length : Int) - 1) = (l.length : Int) - 1 by unfold wrap64; omega]
 refine Ev_if (fun h0 => Ev_if (fun _ => Ev_if (fun _ => Ev_if (fun h => ?_) (fun h => ?_)) (fun h => by omega)) (fun h => by omega)) (fun h0 => ?_)
 ·rw [if_neg (by omega), if_pos h]
  exact Ev.bind (negated_ev l hl) (Ev.now _)
 ·rw [if_neg (by omega), if_neg h]; exact Ev.now _
 ·rw [if_pos (by omega)]; exact Ev.now _
theorem sgUp_ev (l : List Int) (hl : l.length ≤ 1000000) (m : Int) (hm : 0 ≤ m ∧ m ≤ 4611686018427387904) (hb : boundB l m) (ht : tight l) : Ev (fun z => spec_sgUp.f z l) (signI (partI l)) := by
 unfold spec_sgUp.f
 refine Ev.bind (sgPart_ev l hl m hm hb ht) ?_
 have hP := part_length l
 obtain ⟨P, hPe⟩ : ∃ P, partI l = P := ⟨_, rfl⟩
 rw [hPe] at hP ⊢
 unfold signI
 rw [show wrap64 ((P.length : Int) - 1) = (P.length : Int) - 1 by unfold wrap64; omega]
 refine Ev_if (fun h0 => Ev_if (fun _ => Ev_if (fun _ => ?_) (fun h => by omega)) (fun h => by omega)) (fun h0 => ?_)
 ·rw [if_neg (by omega)]
  by_cases hs : rd P ((P.length : Int) - 1) < 0
  ·rw [if_pos hs, decide_eq_true hs]
   refine Ev.step (fun z => rfl) ?_
   simp only [spec_sgUp.j0]
   exact Ev_if (fun _ => sgUp_neg P (by omega)) (fun h => absurd trivial h)
  ·rw [if_neg hs, decide_eq_false hs]
   refine Ev.step (fun z => rfl) ?_
   simp only [spec_sgUp.j0]
   exact Ev_if (fun h => by cases h) (fun _ => Ev.now _)
 ·rw [if_pos (by omega)]
  refine Ev.step (fun z => rfl) ?_
  simp only [spec_sgUp.j0]
  exact Ev_if (fun h => by cases h) (fun _ => Ev.now _)
theorem common_loop (n : Nat) : ∀ (p q : List Int), q.length ≤ n → p.length ≤ 1000000 → q.length ≤ 1000000 → boundB p 1000000000 → tight p → boundB q 1000000000 → tight q →
 ∃ r ok, Ev (fun z => spec_sgCommon.l0 z p q) (r, ok) ∧ Ev (fun z => impl_commonDivisor.l0 z p q) (r, ok) ∧ (ok = true → r.length ≤ 1000000) ∧ (ok = false → r = []) := by
 induction n with
 | zero =>
  intro p q hn hp hq hpb hpt hqb hqt
  refine ⟨signI (partI p), true, ?_, ?_, fun _ => by rw [signI_length, part_length]; exact hp, fun h => by cases h⟩
  ·refine Ev.step (fun z => rfl) ?_
   simp only [spec_sgCommon.l0]
   exact Ev_if (fun h => by omega) (fun _ => Ev.bind (sgUp_ev p hp 1000000000 ⟨by omega, by omega⟩ hpb hpt) (Ev.now _))
  ·refine Ev.step (fun z => rfl) ?_
   simp only [impl_commonDivisor.l0]
   exact Ev_if (fun h => by omega) (fun _ => Ev.bind (divided_ev p hp 1000000000 ⟨by omega, by omega⟩ hpb hpt) (Ev.bind (withSign_ev _ (by rw [part_length]; exact hp)) (Ev.now _)))
 | succ n ih =>
  intro p q hn hp hq hpb hpt hqb hqt
  by_cases h0 : 0 < q.length
  ·obtain ⟨r, ok, e1, e2, e3, e4⟩ := rem_ev p q hp hq h0 hpb hpt hqb hqt
   cases ok with
   | false =>
    refine ⟨[], false, ?_, ?_, (fun h => by cases h), fun _ => rfl⟩
    ·refine Ev.step (fun z => rfl) ?_
     simp only [spec_sgCommon.l0]
     exact Ev_if (fun _ => Ev.bind e1 (Ev_if (fun h => by cases h) (fun _ => Ev.now _))) (fun h => by omega)
    ·refine Ev.step (fun z => rfl) ?_
     simp only [impl_commonDivisor.l0]
     exact Ev_if (fun _ => Ev.bind e2 (Ev_if (fun h => by cases h) (fun _ => Ev.now _))) (fun h => by omega)
   | true =>
    obtain ⟨hl, hb, ht⟩ := e3 rfl
    obtain ⟨r', ok', f1, f2, f3, f4⟩ := ih q r (by omega) hq (by omega) hqb hqt hb ht
    refine ⟨r', ok', ?_, ?_, f3, f4⟩
    ·refine Ev.step (fun z => rfl) ?_
     simp only [spec_sgCommon.l0]
     exact Ev_if (fun _ => Ev.bind e1 (Ev_if (fun _ => f1) (fun h => absurd rfl h))) (fun h => by omega)
    ·refine Ev.step (fun z => rfl) ?_
     simp only [impl_commonDivisor.l0]
     exact Ev_if (fun _ => Ev.bind e2 (Ev_if (fun _ => f2) (fun h => absurd rfl h))) (fun h => by omega)
  ·refine ⟨signI (partI p), true, ?_, ?_, fun _ => by rw [signI_length, part_length]; exact hp, fun h => by cases h⟩
   ·refine Ev.step (fun z => rfl) ?_
    simp only [spec_sgCommon.l0]
    exact Ev_if (fun h => by omega) (fun _ => Ev.bind (sgUp_ev p hp 1000000000 ⟨by omega, by omega⟩ hpb hpt) (Ev.now _))
   ·refine Ev.step (fun z => rfl) ?_
    simp only [impl_commonDivisor.l0]
    exact Ev_if (fun h => by omega) (fun _ => Ev.bind (divided_ev p hp 1000000000 ⟨by omega, by omega⟩ hpb hpt) (Ev.bind (withSign_ev _ (by rw [part_length]; exact hp)) (Ev.now _)))
def stepI (p q : List Int) : List Int := partI (trimI (nextI p q))
def okB (l : List Int) : Bool := l.all fun x => decide ((-1000000000) ≤ x ∧ x ≤ 1000000000)
theorem okB_bound (l : List Int) (h : okB l = true) : boundB l 1000000000 := by
 intro x hx
 have := List.all_eq_true.1 h x hx
 simpa using this
def remL : Nat → List Int → List Int → List Int × Bool
 | 0, p, _ => (p, true)
 | n + 1, p, q => if q.length ≤ p.length then (if okB (stepI p q) = true then remL n (stepI p q) q else ([], false)) else (p, true)
theorem remL_ev (q : List Int) (hq0 : 0 < q.length) (hqb : boundB q 1000000000) (hb : rd q ((q.length : Int) - 1) ≠ 0) (n : Nat) : ∀ (p : List Int), p.length ≤ n → p.length ≤ 1000000 → boundB p 1000000000 → tight p →
 Ev (fun z => spec_sgRemainder.l0 z p q) (remL n p q) ∧ Ev (fun z => impl_remainder.l0 z p q (rd q ((q.length : Int) - 1))) (remL n p q) ∧ ((remL n p q).2 = true → (remL n p q).1.length < q.length ∧ boundB (remL n p q).1 1000000000 ∧ tight (remL n p q).1) ∧ ((remL n p q).2 = false → (remL n p q).1 = []) := by
 induction n with
 | zero =>
  intro p hpn hp hpb ht
  refine ⟨?_, ?_, fun _ => ⟨by simp only [remL]; omega, hpb, ht⟩, fun h => by cases h⟩
  ·refine Ev.step (fun z => rfl) ?_
   simp only [spec_sgRemainder.l0]
   exact Ev_if (fun h => by omega) (fun _ => Ev.now _)
  ·refine Ev.step (fun z => rfl) ?_
   simp only [impl_remainder.l0]
   exact Ev_if (fun h => by omega) (fun _ => Ev.now _)
 | succ n ih =>
  intro p hpn hp hpb ht
  by_cases hlen : q.length ≤ p.length
  ·obtain ⟨nb, nt⟩ := next_facts p q hlen hq0 hpb hqb hb
   have hTb : boundB (trimI (nextI p q)) 2000000000000000000 := fun x hx => nb x (trimI_sub _ x hx)
   have hTt := trimI_tight (nextI p q)
   have hTl : (trimI (nextI p q)).length ≤ 1000000 := by omega
   have hPl := part_length (trimI (nextI p q))
   have hPt := tight_part _ hTt
   have s1 := sgTrim_eq _ (nextI p q) rfl (by rw [nextI_length]; omega)
   have s2 := stripped_eq _ (nextI p q) rfl (by rw [nextI_length]; omega)
   have p1 := sgPart_ev _ hTl 2000000000000000000 ⟨by omega, by omega⟩ hTb hTt
   have p2 := divided_ev _ hTl 2000000000000000000 ⟨by omega, by omega⟩ hTb hTt
   simp only [remL]
   rw [if_pos hlen]
   change Ev (fun z => spec_sgPart.f z (trimI (nextI p q))) (stepI p q) at p1
   change Ev (fun z => impl_divided.f z (trimI (nextI p q))) (stepI p q) at p2
   change (stepI p q).length = _ at hPl
   change tight (stepI p q) at hPt
   obtain ⟨P, hPe⟩ : ∃ P, stepI p q = P := ⟨_, rfl⟩
   rw [hPe] at hPl hPt p1 p2 ⊢
   have a1 : Ev (fun z => spec_l1All.f z P (-1000000000) 1000000000) (okB P) := ⟨P.length + 1, fun k hk => l1All_eq P _ _ (by omega) k (by omega)⟩
   cases hall : okB P with
   | false =>
    rw [hall] at a1
    simp only [Bool.false_eq_true, if_false]
    refine ⟨?_, ?_, (fun h => by cases h), fun _ => trivial⟩
    ·have hs := sgStep_ev p q hp hlen hq0 hpb hqb hb (P, false) (Ev.bind s1 (Ev.bind p1 (Ev.bind a1 (Ev.now _))))
     refine Ev.step (fun z => rfl) ?_
     simp only [spec_sgRemainder.l0]
     exact Ev_if (fun _ => Ev.bind hs (Ev_if (fun h => by cases h) (fun _ => Ev.now _))) (fun h => by omega)
    ·refine rem_step p q hp hlen hq0 hpb hqb hb _ (Ev.bind s2 (Ev.bind p2 (Ev_bindS (cf_rem P) ?_)))
     rw [show (P.all fun x => decide ((-1000000000) ≤ x ∧ x ≤ 1000000000)) = false from hall]
     exact Ev_if (fun _ => Ev.now _) (fun h => absurd rfl h)
   | true =>
    rw [hall] at a1
    rw [if_pos rfl]
    obtain ⟨e1, e2, e3, e4⟩ := ih P (by omega) (by omega) (okB_bound P hall) hPt
    refine ⟨?_, ?_, e3, e4⟩
    ·have hs := sgStep_ev p q hp hlen hq0 hpb hqb hb (P, true) (Ev.bind s1 (Ev.bind p1 (Ev.bind a1 (Ev.now _))))
     refine Ev.step (fun z => rfl) ?_
     simp only [spec_sgRemainder.l0]
     exact Ev_if (fun _ => Ev.bind hs (Ev_if (fun _ => e1) (fun h => absurd rfl h))) (fun h => by omega)
    ·refine rem_step p q hp hlen hq0 hpb hqb hb _ (Ev.bind s2 (Ev.bind p2 (Ev_bindS (cf_rem P) ?_)))
     rw [show (P.all fun x => decide ((-1000000000) ≤ x ∧ x ≤ 1000000000)) = true from hall]
     exact Ev_if (fun h => by cases h) (fun _ => e2)
  ·simp only [remL]
   rw [if_neg hlen]
   refine ⟨?_, ?_, fun _ => ⟨by show p.length < q.length; omega, hpb, ht⟩, fun h => by cases h⟩
   ·refine Ev.step (fun z => rfl) ?_
    simp only [spec_sgRemainder.l0]
    exact Ev_if (fun h => by omega) (fun _ => Ev.now _)
   ·refine Ev.step (fun z => rfl) ?_
    simp only [impl_remainder.l0]
    exact Ev_if (fun h => by omega) (fun _ => Ev.now _)
def remF (p q : List Int) : List Int × Bool := remL (partI p).length (partI p) q
theorem remF_ev (p q : List Int) (hp : p.length ≤ 1000000) (hq : q.length ≤ 1000000) (hq0 : 0 < q.length) (hpb : boundB p 1000000000) (hpt : tight p) (hqb : boundB q 1000000000) (hqt : tight q) :
 Ev (fun z => spec_sgRemainder.f z p q) (remF p q) ∧ Ev (fun z => impl_remainder.f z p q) (remF p q) ∧ ((remF p q).2 = true → (remF p q).1.length < q.length ∧ boundB (remF p q).1 1000000000 ∧ tight (remF p q).1) ∧ ((remF p q).2 = false → (remF p q).1 = []) := by
 have hPb := part_bound p 1000000000 hpb
 have hPt := tight_part p hpt
 have hPl := part_length p
 obtain ⟨e1, e2, e3, e4⟩ := remL_ev q hq0 hqb (hqt hq0) (partI p).length (partI p) (Nat.le_refl _) (by omega) hPb hPt
 refine ⟨?_, ?_, e3, e4⟩
 ·exact Ev.bind (sgPart_ev p hp 1000000000 ⟨by omega, by omega⟩ hpb hpt) e1
 ·refine Ev.bind (divided_ev p hp 1000000000 ⟨by omega, by omega⟩ hpb hpt) ?_
  rw [show wrap64 ((q.length : Int) - 1) = (q.length : Int) - 1 by unfold wrap64; omega]
  exact Ev_if (fun _ => Ev_if (fun _ => e2) (fun h => by omega)) (fun h => by omega)
theorem next_val (p q : List Int) (hq : q.length ≤ p.length) (hq0 : 0 < q.length) (hpb : boundB p 1000000000) (hqb : boundB q 1000000000) (hb : rd q ((q.length : Int) - 1) ≠ 0) (j : Nat) (hj : j < p.length) :
 rd (nextI p q) (j : Int) = rd p (j : Int) * upI (rd p ((p.length : Int) - 1)) (rd q ((q.length : Int) - 1)) - (if p.length - q.length ≤ j then rd q ((j - (p.length - q.length) : Nat) : Int) * downI (rd p ((p.length : Int) - 1)) (rd q ((q.length : Int) - 1)) else 0) := by
 have ma : rd p ((p.length : Int) - 1) ∈ p := by
  have e : ((p.length : Int) - 1) = ((p.length - 1 : Nat) : Int) := by omega
  rw [e]; exact rd_mem p _ (by omega)
 have mb : rd q ((q.length : Int) - 1) ∈ q := by
  have e : ((q.length : Int) - 1) = ((q.length - 1 : Nat) : Int) := by omega
  rw [e]; exact rd_mem q _ (by omega)
 have ub := up_bound (rd p ((p.length : Int) - 1)) (rd q ((q.length : Int) - 1)) (hqb _ mb)
 have db := down_bound (rd p ((p.length : Int) - 1)) (rd q ((q.length : Int) - 1)) (hpb _ ma)
 have h1 := mul_bound _ _ (hpb _ (rd_mem p j hj)) ub
 unfold nextI
 rw [lessI_rd _ _ _ _ _ j (by rw [mulI_length]; exact hj), mulI_rd p _ j hj]
 have e1 : wrap64 (rd p (j : Int) * upI (rd p ((p.length : Int) - 1)) (rd q ((q.length : Int) - 1))) = rd p (j : Int) * upI (rd p ((p.length : Int) - 1)) (rd q ((q.length : Int) - 1)) := by unfold wrap64; omega
 rw [e1]
 by_cases hs : p.length - q.length ≤ j
 ·have hr := rd_mem q (j - (p.length - q.length)) (by omega)
  have h2 := mul_bound _ _ (hqb _ hr) db
  have e2 : wrap64 (rd q ((j - (p.length - q.length) : Nat) : Int) * downI (rd p ((p.length : Int) - 1)) (rd q ((q.length : Int) - 1))) = rd q ((j - (p.length - q.length) : Nat) : Int) * downI (rd p ((p.length : Int) - 1)) (rd q ((q.length : Int) - 1)) := by unfold wrap64; omega
  rw [if_pos (by omega), if_pos hs, e2]
  unfold wrap64; omega
 ·rw [if_neg (by omega), if_neg hs]
  omega
theorem gcd_up (a b : Int) : ((Int.gcd a b : Nat) : Int) * upI a b = absI b := by
 unfold upI
 apply Int.mul_tdiv_cancel'
 unfold absI
 exact Int.dvd_natAbs.2 (Int.gcd_dvd_right ..)
def scl (c : Int) (l : List Int) : List Int := l.map fun x => c * x
theorem scl_length (c : Int) (l : List Int) : (scl c l).length = l.length := by simp [scl]
theorem scl_rd (c : Int) (l : List Int) (j : Nat) (h : j < l.length) : rd (scl c l) (j : Int) = c * rd l (j : Int) := by
 rw [rd_getElem _ j (by rw [scl_length]; exact h), rd_getElem l j h]; simp [scl]
theorem scl_content (c : Int) (hc : 0 < c) (l : List Int) : ∀ (d : Int), 0 ≤ d → contentI (c * d) (scl c l) = c * contentI d l := by
 induction l with
 | nil => intro d _; rfl
 | cons x q ih =>
  intro d hd
  have e : contentI (c * d) (scl c (x :: q)) = contentI (((Int.gcd (c * d) (c * x) : Nat) : Int)) (scl c q) := rfl
  rw [e, Int.gcd_mul_left, Int.natCast_mul, show ((c.natAbs : Nat) : Int) = c by omega, ih _ (by omega)]
  rfl
def comL : Nat → List Int → List Int → List Int × Bool
 | 0, p, _ => (signI (partI p), true)
 | n + 1, p, q => if 0 < q.length then (if (remF p q).2 = true then comL n q (remF p q).1 else ([], false)) else (signI (partI p), true)
theorem comL_ev (n : Nat) : ∀ (p q : List Int), q.length ≤ n → p.length ≤ 1000000 → q.length ≤ 1000000 → boundB p 1000000000 → tight p → boundB q 1000000000 → tight q →
 Ev (fun z => spec_sgCommon.l0 z p q) (comL n p q) ∧ Ev (fun z => impl_commonDivisor.l0 z p q) (comL n p q) := by
 have fin : ∀ (p q : List Int), q.length = 0 → p.length ≤ 1000000 → boundB p 1000000000 → tight p → Ev (fun z => spec_sgCommon.l0 z p q) (signI (partI p), true) ∧ Ev (fun z => impl_commonDivisor.l0 z p q) (signI (partI p), true) := by
  intro p q hq hp hpb hpt
  refine ⟨?_, ?_⟩
  ·refine Ev.step (fun z => rfl) ?_
   simp only [spec_sgCommon.l0]
   exact Ev_if (fun h => by omega) (fun _ => Ev.bind (sgUp_ev p hp 1000000000 ⟨by omega, by omega⟩ hpb hpt) (Ev.now _))
  ·refine Ev.step (fun z => rfl) ?_
   simp only [impl_commonDivisor.l0]
   exact Ev_if (fun h => by omega) (fun _ => Ev.bind (divided_ev p hp 1000000000 ⟨by omega, by omega⟩ hpb hpt) (Ev.bind (withSign_ev _ (by rw [part_length]; exact hp)) (Ev.now _)))
 induction n with
 | zero => intro p q hn hp hq hpb hpt _ _; exact fin p q (by omega) hp hpb hpt
 | succ n ih =>
  intro p q hn hp hq hpb hpt hqb hqt
  simp only [comL]
  by_cases h0 : 0 < q.length
  ·rw [if_pos h0]
   obtain ⟨e1, e2, e3, e4⟩ := remF_ev p q hp hq h0 hpb hpt hqb hqt
   obtain ⟨⟨r, ok⟩, hr⟩ : ∃ x, remF p q = x := ⟨_, rfl⟩
   rw [hr] at e1 e2 e3 e4 ⊢
   cases ok with
   | false =>
    rw [if_neg (by simp)]
    refine ⟨?_, ?_⟩
    ·refine Ev.step (fun z => rfl) ?_
     simp only [spec_sgCommon.l0]
     exact Ev_if (fun _ => Ev.bind e1 (Ev_if (fun h => by cases h) (fun _ => Ev.now _))) (fun h => by omega)
    ·refine Ev.step (fun z => rfl) ?_
     simp only [impl_commonDivisor.l0]
     exact Ev_if (fun _ => Ev.bind e2 (Ev_if (fun h => by cases h) (fun _ => Ev.now _))) (fun h => by omega)
   | true =>
    rw [if_pos rfl]
    obtain ⟨hl, hb, ht⟩ := e3 rfl
    obtain ⟨f1, f2⟩ := ih q r (by simp only at hl; omega) hq (by simp only at hl; omega) hqb hqt hb ht
    refine ⟨?_, ?_⟩
    ·refine Ev.step (fun z => rfl) ?_
     simp only [spec_sgCommon.l0]
     exact Ev_if (fun _ => Ev.bind e1 (Ev_if (fun _ => f1) (fun h => absurd rfl h))) (fun h => by omega)
    ·refine Ev.step (fun z => rfl) ?_
     simp only [impl_commonDivisor.l0]
     exact Ev_if (fun _ => Ev.bind e2 (Ev_if (fun _ => f2) (fun h => absurd rfl h))) (fun h => by omega)
  ·rw [if_neg h0]; exact fin p q (by omega) hp hpb hpt
def sm (n : Nat) (f : Nat → Int) : Int := match n with
 | 0 => 0
 | n + 1 => sm n f + f n
theorem sm_congr (n : Nat) (f g : Nat → Int) (h : ∀ i, i < n → f i = g i) : sm n f = sm n g := by
 induction n with
 | zero => rfl
 | succ n ih => simp only [sm]; rw [ih (fun i hi => h i (by omega)), h n (by omega)]
theorem sm_mul (n : Nat) (c : Int) (f : Nat → Int) : sm n (fun i => c * f i) = c * sm n f := by
 induction n with
 | zero => simp [sm]
 | succ n ih => simp only [sm]; rw [ih, Int.mul_add]
theorem sm_head (n : Nat) (f : Nat → Int) : sm (n + 1) f = f 0 + sm n (fun i => f (i + 1)) := by
 induction n with
 | zero => simp [sm]
 | succ n ih => rw [sm, ih]; simp only [sm]; omega
def sX (f : Nat → Int) : Nat → Int
 | 0 => 0
 | k + 1 => f k
def Sup (N : Nat) (f : Nat → Int) : Prop := ∀ k, N ≤ k → f k = 0
def pmul : List Int → (Nat → Int) → Nat → Int
 | [], _ => fun _ => 0
 | c :: P, g => fun k => c * g k + sX (pmul P g) k
theorem sX_congr (f g : Nat → Int) (h : ∀ k, f k = g k) (k : Nat) : sX f k = sX g k := by
 cases k with
 | zero => rfl
 | succ k => exact h k
def co (l : List Int) (i : Nat) : Int := if i < l.length then rd l (i : Int) else 0
theorem co_cons_zero (c : Int) (P : List Int) : co (c :: P) 0 = c := by unfold co; rw [if_pos (by simp), rd_getElem (c :: P) 0 (by simp)]; rfl
theorem co_cons_succ (c : Int) (P : List Int) (i : Nat) : co (c :: P) (i + 1) = co P i := by
 unfold co
 by_cases h : i < P.length
 ·rw [if_pos (by simp; omega), if_pos h]
  have h1 : i + 1 < (c :: P).length := by simp; omega
  rw [rd_getElem (c :: P) (i + 1) h1, rd_getElem P i h]; rfl
 ·rw [if_neg (by simp; omega), if_neg h]
theorem co_Sup (l : List Int) : Sup l.length (co l) := fun k hk => by unfold co; rw [if_neg (by omega)]
theorem pmul_conv (P : List Int) : ∀ (u : Nat → Int) (k : Nat), pmul P u k = sm P.length (fun i => if i ≤ k then co P i * u (k - i) else 0) := by
 induction P with
 | nil => intro u k; rfl
 | cons c P ih =>
  intro u k
  simp only [List.length_cons, pmul]
  rw [sm_head, co_cons_zero, if_pos (by omega), Nat.sub_zero]
  congr 1
  cases k with
  | zero =>
   simp only [sX]
   rw [sm_congr _ _ (fun _ => 0 * 0) (fun i _ => by rw [if_neg (by omega)]; rfl), sm_mul]; simp
  | succ k =>
   simp only [sX]
   rw [ih]
   apply sm_congr
   intro i _
   rw [co_cons_succ]
   by_cases h : i ≤ k
   ·rw [if_pos h, if_pos (by omega), show k + 1 - (i + 1) = k - i by omega]
   ·rw [if_neg h, if_neg (by omega)]
structure Cl (D : (Nat → Int) → Prop) : Prop where
 add : ∀ f g, D f → D g → D (fun k => f k + g k)
 mul : ∀ c f, D f → D (fun k => c * f k)
 shift : ∀ f, D f → D (sX f)
 cancel : ∀ c f, c ≠ 0 → D (fun k => c * f k) → D f
def Mult (d : List Int) (f : Nat → Int) : Prop := ∃ (M : Int) (n : Nat) (u : Nat → Int), M ≠ 0 ∧ Sup n u ∧ ∀ k, M * f k = pmul d u k
theorem pmul_lin (d : List Int) (a b : Int) : ∀ (u v : Nat → Int) (k : Nat), pmul d (fun k => a * u k + b * v k) k = a * pmul d u k + b * pmul d v k := by
 induction d with
 | nil => intro u v k; simp [pmul]
 | cons c P ih =>
  intro u v k
  simp only [pmul]
  cases k with
  | zero => simp only [sX]; grind
  | succ k => simp only [sX]; rw [ih]; grind
theorem pmul_sX (d : List Int) : ∀ (u : Nat → Int) (k : Nat), pmul d (sX u) k = sX (pmul d u) k := by
 induction d with
 | nil => intro u k; cases k <;> simp [pmul, sX]
 | cons c P ih =>
  intro u k
  cases k with
  | zero => simp [pmul, sX]
  | succ k =>
   show c * u k + pmul P (sX u) k = c * u k + sX (pmul P u) k
   rw [ih u k]
theorem Mult_cl (d : List Int) : Cl (Mult d) where
 add := by
  rintro f g ⟨M, n, u, hM, hu, h⟩ ⟨M', n', u', hM', hu', h'⟩
  refine ⟨M * M', n + n', fun k => M' * u k + M * u' k, Int.mul_ne_zero hM hM', fun k hk => by show M' * u k + M * u' k = 0; rw [hu k (by omega), hu' k (by omega)]; simp, fun k => ?_⟩
  rw [pmul_lin, ← h, ← h']; grind
 mul := by
  rintro c f ⟨M, n, u, hM, hu, h⟩
  refine ⟨M, n, fun k => c * u k + 0 * u k, hM, fun k hk => by show c * u k + 0 * u k = 0; rw [hu k hk]; simp, fun k => ?_⟩
  rw [pmul_lin, ← h]; grind
 shift := by
  rintro f ⟨M, n, u, hM, hu, h⟩
  refine ⟨M, n + 1, sX u, hM, fun k hk => ?_, fun k => ?_⟩
  ·cases k with
   | zero => rfl
   | succ k => exact hu k (by omega)
  ·rw [pmul_sX]
   cases k with
   | zero => simp [sX]
   | succ k => exact h k
 cancel := by
  rintro c f hc ⟨M, n, u, hM, hu, h⟩
  exact ⟨M * c, n, u, Int.mul_ne_zero hM hc, hu, fun k => by rw [← h]; grind⟩
theorem co_snoc (q : List Int) (a : Int) (k : Nat) : co (q ++ [a]) k = if k = q.length then a else co q k := by
 unfold co
 by_cases h : k = q.length
 ·subst h
  rw [if_pos (by simp), if_pos rfl, rd_getElem _ _ (by simp)]; simp
 ·rw [if_neg h]
  by_cases h2 : k < q.length
  ·rw [if_pos (by simp; omega), if_pos h2, rd_getElem _ k (by simp; omega), rd_getElem q k h2, List.getElem_append_left h2]
  ·rw [if_neg (by simp; omega), if_neg h2]
theorem co_trim (n : Nat) : ∀ (l : List Int), l.length = n → ∀ k, co (trimI l) k = co l k := by
 induction n with
 | zero => intro l h k; rw [List.eq_nil_of_length_eq_zero h]; rfl
 | succ n ih =>
  intro l h k
  obtain ⟨q, a, rfl⟩ := List_snoc l (by omega)
  by_cases ha : a = 0
  ·subst ha
   rw [trimI_zero, ih q (by simp at h; omega), co_snoc]
   split
   ·rename_i e; rw [e]; exact co_Sup q _ (Nat.le_refl _)
   ·rfl
  ·rw [trimI_last _ _ ha]
theorem co_part (l : List Int) (k : Nat) : co l k = contentI 0 l * co (partI l) k := by
 unfold co
 rw [part_length]
 by_cases h : k < l.length
 ·rw [if_pos h, if_pos h, rd_part l k h]
  exact (Int.mul_tdiv_cancel' ((contentI_dvd l 0).2 _ (rd_mem l k h))).symm
 ·rw [if_neg h, if_neg h]; simp
def shN (s : Nat) (f : Nat → Int) (k : Nat) : Int := if s ≤ k then f (k - s) else 0
theorem Cl_shN {D : (Nat → Int) → Prop} (hD : Cl D) (f : Nat → Int) (h : D f) (s : Nat) : D (shN s f) := by
 induction s with
 | zero => rw [show shN 0 f = f by funext k; simp [shN]]; exact h
 | succ s ih =>
  have e : shN (s + 1) f = sX (shN s f) := by
   funext k
   cases k with
   | zero => rfl
   | succ k =>
    show (if s + 1 ≤ k + 1 then f (k + 1 - (s + 1)) else 0) = if s ≤ k then f (k - s) else 0
    by_cases hk : s ≤ k
    ·rw [if_pos hk, if_pos (by omega), show k + 1 - (s + 1) = k - s by omega]
    ·rw [if_neg hk, if_neg (by omega)]
  rw [e]; exact hD.shift _ ih
theorem step_cl {D : (Nat → Int) → Prop} (hD : Cl D) (p q : List Int) (hq : q.length ≤ p.length) (hq0 : 0 < q.length) (hpb : boundB p 1000000000) (hqb : boundB q 1000000000) (hb : rd q ((q.length : Int) - 1) ≠ 0) (h1 : D (co q)) (h2 : D (co (stepI p q))) : D (co p) := by
 obtain ⟨a, ha⟩ : ∃ a, rd p ((p.length : Int) - 1) = a := ⟨_, rfl⟩
 obtain ⟨b, hbe⟩ : ∃ b, rd q ((q.length : Int) - 1) = b := ⟨_, rfl⟩
 have hu : upI a b ≠ 0 := by
  intro e
  have h := gcd_up a b
  rw [e, Int.mul_zero] at h
  rw [hbe] at hb
  unfold absI at h; omega
 have d1 := hD.mul (contentI 0 (trimI (nextI p q))) _ h2
 have d2 := hD.mul (downI a b) _ (Cl_shN hD _ h1 (p.length - q.length))
 have d3 := hD.add _ _ d1 d2
 refine hD.cancel (upI a b) _ hu ?_
 refine (show (fun k => contentI 0 (trimI (nextI p q)) * co (stepI p q) k + downI a b * shN (p.length - q.length) (co q) k) = (fun k => upI a b * co p k) from ?_) ▸ d3
 funext k
 rw [show contentI 0 (trimI (nextI p q)) * co (stepI p q) k = co (nextI p q) k by unfold stepI; rw [← co_part, co_trim _ _ rfl]]
 by_cases hk : k < p.length
 ·have v := next_val p q hq hq0 hpb hqb hb k hk
  rw [ha, hbe] at v
  have e1 : co (nextI p q) k = rd (nextI p q) (k : Int) := by unfold co; rw [if_pos (by rw [nextI_length]; exact hk)]
  have e2 : co p k = rd p (k : Int) := by unfold co; rw [if_pos hk]
  rw [e1, e2, v]
  unfold shN
  by_cases hs : p.length - q.length ≤ k
  ·rw [if_pos hs, if_pos hs]
   have e3 : co q (k - (p.length - q.length)) = rd q ((k - (p.length - q.length) : Nat) : Int) := by unfold co; rw [if_pos (by omega)]
   rw [e3]; grind
  ·rw [if_neg hs, if_neg hs]; grind
 ·have e1 : co (nextI p q) k = 0 := co_Sup _ k (by rw [nextI_length]; omega)
  have e2 : co p k = 0 := co_Sup _ k (by omega)
  have e3 : shN (p.length - q.length) (co q) k = 0 := by
   unfold shN; split
   ·exact co_Sup _ _ (by omega)
   ·rfl
  rw [e1, e2, e3]; simp
theorem remL_cl {D : (Nat → Int) → Prop} (hD : Cl D) (q : List Int) (hq0 : 0 < q.length) (hqb : boundB q 1000000000) (hb : rd q ((q.length : Int) - 1) ≠ 0) (n : Nat) : ∀ (p : List Int), boundB p 1000000000 → (remL n p q).2 = true → D (co q) → D (co (remL n p q).1) → D (co p) := by
 induction n with
 | zero => intro p _ _ _ h; exact h
 | succ n ih =>
  intro p hpb
  simp only [remL]
  by_cases hlen : q.length ≤ p.length
  ·rw [if_pos hlen]
   by_cases h : okB (stepI p q) = true
   ·rw [if_pos h]
    intro h1 h2 h3
    exact step_cl hD p q hlen hq0 hpb hqb hb h2 (ih _ (okB_bound _ h) h1 h2 h3)
   ·rw [if_neg h]; intro h1; cases h1
  ·rw [if_neg hlen]; intro _ _ h3; exact h3
theorem co_neg (l : List Int) (m : Int) (hm : 0 ≤ m ∧ m ≤ 4611686018427387904) (hb : boundB l m) (k : Nat) : co (negI l) k = -1 * co l k := by
 unfold co
 rw [negI_length]
 by_cases h : k < l.length
 ·rw [if_pos h, if_pos h, negI_rd l k h]
  have := hb _ (rd_mem l k h)
  unfold wrap64; omega
 ·rw [if_neg h, if_neg h]; simp
theorem co_sign (l : List Int) (m : Int) (hm : 0 ≤ m ∧ m ≤ 4611686018427387904) (hb : boundB l m) : ∃ s : Int, (s = 1 ∨ s = -1) ∧ ∀ k, co (signI l) k = s * co l k := by
 unfold signI
 split
 ·exact ⟨1, .inl rfl, fun k => by simp⟩
 ·split
  ·exact ⟨-1, .inr rfl, co_neg l m hm hb⟩
  ·exact ⟨1, .inl rfl, fun k => by simp⟩
theorem comL_cl {D : (Nat → Int) → Prop} (hD : Cl D) (n : Nat) : ∀ (p q : List Int), q.length ≤ n → p.length ≤ 1000000 → q.length ≤ 1000000 → boundB p 1000000000 → tight p → boundB q 1000000000 → tight q → (comL n p q).2 = true → D (co (comL n p q).1) → D (co p) ∧ D (co q) := by
 have fin : ∀ (p q : List Int), q.length = 0 → boundB p 1000000000 → D (co (signI (partI p))) → D (co p) ∧ D (co q) := by
  intro p q hq hpb h
  obtain ⟨s, hs, hk⟩ := co_sign (partI p) 1000000000 ⟨by omega, by omega⟩ (part_bound p _ hpb)
  have h1 : D (co (partI p)) := hD.cancel s _ (by rcases hs with rfl | rfl <;> decide) ((show co (signI (partI p)) = fun k => s * co (partI p) k by funext k; exact hk k) ▸ h)
  refine ⟨?_, ?_⟩
  ·have := hD.mul (contentI 0 p) _ h1
   exact (show (fun k => contentI 0 p * co (partI p) k) = co p by funext k; exact (co_part p k).symm) ▸ this
  ·have := hD.mul 0 _ h1
   exact (show (fun k => 0 * co (partI p) k) = co q by funext k; rw [co_Sup q k (by omega)]; simp) ▸ this
 induction n with
 | zero => intro p q hn _ _ hpb _ _ _ _ h; exact fin p q (by omega) hpb h
 | succ n ih =>
  intro p q hn hp hq hpb hpt hqb hqt
  simp only [comL]
  by_cases h0 : 0 < q.length
  ·rw [if_pos h0]
   obtain ⟨e1, e2, e3, e4⟩ := remF_ev p q hp hq h0 hpb hpt hqb hqt
   by_cases hok : (remF p q).2 = true
   ·rw [if_pos hok]
    intro h1 h2
    obtain ⟨hl, hb, ht⟩ := e3 hok
    obtain ⟨f1, f2⟩ := ih q (remF p q).1 (by omega) hq (by omega) hqb hqt hb ht h1 h2
    have h3 := remL_cl hD q h0 hqb (hqt h0) _ (partI p) (part_bound p _ hpb) hok f1 f2
    have h4 := hD.mul (contentI 0 p) _ h3
    exact ⟨(show (fun k => contentI 0 p * co (partI p) k) = co p by funext k; exact (co_part p k).symm) ▸ h4, f1⟩
   ·rw [if_neg hok]; intro h1; cases h1
  ·rw [if_neg h0]; intro _ h; exact fin p q (by omega) hpb h
def Prim (d : List Int) : Prop := ∀ (M x : Int), (∀ i, M ∣ co d i * x) → M ∣ x
theorem content_comb (M x : Int) (l : List Int) (h : ∀ y ∈ l, M ∣ y * x) : ∀ d, M ∣ d * x → M ∣ contentI d l * x := by
 induction l with
 | nil => intro d hd; exact hd
 | cons y l ih =>
  intro d hd
  have e : contentI d (y :: l) = contentI ((Int.gcd d y : Nat) : Int) l := rfl
  rw [e]
  refine ih (fun z hz => h z (List.mem_cons_of_mem _ hz)) _ ?_
  have h1 : M ∣ ((Int.gcd (d * x) (y * x) : Nat) : Int) := Int.dvd_coe_gcd hd (h y List.mem_cons_self)
  rw [Int.gcd_mul_right, Int.natCast_mul] at h1
  rcases Int.le_total 0 x with hx | hx
  ·rw [show ((x.natAbs : Nat) : Int) = x by omega] at h1; exact h1
  ·rw [show ((x.natAbs : Nat) : Int) = -x by omega, Int.mul_neg] at h1; exact Int.dvd_neg.1 h1
theorem part_scl (l : List Int) : scl (contentI 0 l) (partI l) = l := by
 apply List.ext_getElem (by rw [scl_length, part_length])
 intro j h1 h2
 have r := scl_rd (contentI 0 l) (partI l) j (by rw [part_length]; exact h2)
 rw [rd_getElem _ j h1, rd_part l j h2, Int.mul_tdiv_cancel' ((contentI_dvd l 0).2 _ (rd_mem l j h2)), rd_getElem l j h2] at r
 exact r
theorem content_nonneg (l : List Int) : ∀ d, 0 ≤ d → 0 ≤ contentI d l := by
 induction l with
 | nil => intro d h; exact h
 | cons x l ih => intro d _; exact ih _ (by show 0 ≤ ((Int.gcd d x : Nat) : Int); omega)
theorem part_prim (l : List Int) (ht : tight l) (h0 : 0 < l.length) : Prim (partI l) := by
 have hc := tight_pos l ht h0
 have hn := content_nonneg l 0 (by omega)
 have h1 := scl_content (contentI 0 l) (by omega) (partI l) 0 (by omega)
 rw [Int.mul_zero, part_scl] at h1
 have h2 : contentI 0 (partI l) = 1 := by
  have : contentI 0 l * contentI 0 (partI l) = contentI 0 l * 1 := by omega
  exact Int.eq_of_mul_eq_mul_left hc this
 intro M x h
 have h3 := content_comb M x (partI l) (fun y hy => by
  obtain ⟨j, hj, rfl⟩ := List.getElem_of_mem hy
  have := h j
  unfold co at this
  rw [if_pos hj, rd_getElem _ j hj] at this
  exact this) 0 (by simp)
 rw [h2, Int.one_mul] at h3
 exact h3
theorem sign_prim (l : List Int) (m : Int) (hm : 0 ≤ m ∧ m ≤ 4611686018427387904) (hb : boundB l m) (h : Prim l) : Prim (signI l) := by
 obtain ⟨s, hs, hk⟩ := co_sign l m hm hb
 intro M x hx
 refine h M x (fun i => ?_)
 have := hx i
 rw [hk i] at this
 rcases hs with rfl | rfl
 ·rw [Int.one_mul] at this; exact this
 ·rw [Int.neg_mul, Int.neg_mul, Int.one_mul] at this; exact Int.dvd_neg.1 this
theorem sign_bound (l : List Int) (m : Int) (hm : 0 ≤ m ∧ m ≤ 4611686018427387904) (hb : boundB l m) : boundB (signI l) m := by
 unfold signI
 split
 ·exact hb
 ·split
  ·intro x hx
   obtain ⟨y, hy, rfl⟩ := List.mem_map.1 hx
   have := hb y hy
   unfold wrap64; omega
  ·exact hb
theorem sign_tight (l : List Int) (m : Int) (hm : 0 ≤ m ∧ m ≤ 4611686018427387904) (hb : boundB l m) (h : tight l) : tight (signI l) := by
 intro h0
 rw [signI_length] at h0 ⊢
 have hl := h h0
 have e : ((l.length : Int) - 1) = ((l.length - 1 : Nat) : Int) := by omega
 obtain ⟨s, hs, hk⟩ := co_sign l m hm hb
 have h1 := hk (l.length - 1)
 unfold co at h1
 rw [signI_length, if_pos (by omega), if_pos (by omega), ← e] at h1
 rw [h1]
 rcases hs with rfl | rfl <;> omega
theorem comL_nice (n : Nat) : ∀ (p q : List Int), q.length ≤ n → 0 < p.length → p.length ≤ 1000000 → q.length ≤ 1000000 → boundB p 1000000000 → tight p → boundB q 1000000000 → tight q → (comL n p q).2 = true → Prim (comL n p q).1 ∧ boundB (comL n p q).1 1000000000 ∧ tight (comL n p q).1 ∧ 0 < (comL n p q).1.length ∧ (comL n p q).1.length ≤ 1000000 := by
 have fin : ∀ (p : List Int), 0 < p.length → p.length ≤ 1000000 → boundB p 1000000000 → tight p → Prim (signI (partI p)) ∧ boundB (signI (partI p)) 1000000000 ∧ tight (signI (partI p)) ∧ 0 < (signI (partI p)).length ∧ (signI (partI p)).length ≤ 1000000 := by
  intro p h0 hp hpb hpt
  have hb := part_bound p _ hpb
  exact ⟨sign_prim _ 1000000000 ⟨by omega, by omega⟩ hb (part_prim p hpt h0), sign_bound _ _ ⟨by omega, by omega⟩ hb, sign_tight _ 1000000000 ⟨by omega, by omega⟩ hb (tight_part p hpt), by rw [signI_length, part_length]; exact h0, by rw [signI_length, part_length]; exact hp⟩
 induction n with
 | zero => intro p q hn h0 hp _ hpb hpt _ _ _; exact fin p h0 hp hpb hpt
 | succ n ih =>
  intro p q hn h0 hp hq hpb hpt hqb hqt
  simp only [comL]
  by_cases hq0 : 0 < q.length
  ·rw [if_pos hq0]
   obtain ⟨e1, e2, e3, e4⟩ := remF_ev p q hp hq hq0 hpb hpt hqb hqt
   by_cases hok : (remF p q).2 = true
   ·rw [if_pos hok]
    obtain ⟨hl, hb, ht⟩ := e3 hok
    exact ih q (remF p q).1 (by omega) hq0 hq (by omega) hqb hqt hb ht
   ·rw [if_neg hok]; intro h1; cases h1
  ·rw [if_neg hq0]; intro _; exact fin p h0 hp hpb hpt
theorem pmul_one (d : List Int) : ∀ k, pmul d (fun k => if k = 0 then 1 else 0) k = co d k := by
 induction d with
 | nil => intro k; rfl
 | cons c P ih =>
  intro k
  cases k with
  | zero => rw [co_cons_zero]; simp [pmul, sX]
  | succ k =>
   rw [co_cons_succ]
   show c * (if k + 1 = 0 then 1 else 0) + pmul P _ k = _
   rw [ih k, if_neg (by omega)]; simp
theorem Mult_self (d : List Int) : Mult d (co d) := ⟨1, 1, fun k => if k = 0 then 1 else 0, by omega, fun k hk => if_neg (by omega), fun k => by rw [pmul_one]; omega⟩
theorem top_coef (d : List Int) (c : Int) (w : Nat → Int) (t : Nat) (hw : Sup (t + 1) w) : pmul (d ++ [c]) w (t + d.length) = c * w t := by
 rw [pmul_conv]
 rw [show (d ++ [c]).length = d.length + 1 by simp]
 simp only [sm]
 rw [sm_congr _ _ (fun _ => 0 * 0) (fun i hi => by rw [if_pos (by omega), hw (t + d.length - i) (by omega)]; simp), sm_mul, if_pos (by omega), co_snoc, if_pos rfl, show t + d.length - d.length = t by omega]
 simp
theorem factor_len (d : List Int) (c : Int) (hc : c ≠ 0) (f w : Nat → Int) (L : Nat) (hf : Sup L f) (h : ∀ k, f k = pmul (d ++ [c]) w k) (t : Nat) : Sup (L - d.length + t) w → Sup (L - d.length) w := by
 induction t with
 | zero => intro h; exact h
 | succ t ih =>
  intro hw
  apply ih
  intro k hk
  by_cases e : k = L - d.length + t
  ·have h1 := top_coef d c w (L - d.length + t) hw
   rw [← h, hf _ (by omega)] at h1
   rcases Int.mul_eq_zero.1 h1.symm with h2 | h2
   ·exact absurd h2 hc
   ·rw [e]; exact h2
  ·exact hw k (by omega)
theorem rd_out (Y : List Int) (j : Nat) (h : Y.length ≤ j) : rd Y (j : Int) = 0 := by unfold rd; simp only [Int.toNat_natCast]; simp [h]
theorem quot_l1 (q : List Int) (b : Int) (Y : List Int) (c : Nat) (hq : q.length ≤ 1000000) (hY : c < Y.length) (hYl : Y.length ≤ 1000000) (n : Nat) : ∀ (i : Nat) (R : List Int), i ≤ q.length → q.length - i = n → c + q.length ≤ R.length →
 ∃ R', R'.length = R.length ∧ (∀ r, Ev (fun z => spec_sgDivide.l0 z q R' Y ((c : Int) - 1)) r → Ev (fun z => spec_sgDivide.l1 z q R Y (c : Int) q (q.length : Int) (i : Int)) r) ∧
  (∀ r, Ev (fun z => impl_quotient.l0 z q R' b Y ((c : Int) - 1)) r → Ev (fun z => impl_quotient.l1 z q R b Y (c : Int) q (q.length : Int) (i : Int)) r) := by
 have hw : wrap64 ((c : Int) - 1) = (c : Int) - 1 := by unfold wrap64; omega
 induction n with
 | zero =>
  intro i R hi hn hR
  refine ⟨R, rfl, fun r hr => ?_, fun r hr => ?_⟩
  ·refine Ev.step (fun z => rfl) ?_
   simp only [spec_sgDivide.l1]
   rw [hw]
   exact Ev_if (fun h => by omega) (fun _ => hr)
  ·refine Ev.step (fun z => rfl) ?_
   simp only [impl_quotient.l1]
   rw [hw]
   exact Ev_if (fun h => by omega) (fun _ => hr)
 | succ n ih =>
  intro i R hi hn hR
  obtain ⟨v, hv⟩ : ∃ v, v = wrap64 (rd R ((c + i : Nat) : Int) - wrap64 (rd Y (c : Int) * rd q (i : Int))) := ⟨_, rfl⟩
  obtain ⟨R', h1, h2, h3⟩ := ih (i + 1) (R.set (c + i) v) (by omega) (by omega) (by rw [List.length_set]; omega)
  refine ⟨R', by rw [h1, List.length_set], fun r hr => ?_, fun r hr => ?_⟩
  ·refine Ev.step (fun z => rfl) ?_
   simp only [spec_sgDivide.l1]
   rw [wrap_next i (by omega), wrap_sum c i (by omega), Int.toNat_natCast, ← hv]
   exact Ev_if (fun _ => Ev_if (fun _ => Ev_if (fun _ => Ev_if (fun _ => Ev_if (fun _ => Ev_if (fun _ => Ev_if (fun _ => h2 r hr) (fun h => by omega)) (fun h => by omega)) (fun h => by omega)) (fun h => by omega)) (fun h => by omega)) (fun h => by omega)) (fun h => by omega)
  ·refine Ev.step (fun z => rfl) ?_
   simp only [impl_quotient.l1]
   rw [wrap_next i (by omega), wrap_sum c i (by omega), Int.toNat_natCast, ← hv]
   exact Ev_if (fun _ => Ev_if (fun _ => Ev_if (fun _ => Ev_if (fun _ => Ev_if (fun _ => Ev_if (fun _ => Ev_if (fun _ => h3 r hr) (fun h => by omega)) (fun h => by omega)) (fun h => by omega)) (fun h => by omega)) (fun h => by omega)) (fun h => by omega)) (fun h => by omega)
def inG (x : Int) : Prop := -1000000000 ≤ x ∧ x ≤ 1000000000
theorem quot_l0 (q : List Int) (hq : 0 < q.length ∧ q.length ≤ 1000000) (hb : rd q ((q.length : Int) - 1) ≠ 0) (n : Nat) : ∀ (R Y : List Int), n + q.length ≤ R.length + 1 → R.length ≤ 1000000 → n ≤ Y.length → Y.length ≤ 1000000 →
 (Ev (fun z => spec_sgDivide.l0 z q R Y ((n : Int) - 1)) ([], false) ∧ Ev (fun z => impl_quotient.l0 z q R (rd q ((q.length : Int) - 1)) Y ((n : Int) - 1)) ([], false)) ∨
 ∃ R' Y', R'.length = R.length ∧ Y'.length = Y.length ∧ (∀ j : Nat, n ≤ j → rd Y' (j : Int) = rd Y (j : Int)) ∧ (n ≠ 0 → rd Y' ((n : Int) - 1) = wrap64 (Int.tdiv (rd R ((n : Int) + (q.length : Int) - 2)) (rd q ((q.length : Int) - 1))) ∧ Int.tmod (rd R ((n : Int) + (q.length : Int) - 2)) (rd q ((q.length : Int) - 1)) = 0) ∧
  (∀ r, Ev (fun z => (impl_stripped.f z R').bind fun t => if (t.length : Int) > 0 then some ([], false) else (impl_stripped.f z Y').bind fun t => some (t, true)) r → Ev (fun z => impl_quotient.l0 z q R (rd q ((q.length : Int) - 1)) Y ((n : Int) - 1)) r) ∧
  ((∀ r, Ev (fun z => (spec_l1All.f z R' 0 0).bind fun t => some (Y', t)) r → Ev (fun z => spec_sgDivide.l0 z q R Y ((n : Int) - 1)) r) ∨
   (Ev (fun z => spec_sgDivide.l0 z q R Y ((n : Int) - 1)) ([], false) ∧ ∃ j : Nat, j < Y'.length ∧ ¬ inG (rd Y' (j : Int)))) := by
 have hw1 : wrap64 ((q.length : Int) - 1) = (q.length : Int) - 1 := by unfold wrap64; omega
 induction n with
 | zero =>
  intro R Y hR hRl hY hYl
  refine .inr ⟨R, Y, rfl, rfl, fun _ _ => rfl, fun h => absurd rfl h, fun r hr => ?_, .inl fun r hr => ?_⟩
  ·refine Ev.step (fun z => rfl) ?_
   simp only [impl_quotient.l0]
   exact Ev_if (fun h => by omega) (fun _ => hr)
  ·refine Ev.step (fun z => rfl) ?_
   simp only [spec_sgDivide.l0]
   exact Ev_if (fun h => by omega) (fun _ => hr)
 | succ n ih =>
  intro R Y hR hRl hY hYl
  have en : (((n + 1 : Nat) : Int) - 1) = (n : Int) := by omega
  have e2 : (((n + 1 : Nat) : Int) + (q.length : Int) - 2) = (n : Int) + (q.length : Int) - 1 := by omega
  rw [en, e2]
  have hwt : wrap64 (wrap64 ((n : Int) + (q.length : Int)) - 1) = (n : Int) + (q.length : Int) - 1 := by unfold wrap64; omega
  obtain ⟨b, hbe⟩ : ∃ b, rd q ((q.length : Int) - 1) = b := ⟨_, rfl⟩
  obtain ⟨top, htop⟩ : ∃ t, rd R ((n : Int) + (q.length : Int) - 1) = t := ⟨_, rfl⟩
  rw [hbe] at hb ih
  rw [hbe, htop]
  by_cases hm : Int.tmod top b = 0
  ·obtain ⟨c, hc⟩ : ∃ c, wrap64 (Int.tdiv top b) = c := ⟨_, rfl⟩
   rw [hc]
   obtain ⟨R1, g1, g2, g3⟩ := quot_l1 q b (Y.set n c) n hq.2 (by rw [List.length_set]; omega) (by rw [List.length_set]; omega) q.length 0 R (by omega) (by omega) (by omega)
   have hYn : rd (Y.set n c) (n : Int) = c := by rw [rd_getElem _ n (by rw [List.length_set]; omega), List.getElem_set_self]
   -- the program's round
   have himpl : ∀ r, Ev (fun z => impl_quotient.l0 z q R1 b (Y.set n c) ((n : Int) - 1)) r → Ev (fun z => impl_quotient.l0 z q R b Y (n : Int)) r := by
    intro r hr
    refine Ev.step (fun z => rfl) ?_
    simp only [impl_quotient.l0]
    rw [hwt, htop, hc, Int.toNat_natCast]
    exact Ev_if (fun _ => Ev_if (fun _ => Ev_if (fun _ => Ev_if (fun h => absurd h hb) (fun _ => Ev_if (fun _ => Ev_if (fun _ => Ev_if (fun _ => g3 r hr) (fun h => by omega)) (fun h => by omega)) (fun h => absurd hm h))) (fun h => by omega)) (fun h => by omega)) (fun h => by omega)
   -- the reference's round
   have hspec0 : ∀ r, Ev (fun z => spec_sgDivide.j1 z q R Y (n : Int) top b (!(decide ((-1000000000) ≤ c ∧ c ≤ 1000000000)))) r → Ev (fun z => spec_sgDivide.l0 z q R Y (n : Int)) r := by
    intro r hr
    refine Ev.step (fun z => rfl) ?_
    simp only [spec_sgDivide.l0, l1In_eq, Option.bind_some]
    rw [hwt, hw1, hbe, htop, hc]
    exact Ev_if (fun _ => Ev_if (fun _ => Ev_if (fun _ => Ev_if (fun _ => Ev_if (fun _ => Ev_if (fun h => absurd h hb) (fun _ => Ev_if (fun _ => hr) (fun h => absurd hm h))) (fun h => by omega)) (fun h => by omega)) (fun h => by omega)) (fun h => by omega)) (fun h => by omega)
   by_cases hin : inG c
   ·have hspec : ∀ r, Ev (fun z => spec_sgDivide.l0 z q R1 (Y.set n c) ((n : Int) - 1)) r → Ev (fun z => spec_sgDivide.l0 z q R Y (n : Int)) r := by
     intro r hr
     refine hspec0 r ?_
     rw [decide_eq_true (show (-1000000000) ≤ c ∧ c ≤ 1000000000 from hin)]
     refine Ev.step (fun z => rfl) ?_
     simp only [spec_sgDivide.j1]
     rw [hc, Int.toNat_natCast]
     exact Ev_if (fun h => by cases h) (fun _ => Ev_if (fun h => absurd h hb) (fun _ => Ev_if (fun _ => Ev_if (fun _ => g2 r hr) (fun h => by omega)) (fun h => by omega)))
    rcases ih R1 (Y.set n c) (by omega) (by omega) (by rw [List.length_set]; omega) (by rw [List.length_set]; omega) with ⟨f1, f2⟩ | ⟨R', Y', k1, k2, k3, k4, k5, k6⟩
    ·exact .inl ⟨hspec _ f1, himpl _ f2⟩
    ·refine .inr ⟨R', Y', by omega, by rw [k2, List.length_set], fun j hj => ?_, fun _ => ⟨?_, hm⟩, fun r hr => himpl r (k5 r hr), ?_⟩
     ·rw [k3 j (by omega)]
      by_cases hjl : j < Y.length
      ·rw [rd_getElem _ j (by rw [List.length_set]; exact hjl), rd_getElem Y j hjl, List.getElem_set_ne (by omega)]
      ·rw [rd_out _ j (by rw [List.length_set]; omega), rd_out _ j (by omega)]
     ·rw [k3 n (Nat.le_refl _), hYn]
     ·rcases k6 with k6 | ⟨k6, k7⟩
      ·exact .inl fun r hr => hspec r (k6 r hr)
      ·exact .inr ⟨hspec _ k6, k7⟩
   ·have hspec : Ev (fun z => spec_sgDivide.l0 z q R Y (n : Int)) ([], false) := by
     refine hspec0 _ ?_
     rw [decide_eq_false (show ¬ ((-1000000000) ≤ c ∧ c ≤ 1000000000) from hin)]
     exact Ev.step (f := fun _ => some ([], false)) (fun z => rfl) (Ev.now _)
    rcases ih R1 (Y.set n c) (by omega) (by omega) (by rw [List.length_set]; omega) (by rw [List.length_set]; omega) with ⟨f1, f2⟩ | ⟨R', Y', k1, k2, k3, k4, k5, k6⟩
    ·exact .inl ⟨hspec, himpl _ f2⟩
    ·refine .inr ⟨R', Y', by omega, by rw [k2, List.length_set], fun j hj => ?_, fun _ => ⟨?_, hm⟩, fun r hr => himpl r (k5 r hr), .inr ⟨hspec, n, by rw [k2, List.length_set]; omega, ?_⟩⟩
     ·rw [k3 j (by omega)]
      by_cases hjl : j < Y.length
      ·rw [rd_getElem _ j (by rw [List.length_set]; exact hjl), rd_getElem Y j hjl, List.getElem_set_ne (by omega)]
      ·rw [rd_out _ j (by rw [List.length_set]; omega), rd_out _ j (by omega)]
     ·rw [k3 n (Nat.le_refl _), hYn]
     ·rw [k3 n (Nat.le_refl _), hYn]; exact hin
  ·refine .inl ⟨?_, ?_⟩
   ·refine Ev.step (fun z => rfl) ?_
    simp only [spec_sgDivide.l0]
    rw [hwt, hw1, hbe, htop]
    refine Ev_if (fun _ => Ev_if (fun _ => Ev_if (fun _ => Ev_if (fun _ => Ev_if (fun _ => Ev_if (fun h => absurd h hb) (fun _ => Ev_if (fun h => absurd h hm) (fun _ => ?_))) (fun h => by omega)) (fun h => by omega)) (fun h => by omega)) (fun h => by omega)) (fun h => by omega)
    exact Ev.step (f := fun _ => some ([], false)) (fun z => rfl) (Ev.now _)
   ·refine Ev.step (fun z => rfl) ?_
    simp only [impl_quotient.l0]
    rw [hwt, htop]
    exact Ev_if (fun _ => Ev_if (fun _ => Ev_if (fun _ => Ev_if (fun h => absurd h hb) (fun _ => Ev_if (fun h => absurd h hm) (fun _ => Ev.now _))) (fun h => by omega)) (fun h => by omega)) (fun h => by omega)
theorem trimI_mem (l : List Int) (x : Int) (hx : x ≠ 0) : x ∈ l → x ∈ trimI l := by
 generalize hn : l.length = n
 induction n generalizing l with
 | zero => intro h; have := List.eq_nil_of_length_eq_zero hn; subst this; cases h
 | succ n ih =>
  intro h
  obtain ⟨q, a, rfl⟩ := List_snoc l (by omega)
  by_cases ha : a = 0
  ·subst ha
   rw [trimI_zero]
   refine ih q (by simpa using hn) ?_
   rcases List.mem_append.1 h with h | h
   ·exact h
   ·simp at h; exact absurd h hx
  ·rw [trimI_last q a ha]; exact h
theorem trimI_nil_iff (l : List Int) : trimI l = [] ↔ (l.all fun x => decide (0 ≤ x ∧ x ≤ 0)) = true := by
 constructor
 ·intro h
  rw [List.all_eq_true]
  intro x hx
  rw [decide_eq_true_eq]
  by_cases h0 : x = 0
  ·omega
  ·have := trimI_mem l x h0 hx; rw [h] at this; cases this
 ·intro h
  have e : l = List.replicate l.length 0 := by
   refine List.eq_replicate_iff.2 ⟨rfl, fun x hx => ?_⟩
   have := List.all_eq_true.1 h x hx
   simp at this; omega
  rw [e]
  induction l.length with
  | zero => rfl
  | succ n ih => rw [List.replicate_succ', trimI_zero, ih]
theorem good_trim (Y : List Int) (j : Nat) (hj : j < Y.length) (h : ¬ inG (rd Y (j : Int))) : goodB (trimI Y) = false := by
 cases hg : goodB (trimI Y) with
 | false => rfl
 | true =>
  exfalso
  have h0 : rd Y (j : Int) ≠ 0 := fun e => h (by rw [e]; unfold inG; omega)
  have := good_bound _ hg _ (trimI_mem Y _ h0 (rd_mem Y j hj))
  exact h (by unfold inG; omega)
theorem trimI_keep (Y : List Int) (h0 : 0 < Y.length) (h : rd Y ((Y.length : Int) - 1) ≠ 0) : trimI Y = Y := by
 obtain ⟨q, a, rfl⟩ := List_snoc Y h0
 have e : (((q ++ [a]).length : Int) - 1) = (q.length : Int) := by simp
 rw [e, rd_last] at h
 exact trimI_last q a h
def derF (l : List Int) : Nat → Nat → List Int
 | _, 0 => []
 | i, n + 1 => wrap64 ((i : Int) * rd l (i : Int)) :: derF l (i + 1) n
theorem derF_length (l : List Int) : ∀ n i, (derF l i n).length = n
 | 0, i => rfl
 | n + 1, i => by simp [derF, derF_length l n (i + 1)]
theorem sgDerive_l0 (l : List Int) (hl : l.length ≤ 1000000) (n : Nat) : ∀ (i : Nat) (acc : List Int), 1 ≤ i → i ≤ l.length → l.length - i = n → acc.length ≤ i → Ev (fun k => spec_sgDerive.l0 k acc l (l.length : Int) (i : Int)) (acc ++ derF l i n) := by
 induction n with
 | zero =>
  intro i acc h1 hi hn ha
  refine Ev.step (fun k => rfl) ?_
  simp only [spec_sgDerive.l0]
  exact Ev_if (fun h => by omega) (fun _ => Ev_eq (Ev.now _) (by simp [derF]))
 | succ n ih =>
  intro i acc h1 hi hn ha
  refine Ev.step (fun k => rfl) ?_
  simp only [spec_sgDerive.l0]
  rw [wrap_next i (by omega)]
  refine Ev_if (fun _ => Ev_if (fun _ => Ev_if (fun _ => Ev_if (fun _ => Ev_if (fun _ => ?_) (fun h => by omega)) (fun h => by omega)) (fun h => by omega)) (fun h => by omega)) (fun h => by omega)
  refine Ev_eq (ih (i + 1) _ (by omega) (by omega) (by omega) (by simp; omega)) ?_
  simp [derF]
theorem sgDerive_ev (l : List Int) (hl : l.length ≤ 1000000) : Ev (fun k => spec_sgDerive.f k l) (derF l 1 (l.length - 1)) := by
 refine Ev.step (fun k => rfl) ?_
 simp only [spec_sgDerive.f, spec_sgDerive.l0]
 refine Ev_if (fun h => ?_) (fun h => ?_)
 ·refine Ev_if (fun _ => Ev_if (fun _ => Ev_if (fun h => by omega) (fun _ => ?_)) (fun h => by omega)) (fun h => by omega)
  rw [show wrap64 ((0 : Int) + 1) = ((1 : Nat) : Int) from wrap_next 0 (by omega)]
  exact Ev_eq (sgDerive_l0 l hl (l.length - 1) 1 [] (by omega) (by omega) (by omega) (by simp)) (by simp)
 ·have : l.length - 1 = 0 := by omega
  rw [this]; exact Ev.now _
theorem derive_l0 (l : List Int) (hl : l.length ≤ 1000000) (n : Nat) : ∀ (i : Nat) (acc : List Int), 1 ≤ i → l.length - i = n → acc.length < i → acc.length ≤ 1000000 → Ev (fun k => impl_deriveSingle.l0 k l acc (i : Int)) (trimI (acc ++ derF l i n)) := by
 induction n with
 | zero =>
  intro i acc h1 hn ha hb
  refine Ev.step (fun k => rfl) ?_
  simp only [impl_deriveSingle.l0]
  refine Ev_if (fun h => by omega) (fun _ => ?_)
  exact Ev.bind (stripped_eq _ acc rfl hb) (Ev_eq (Ev.now _) (by simp [derF]))
 | succ n ih =>
  intro i acc h1 hn ha hb
  refine Ev.step (fun k => rfl) ?_
  simp only [impl_deriveSingle.l0]
  rw [wrap_next i (by omega)]
  refine Ev_if (fun _ => Ev_if (fun _ => Ev_if (fun _ => ?_) (fun h => by omega)) (fun h => by omega)) (fun h => by omega)
  refine Ev_eq (ih (i + 1) _ (by omega) (by omega) (by simp; omega) (by simp; omega)) ?_
  simp [derF]
theorem derive_ev (l : List Int) (hl : l.length ≤ 1000000) : Ev (fun k => impl_deriveSingle.f k l) (trimI (derF l 1 (l.length - 1))) := by
 have h := derive_l0 l hl (l.length - 1) 1 [] (by omega) (by omega) (by simp) (by simp)
 simpa [impl_deriveSingle.f] using h
theorem derive_small (l : List Int) (h : l.length ≤ 9) : ∃ d, Ev (fun k => spec_sgDerive.f k l) d ∧ Ev (fun k => impl_deriveSingle.f k l) (trimI d) ∧ d.length ≤ 9 :=
 ⟨_, sgDerive_ev l (by omega), derive_ev l (by omega), by rw [derF_length]; omega⟩
theorem wrap_id (x : Int) (h : -9223372036854775808 ≤ x ∧ x ≤ 9223372036854775807) : wrap64 x = x := by unfold wrap64; omega
theorem sm_bound (B : Int) (n : Nat) (f : Nat → Int) (h : ∀ i, i < n → -B ≤ f i ∧ f i ≤ B) : -((n : Int) * B) ≤ sm n f ∧ sm n f ≤ (n : Int) * B := by
 induction n with
 | zero => simp [sm]
 | succ n ih =>
  have h1 := ih (fun i hi => h i (by omega))
  have h2 := h n (by omega)
  simp only [sm]
  rw [show ((n + 1 : Nat) : Int) * B = (n : Int) * B + B by rw [Int.natCast_add, Int.add_mul]; simp]
  omega
theorem co_bound (l : List Int) (m : Int) (hm : 0 ≤ m) (hb : boundB l m) (i : Nat) : -m ≤ co l i ∧ co l i ≤ m := by
 unfold co; split
 ·rename_i hi; exact hb _ (rd_mem l i hi)
 ·omega
theorem pmul_bound (q : List Int) (hq : q.length ≤ 9) (hqb : boundB q 1000000000) (u : Nat → Int) (hu : ∀ i, -1000000000 ≤ u i ∧ u i ≤ 1000000000) (k : Nat) : -9000000000000000000 ≤ pmul q u k ∧ pmul q u k ≤ 9000000000000000000 := by
 rw [pmul_conv]
 have h := sm_bound 1000000000000000000 q.length (fun i => if i ≤ k then co q i * u (k - i) else 0) (fun i _ => by
  show -1000000000000000000 ≤ (if i ≤ k then co q i * u (k - i) else 0) ∧ (if i ≤ k then co q i * u (k - i) else 0) ≤ 1000000000000000000
  split
  ·exact mul_bound _ _ (co_bound q _ (by omega) hqb i) (hu _)
  ·omega)
 omega
theorem shN_succ (s : Nat) (f : Nat → Int) : shN (s + 1) f = sX (shN s f) := by
 funext k
 cases k with
 | zero => rfl
 | succ k =>
  show (if s + 1 ≤ k + 1 then f (k + 1 - (s + 1)) else 0) = if s ≤ k then f (k - s) else 0
  by_cases hk : s ≤ k
  ·rw [if_pos hk, if_pos (by omega), show k + 1 - (s + 1) = k - s by omega]
  ·rw [if_neg hk, if_neg (by omega)]
theorem pmul_shN (d : List Int) (s : Nat) (u : Nat → Int) : ∀ k, pmul d (shN s u) k = shN s (pmul d u) k := by
 induction s with
 | zero => intro k; rw [show shN 0 u = u by funext k; simp [shN]]; simp [shN]
 | succ s ih => intro k; rw [shN_succ, shN_succ, pmul_sX]; exact sX_congr _ _ ih k
def cut (W : List Int) (n : Nat) (t : Nat) : Int := if t < n then co W t else 0
theorem cut_succ (q W : List Int) (n : Nat) (k : Nat) : pmul q (cut W (n + 1)) k = pmul q (cut W n) k + co W n * shN n (co q) k := by
 have e : cut W (n + 1) = fun t => 1 * cut W n t + co W n * shN n (fun t => if t = 0 then 1 else 0) t := by
  funext t
  unfold cut shN
  by_cases h1 : t < n
  ·rw [if_pos (by omega), if_pos h1, if_neg (by omega)]; simp
  ·by_cases h2 : t = n
   ·subst h2
    rw [if_pos (by omega), if_neg (by omega), if_pos (by omega)]
    show co W t = 1 * 0 + co W t * (if t - t = 0 then 1 else 0)
    rw [if_pos (by omega)]; simp
   ·rw [if_neg (by omega), if_neg h1]
    split
    ·show 0 = 1 * 0 + co W n * (if t - n = 0 then 1 else 0)
     rw [if_neg (by omega)]; simp
    ·simp
 rw [e, pmul_lin, pmul_shN, Int.one_mul]
 congr 2
 unfold shN
 split
 ·exact pmul_one q _
 ·rfl
theorem cut_bound (W : List Int) (hW : boundB W 1000000000) (n : Nat) (i : Nat) : -1000000000 ≤ cut W n i ∧ cut W n i ≤ 1000000000 := by
 unfold cut; split
 ·exact co_bound W _ (by omega) hW i
 ·omega
theorem quotE_l1 (q : List Int) (b : Int) (X Y : List Int) (c : Nat) (y : Int) (hy : rd Y (c : Int) = y) (hq : q.length ≤ 1000000) (hY : c < Y.length) (hYl : Y.length ≤ 1000000) (hX : c + q.length ≤ X.length) (n : Nat) : ∀ (i : Nat), i ≤ q.length → q.length - i = n →
 (∀ r, Ev (fun z => spec_sgDivide.l0 z q (lessI X q y c q.length) Y ((c : Int) - 1)) r → Ev (fun z => spec_sgDivide.l1 z q (lessI X q y c i) Y (c : Int) q (q.length : Int) (i : Int)) r) ∧
  (∀ r, Ev (fun z => impl_quotient.l0 z q (lessI X q y c q.length) b Y ((c : Int) - 1)) r → Ev (fun z => impl_quotient.l1 z q (lessI X q y c i) b Y (c : Int) q (q.length : Int) (i : Int)) r) := by
 have hw : wrap64 ((c : Int) - 1) = (c : Int) - 1 := by unfold wrap64; omega
 induction n with
 | zero =>
  intro i hi hn
  have e : i = q.length := by omega
  subst e
  refine ⟨fun r hr => ?_, fun r hr => ?_⟩
  ·refine Ev.step (fun z => rfl) ?_
   simp only [spec_sgDivide.l1]
   rw [hw]
   exact Ev_if (fun h => by omega) (fun _ => hr)
  ·refine Ev.step (fun z => rfl) ?_
   simp only [impl_quotient.l1]
   rw [hw]
   exact Ev_if (fun h => by omega) (fun _ => hr)
 | succ n ih =>
  intro i hi hn
  obtain ⟨h2, h3⟩ := ih (i + 1) (by omega) (by omega)
  have hl := lessI_length X q y c i
  have hset := lessI_set X q y c i (by omega)
  rw [Int.mul_comm (rd q (i : Int))] at hset
  refine ⟨fun r hr => ?_, fun r hr => ?_⟩
  ·refine Ev.step (fun z => rfl) ?_
   simp only [spec_sgDivide.l1]
   rw [wrap_next i (by omega), wrap_sum c i (by omega), Int.toNat_natCast, hy, hset]
   exact Ev_if (fun _ => Ev_if (fun _ => Ev_if (fun _ => Ev_if (fun _ => Ev_if (fun _ => Ev_if (fun _ => Ev_if (fun _ => h2 r hr) (fun h => by omega)) (fun h => by omega)) (fun h => by omega)) (fun h => by omega)) (fun h => by omega)) (fun h => by omega)) (fun h => by omega)
  ·refine Ev.step (fun z => rfl) ?_
   simp only [impl_quotient.l1]
   rw [wrap_next i (by omega), wrap_sum c i (by omega), Int.toNat_natCast, hy, hset]
   exact Ev_if (fun _ => Ev_if (fun _ => Ev_if (fun _ => Ev_if (fun _ => Ev_if (fun _ => Ev_if (fun _ => Ev_if (fun _ => h3 r hr) (fun h => by omega)) (fun h => by omega)) (fun h => by omega)) (fun h => by omega)) (fun h => by omega)) (fun h => by omega)) (fun h => by omega)
theorem quotE_l0 (q' : List Int) (b : Int) (hb : b ≠ 0) (q : List Int) (hqe : q = q' ++ [b]) (hq : q.length ≤ 9) (hqb : boundB q 1000000000) (W : List Int) (hW : boundB W 1000000000) (hWl : W.length ≤ 9) (n : Nat) : ∀ (R : List Int), n ≤ W.length → R.length = W.length + q'.length → (∀ k, co R k = pmul q (cut W n) k) →
 Ev (fun z => spec_sgDivide.l0 z q R (List.replicate n 0 ++ W.drop n) ((n : Int) - 1)) (W, true) ∧ Ev (fun z => impl_quotient.l0 z q R b (List.replicate n 0 ++ W.drop n) ((n : Int) - 1)) (trimI W, true) := by
 have hql : q.length = q'.length + 1 := by rw [hqe]; simp
 have hlast : rd q ((q.length : Int) - 1) = b := by
  have e : ((q.length : Int) - 1) = (q'.length : Int) := by omega
  rw [e, hqe, rd_getElem _ _ (by simp)]; simp
 induction n with
 | zero =>
  intro R _ hR hco
  have hz : ∀ k, pmul q (cut W 0) k = 0 := by
   intro k
   rw [show cut W 0 = fun k => 0 * (0 : Int) + 0 * (0 : Int) by funext k; simp [cut]]
   rw [pmul_lin q 0 0 (fun _ => 0) (fun _ => 0)]; simp
  have hall : (R.all fun x => decide ((0 : Int) ≤ x ∧ x ≤ 0)) = true := by
   rw [List.all_eq_true]
   intro x hx
   obtain ⟨j, hj, rfl⟩ := List.getElem_of_mem hx
   have h1 := hco j
   rw [hz] at h1
   unfold co at h1
   rw [if_pos hj, rd_getElem R j hj] at h1
   rw [h1]; decide
  have hT := (trimI_nil_iff R).2 hall
  simp only [List.replicate_zero, List.nil_append, List.drop_zero]
  refine ⟨?_, ?_⟩
  ·refine Ev.step (fun z => rfl) ?_
   simp only [spec_sgDivide.l0]
   refine Ev_if (fun h => by omega) (fun _ => ?_)
   have a1 : Ev (fun z => spec_l1All.f z R 0 0) true := ⟨R.length + 1, fun k hk => by show spec_l1All.f k R 0 0 = some true; rw [l1All_eq R _ _ (by omega) k (by omega), hall]⟩
   exact Ev.bind a1 (Ev.now _)
  ·refine Ev.step (fun z => rfl) ?_
   simp only [impl_quotient.l0]
   refine Ev_if (fun h => by omega) (fun _ => Ev.bind (stripped_eq _ R rfl (by omega)) ?_)
   rw [hT]
   exact Ev_if (fun h => by simp at h) (fun _ => Ev.bind (stripped_eq _ W rfl (by omega)) (Ev.now _))
 | succ n ih =>
  intro R hn hR hco
  obtain ⟨w, hw⟩ : ∃ w, co W n = w := ⟨_, rfl⟩
  have hwr : rd W (n : Int) = w := by rw [← hw]; unfold co; rw [if_pos (by omega)]
  have hwb := co_bound W 1000000000 (by omega) hW n
  rw [hw] at hwb
  have en : (((n + 1 : Nat) : Int) - 1) = (n : Int) := by omega
  rw [en]
  have htop : rd R ((n + q'.length : Nat) : Int) = b * w := by
   have e1 : co R (n + q'.length) = rd R ((n + q'.length : Nat) : Int) := by unfold co; exact if_pos (by omega)
   have e2 := top_coef q' b (cut W (n + 1)) n (fun k hk => by unfold cut; exact if_neg (by omega))
   have e3 : cut W (n + 1) n = w := by unfold cut; rw [if_pos (by omega)]; exact hw
   rw [← hqe, e3] at e2
   exact e1.symm.trans ((hco _).trans e2)
  have hmod : Int.tmod (b * w) b = 0 := Int.mul_tmod_right b w
  have hdiv : Int.tdiv (b * w) b = w := Int.mul_tdiv_cancel_left w hb
  have hset : (List.replicate (n + 1) 0 ++ W.drop (n + 1)).set n w = List.replicate n 0 ++ W.drop n := by
   rw [List.replicate_succ', List.append_assoc, List.set_append_right _ _ (by simp)]
   simp only [List.length_replicate, Nat.sub_self]
   rw [drop_rd W n (by omega), hwr, List.singleton_append, List.set_cons_zero]
  have hYl : (List.replicate (n + 1) 0 ++ W.drop (n + 1)).length = W.length := by simp; omega
  have hYl2 : (List.replicate n 0 ++ W.drop n).length = W.length := by simp; omega
  have hYn : rd (List.replicate n 0 ++ W.drop n) (n : Int) = w := by
   rw [rd_getElem _ n (by omega), List.getElem_append_right (by simp)]
   simp only [List.length_replicate, Nat.sub_self]
   rw [← hwr, rd_getElem W n (by omega)]
   simp
  -- the rest behind the round
  have hless : ∀ k, co (lessI R q w n q.length) k = pmul q (cut W n) k := by
   intro k
   have h1 := hco k
   rw [cut_succ, hw] at h1
   have hFb := pmul_bound q hq hqb (cut W n) (cut_bound W hW n) k
   by_cases hk : k < R.length
   ·have e1 : co (lessI R q w n q.length) k = rd (lessI R q w n q.length) (k : Int) := by unfold co; rw [if_pos (by rw [lessI_length]; exact hk)]
    rw [e1, lessI_rd R q w n q.length k hk]
    unfold co at h1
    rw [if_pos hk] at h1
    by_cases hin : n ≤ k ∧ k < n + q.length
    ·rw [if_pos hin]
     have e2 : shN n (co q) k = rd q ((k - n : Nat) : Int) := by unfold shN co; rw [if_pos hin.1, if_pos (by omega)]
     rw [show shN n (fun i => if i < q.length then rd q (i : Int) else 0) k = rd q ((k - n : Nat) : Int) from e2] at h1
     have hm := mul_bound _ _ (hqb _ (rd_mem q (k - n) (by omega))) hwb
     rw [h1, Int.mul_comm w]
     generalize rd q ((k - n : Nat) : Int) * w = m at hm ⊢
     generalize pmul q (cut W n) k = F at hFb ⊢
     rw [wrap_id m ⟨by omega, by omega⟩, wrap_id _ ⟨by omega, by omega⟩]; omega
    ·rw [if_neg hin, h1]
     have e2 : shN n (fun i => if i < q.length then rd q (i : Int) else 0) k = 0 := by
      unfold shN
      split
      ·show (if k - n < q.length then rd q ((k - n : Nat) : Int) else 0) = 0
       rw [if_neg (by omega)]
      ·rfl
     rw [e2]; simp
   ·rw [co_Sup _ k (by rw [lessI_length]; omega)]
    rw [co_Sup R k (by omega)] at h1
    have e2 : shN n (co q) k = 0 := by
     unfold shN; split
     ·exact co_Sup q _ (by omega)
     ·rfl
    rw [e2] at h1
    omega
  obtain ⟨i1, i2⟩ := ih (lessI R q w n q.length) (by omega) (by rw [lessI_length]; exact hR) hless
  obtain ⟨g1, g2⟩ := quotE_l1 q b R (List.replicate n 0 ++ W.drop n) n w hYn (by omega) (by omega) (by omega) (by omega) q.length 0 (by omega) (by omega)
  rw [lessI_zero] at g1 g2
  have hwt : wrap64 (wrap64 ((n : Int) + (q.length : Int)) - 1) = ((n + q'.length : Nat) : Int) := by
   rw [wrap_id ((n : Int) + (q.length : Int)) ⟨by omega, by omega⟩, wrap_id _ ⟨by omega, by omega⟩]; omega
  have hw1 : wrap64 ((q.length : Int) - 1) = (q.length : Int) - 1 := wrap_id _ ⟨by clear hwt; omega, by clear hwt; omega⟩
  have hww : wrap64 w = w := wrap_id w ⟨by clear hwt hw1; omega, by clear hwt hw1; omega⟩
  refine ⟨?_, ?_⟩
  ·refine Ev.step (fun z => rfl) ?_
   simp only [spec_sgDivide.l0, l1In_eq, Option.bind_some]
   rw [hwt, hw1, hlast, htop, hmod, hdiv, hww, decide_eq_true (show (-1000000000) ≤ w ∧ w ≤ 1000000000 from hwb)]
   clear hwt hw1
   refine Ev_if (fun _ => Ev_if (fun _ => Ev_if (fun _ => Ev_if (fun _ => Ev_if (fun _ => Ev_if (fun h => absurd h hb) (fun _ => Ev_if (fun _ => ?_) (fun h => by simp at h))) (fun h => by omega)) (fun h => by omega)) (fun h => by omega)) (fun h => by omega)) (fun h => by omega)
   refine Ev.step (fun z => rfl) ?_
   simp only [spec_sgDivide.j1]
   rw [hdiv, hww, Int.toNat_natCast, hset, hYl]
   clear hww
   exact Ev_if (fun h => by cases h) (fun _ => Ev_if (fun h => absurd h hb) (fun _ => Ev_if (fun _ => Ev_if (fun _ => g1 _ i1) (fun h => by omega)) (fun h => by omega)))
  ·refine Ev.step (fun z => rfl) ?_
   simp only [impl_quotient.l0]
   rw [hwt, htop, hmod, hdiv, hww, Int.toNat_natCast, hset, hYl]
   clear hwt hw1 hww
   exact Ev_if (fun _ => Ev_if (fun _ => Ev_if (fun _ => Ev_if (fun h => absurd h hb) (fun _ => Ev_if (fun _ => Ev_if (fun _ => Ev_if (fun _ => g2 _ i2) (fun h => by omega)) (fun h => by omega)) (fun h => by simp at h))) (fun h => by omega)) (fun h => by omega)) (fun h => by omega)
theorem quotE (q' : List Int) (b : Int) (hb : b ≠ 0) (q : List Int) (hqe : q = q' ++ [b]) (hq : q.length ≤ 9) (hqb : boundB q 1000000000) (W : List Int) (hW : boundB W 1000000000) (hWl : W.length ≤ 9) (hW0 : 0 < W.length) (p : List Int) (hpl : p.length = W.length + q'.length) (hco : ∀ k, co p k = pmul q (co W) k) :
 Ev (fun z => spec_sgDivide.f z p q) (W, true) ∧ Ev (fun z => impl_quotient.f z p q) (trimI W, true) := by
 have hql : q.length = q'.length + 1 := by rw [hqe]; simp
 have hlast : rd q ((q.length : Int) - 1) = b := by
  have e : ((q.length : Int) - 1) = (q'.length : Int) := by omega
  rw [e, hqe, rd_getElem _ _ (by simp)]; simp
 have hbig : W.length ≤ 35184372088832 := by omega
 have e0 : cut W W.length = co W := by
  funext t; unfold cut; split
  ·rfl
  ·rw [co_Sup W t (by omega)]
 obtain ⟨h1, h2⟩ := quotE_l0 q' b hb q hqe hq hqb W hW hWl W.length p (Nat.le_refl _) hpl (fun k => by rw [e0]; exact hco k)
 rw [List.drop_eq_nil_of_le (Nat.le_refl _), List.append_nil] at h1 h2
 have hdl : wrap64 (wrap64 ((p.length : Int) - (q.length : Int)) + 1) = (W.length : Int) := by
  rw [wrap_id ((p.length : Int) - (q.length : Int)) ⟨by omega, by omega⟩, wrap_id _ ⟨by omega, by omega⟩]; omega
 have hw1 : wrap64 ((q.length : Int) - 1) = (q.length : Int) - 1 := wrap_id _ ⟨by clear hdl; omega, by clear hdl; omega⟩
 refine ⟨?_, ?_⟩
 ·unfold spec_sgDivide.f
  refine Ev_if (fun h => by clear hdl hw1; omega) (fun _ => Ev_bindS (own_eq p (by clear hdl hw1; omega)) ?_)
  rw [hdl, Int.toNat_natCast]
  clear hdl hw1
  refine Ev_if (fun _ => Ev_if (fun _ => Ev_bindS rfl ?_) (fun h => absurd hbig h)) (fun h => by omega)
  rw [List.length_replicate, show wrap64 ((W.length : Int) - 1) = (W.length : Int) - 1 from wrap_id _ ⟨by omega, by omega⟩]
  exact h1
 ·unfold impl_quotient.f
  refine Ev_bindS (clone_eq p (by clear hdl hw1; omega)) ?_
  have e : mx (W.length : Int) 0 = (W.length : Int) := by clear hdl hw1; unfold mx; split <;> omega
  rw [hw1, hdl, e, Int.toNat_natCast, hlast]
  clear hdl hw1
  refine Ev_if (fun _ => Ev_if (fun _ => Ev_if (fun _ => Ev_if (fun _ => Ev_bindS rfl ?_) (fun h => absurd hbig h)) (fun h => by omega)) (fun h => by omega)) (fun h => by omega)
  rw [List.length_replicate, show wrap64 ((W.length : Int) - 1) = (W.length : Int) - 1 from wrap_id _ ⟨by omega, by omega⟩]
  exact h2
theorem single_result (d : List Int) (hd : d.length ≤ 1000000) : ∃ r1 r2, Ev (fun k => spec_sgIf.f k d) (r1, r2) ∧ Ev (fun k => impl_singleResult.f k (trimI d) true) (r1, r2) ∧ r1.length ≤ 9 := by
 have hl := trimI_length d
 cases hg : goodB (trimI d) with
 | false =>
  refine ⟨[], false, ?_, ?_, by simp⟩
  ·refine Ev.bind (sgTrim_eq _ d rfl hd) (Ev.bind (sgGood_ev _ (by omega)) ?_); rw [hg]; exact Ev.now _
  ·refine Ev_if (fun _ => Ev.bind (isSingle_ev _ (by omega)) ?_) (fun h => absurd rfl h); rw [hg]; exact Ev.now _
 | true =>
  refine ⟨trimI d, true, ?_, ?_, good_length _ hg⟩
  ·refine Ev.bind (sgTrim_eq _ d rfl hd) (Ev.bind (sgGood_ev _ (by omega)) ?_); rw [hg]; exact Ev.now _
  ·refine Ev_if (fun _ => Ev.bind (isSingle_ev _ (by omega)) ?_) (fun h => absurd rfl h); rw [hg]; exact Ev.now _
theorem rd_app (X : List Int) (j : Nat) (h : j < X.length) : rd (X ++ [0]) (j : Int) = rd X (j : Int) := by
 rw [rd_getElem _ j (by simp; omega), rd_getElem X j h, List.getElem_append_left h]
theorem prod_l1 (p q : List Int) (i : Nat) (a : Int) (hi : i < p.length) (hp : p.length ≤ 1000000) (hq : q.length ≤ 1000000) (n : Nat) : ∀ (k : Nat) (X : List Int), k ≤ q.length → q.length - k = n → i + q.length ≤ X.length →
 ∃ X', X'.length = X.length ∧ (∀ r, Ev (fun z => spec_sgProduct.l0 z q X' p (p.length : Int) ((i + 1 : Nat) : Int)) r → Ev (fun z => spec_sgProduct.l1 z q X (i : Int) a p (p.length : Int) (i : Int) q (q.length : Int) (k : Int)) r) ∧
  (∀ r, Ev (fun z => impl_multiplySingle.l0 z q (X' ++ [0]) p (p.length : Int) ((i + 1 : Nat) : Int)) r → Ev (fun z => impl_multiplySingle.l1 z q (X ++ [0]) (i : Int) a p (p.length : Int) (i : Int) q (q.length : Int) (k : Int)) r) := by
 induction n with
 | zero =>
  intro k X hk hn hX
  refine ⟨X, rfl, fun r hr => ?_, fun r hr => ?_⟩
  ·refine Ev.step (fun z => rfl) ?_
   simp only [spec_sgProduct.l1]
   rw [wrap_next i (by omega)]
   exact Ev_if (fun h => by omega) (fun _ => hr)
  ·refine Ev.step (fun z => rfl) ?_
   simp only [impl_multiplySingle.l1]
   rw [wrap_next i (by omega)]
   exact Ev_if (fun h => by omega) (fun _ => hr)
 | succ n ih =>
  intro k X hk hn hX
  obtain ⟨v, hv⟩ : ∃ v, v = wrap64 (rd X ((i + k : Nat) : Int) + wrap64 (a * rd q (k : Int))) := ⟨_, rfl⟩
  obtain ⟨X', h1, h2, h3⟩ := ih (k + 1) (X.set (i + k) v) (by omega) (by omega) (by rw [List.length_set]; omega)
  refine ⟨X', by rw [h1, List.length_set], fun r hr => ?_, fun r hr => ?_⟩
  ·refine Ev.step (fun z => rfl) ?_
   simp only [spec_sgProduct.l1]
   rw [wrap_next k (by omega), wrap_sum i k (by omega), Int.toNat_natCast, ← hv]
   exact Ev_if (fun _ => Ev_if (fun _ => Ev_if (fun _ => Ev_if (fun _ => Ev_if (fun _ => h2 r hr) (fun h => by omega)) (fun h => by omega)) (fun h => by omega)) (fun h => by omega)) (fun h => by omega)
  ·have e1 := rd_app X (i + k) (by omega)
   have e2 : (X ++ [0]).set (i + k) v = X.set (i + k) v ++ [0] := List.set_append_left _ _ (by omega)
   refine Ev.step (fun z => rfl) ?_
   simp only [impl_multiplySingle.l1]
   rw [wrap_next k (by omega), wrap_sum i k (by omega), Int.toNat_natCast, e1, ← hv, e2]
   simp only [List.length_append, List.length_singleton]
   exact Ev_if (fun _ => Ev_if (fun _ => Ev_if (fun _ => Ev_if (fun _ => Ev_if (fun _ => h3 r hr) (fun h => by omega)) (fun h => by omega)) (fun h => by omega)) (fun h => by omega)) (fun h => by omega)
theorem prod_l0 (p q : List Int) (hp : p.length ≤ 1000000) (hq : q.length ≤ 1000000) (n : Nat) : ∀ (i : Nat) (X : List Int), i ≤ p.length → p.length - i = n → p.length + q.length ≤ X.length + 1 →
 ∃ X', X'.length = X.length ∧ Ev (fun z => spec_sgProduct.l0 z q X p (p.length : Int) (i : Int)) X' ∧
  (∀ r, Ev (fun z => impl_stripped.f z (X' ++ [0])) r → Ev (fun z => impl_multiplySingle.l0 z q (X ++ [0]) p (p.length : Int) (i : Int)) r) := by
 induction n with
 | zero =>
  intro i X hi hn hX
  refine ⟨X, rfl, ?_, fun r hr => ?_⟩
  ·refine Ev.step (fun z => rfl) ?_
   simp only [spec_sgProduct.l0]
   exact Ev_if (fun h => by omega) (fun _ => Ev.now _)
  ·refine Ev.step (fun z => rfl) ?_
   simp only [impl_multiplySingle.l0]
   exact Ev_if (fun h => by omega) (fun _ => Ev.bind hr (Ev.now _))
 | succ n ih =>
  intro i X hi hn hX
  obtain ⟨X1, h1, h2, h3⟩ := prod_l1 p q i (rd p (i : Int)) (by omega) hp hq q.length 0 X (by omega) (by omega) (by omega)
  obtain ⟨X', e1, e2, e3⟩ := ih (i + 1) X1 (by omega) (by omega) (by omega)
  refine ⟨X', by omega, ?_, fun r hr => ?_⟩
  ·refine Ev.step (fun z => rfl) ?_
   simp only [spec_sgProduct.l0]
   exact Ev_if (fun _ => Ev_if (fun _ => Ev_if (fun _ => h2 _ e2) (fun h => by omega)) (fun h => by omega)) (fun h => by omega)
  ·refine Ev.step (fun z => rfl) ?_
   simp only [impl_multiplySingle.l0]
   exact Ev_if (fun _ => Ev_if (fun _ => Ev_if (fun _ => h3 _ (e3 r hr)) (fun h => by omega)) (fun h => by omega)) (fun h => by omega)
theorem prod_none (p : List Int) (hp : p.length ≤ 1000000) (X : List Int) (n : Nat) : ∀ (i : Nat), i ≤ p.length → p.length - i = n →
 ∀ r, Ev (fun z => impl_stripped.f z X) r → Ev (fun z => impl_multiplySingle.l0 z [] X p (p.length : Int) (i : Int)) r := by
 induction n with
 | zero =>
  intro i hi hn r hr
  refine Ev.step (fun z => rfl) ?_
  simp only [impl_multiplySingle.l0]
  exact Ev_if (fun h => by omega) (fun _ => Ev.bind hr (Ev.now _))
 | succ n ih =>
  intro i hi hn r hr
  refine Ev.step (fun z => rfl) ?_
  simp only [impl_multiplySingle.l0]
  refine Ev_if (fun _ => Ev_if (fun _ => Ev_if (fun _ => ?_) (fun h => by omega)) (fun h => by omega)) (fun h => by omega)
  refine Ev.step (fun z => rfl) ?_
  simp only [impl_multiplySingle.l1]
  rw [wrap_next i (by omega)]
  exact Ev_if (fun h => by simp at h) (fun _ => ih (i + 1) (by omega) (by omega) r hr)
theorem trimI_zeros (n : Nat) : trimI (List.replicate n 0) = [] := by
 induction n with
 | zero => rfl
 | succ n ih => rw [List.replicate_succ', trimI_zero, ih]
theorem product_ev (p q : List Int) (hp : p.length ≤ 500000) (hq : q.length ≤ 500000) : ∃ d, Ev (fun z => spec_sgProduct.f z p q) d ∧ Ev (fun z => impl_multiplySingle.f z p q) (trimI d) ∧ d.length ≤ 1000000 := by
 by_cases he : p.length = 0 ∨ q.length = 0
 ·refine ⟨[], ?_, ?_, by simp⟩
  ·refine Ev_if (fun _ => Ev.step (f := fun _ => some []) (fun z => rfl) (Ev.now _)) (fun h => ?_)
   have e : ((q.length : Int) == 0) = true := by simp only [beq_iff_eq]; omega
   rw [e]; exact Ev.step (f := fun _ => some []) (fun z => rfl) (Ev.now _)
  ·unfold impl_multiplySingle.f
   rw [wrap_sum _ _ (by omega), Int.toNat_natCast]
   refine Ev_if (fun _ => Ev_if (fun _ => ?_) (fun h => by omega)) (fun h => by omega)
   have hz : Ev (fun z => impl_stripped.f z (List.replicate (p.length + q.length) 0)) (trimI []) := by
    have := stripped_eq _ (List.replicate (p.length + q.length) 0) rfl (by simp; omega)
    rwa [trimI_zeros] at this
   rcases he with h | h
   ·have := List.eq_nil_of_length_eq_zero h
    subst this
    refine Ev.step (fun z => rfl) ?_
    simp only [impl_multiplySingle.l0]
    exact Ev_if (fun h => by simp at h) (fun _ => Ev.bind hz (Ev.now _))
   ·have := List.eq_nil_of_length_eq_zero h
    subst this
    exact prod_none p (by omega) _ p.length 0 (by omega) (by omega) _ hz
 ·obtain ⟨X', h1, h2, h3⟩ := prod_l0 p q (by omega) (by omega) p.length 0 (List.replicate (p.length + q.length - 1) 0) (by omega) (by omega) (by simp; omega)
  rw [List.length_replicate] at h1
  refine ⟨X', ?_, ?_, by omega⟩
  ·refine Ev_if (fun h => by omega) (fun h => ?_)
   have e : ((q.length : Int) == 0) = false := by simp only [beq_eq_false_iff_ne]; omega
   rw [e]
   refine Ev.step (fun z => rfl) ?_
   simp only [spec_sgProduct.j0]
   rw [wrap_sum _ _ (by omega), show wrap64 (((p.length + q.length : Nat) : Int) - 1) = ((p.length + q.length - 1 : Nat) : Int) by unfold wrap64; omega, Int.toNat_natCast]
   exact Ev_if (fun h => by cases h) (fun _ => Ev_if (fun _ => Ev_if (fun _ => h2) (fun h => by omega)) (fun h => by omega))
  ·unfold impl_multiplySingle.f
   rw [wrap_sum _ _ (by omega), Int.toNat_natCast]
   refine Ev_if (fun _ => Ev_if (fun _ => ?_) (fun h => by omega)) (fun h => by omega)
   have e : List.replicate (p.length + q.length) (0 : Int) = List.replicate (p.length + q.length - 1) 0 ++ [0] := by
    rw [← List.replicate_succ']; congr 1; omega
   rw [e]
   refine h3 _ ?_
   have := stripped_eq _ (X' ++ [0]) rfl (by simp; omega)
   rwa [trimI_zero] at this
theorem tdiv_ne (a b : Int) (ha : a ≠ 0) (hm : Int.tmod a b = 0) : Int.tdiv a b ≠ 0 := by
 intro h
 have := Int.mul_tdiv_add_tmod a b
 rw [h, hm] at this
 simp at this; omega
theorem natAbs_tdiv_le (a b : Int) : (Int.tdiv a b).natAbs ≤ a.natAbs := by rw [Int.natAbs_tdiv]; exact Nat.div_le_self _ _
theorem quotient_key (p q : List Int) (hgp : goodB p = true) (hgq : goodB q = true) (hq0 : 0 < q.length) :
 ∃ r1 r2, Ev (fun z => (spec_sgDivide.f z p q).bind fun bt => if bt.2 = true then (spec_sgGood.f z bt.1).bind fun t => if t = true then some (bt.1, true) else some (([] : List Int), false) else some (([] : List Int), false)) (r1, r2) ∧
  Ev (fun z => (impl_quotient.f z p q).bind fun bt => (impl_singleResult.f z bt.1 bt.2).bind fun bt => some (bt.1, bt.2)) (r1, r2) ∧ r1.length ≤ 1000000 := by
 have hp9 := good_length p hgp
 have hq9 := good_length q hgq
 have hb := good_last q hgq hq0
 have hw1 : wrap64 ((q.length : Int) - 1) = (q.length : Int) - 1 := by unfold wrap64; omega
 have hfail : Ev (fun z => (impl_singleResult.f z ([] : List Int) false).bind fun bt => some (bt.1, bt.2)) ([], false) := by
  refine Ev.bind (a := ([], false)) ?_ (Ev.now _)
  exact Ev_if (fun h => by cases h) (fun _ => Ev.now _)
 by_cases hlt : p.length < q.length
 ·have himpl0 : ∀ r, Ev (fun z => impl_quotient.l0 z q p (rd q ((q.length : Int) - 1)) [] (-1)) r → Ev (fun z => impl_quotient.f z p q) r := by
   intro r hr
   unfold impl_quotient.f
   refine Ev_bindS (clone_eq p (by omega)) ?_
   have e : mx (wrap64 (wrap64 ((p.length : Int) - (q.length : Int)) + 1)) 0 = 0 := by
    have : wrap64 (wrap64 ((p.length : Int) - (q.length : Int)) + 1) = (p.length : Int) - (q.length : Int) + 1 := by unfold wrap64; omega
    rw [this]; unfold mx; split <;> omega
   rw [hw1, e]
   refine Ev_if (fun _ => Ev_if (fun _ => Ev_if (fun _ => Ev_if (fun _ => Ev_bindS (x := ([] : List Int)) rfl ?_) (fun h => absurd (by decide) h)) (fun h => by omega)) (fun h => by omega)) (fun h => by omega)
   rw [show wrap64 ((([] : List Int).length : Int) - 1) = -1 by simp [wrap64]]
   exact hr
  have hl0 : ∀ r, Ev (fun z => (impl_stripped.f z p).bind fun t => if (t.length : Int) > 0 then some (([] : List Int), false) else (impl_stripped.f z []).bind fun t => some (t, true)) r → Ev (fun z => impl_quotient.l0 z q p (rd q ((q.length : Int) - 1)) [] (-1)) r := by
   intro r hr
   refine Ev.step (fun z => rfl) ?_
   simp only [impl_quotient.l0]
   exact Ev_if (fun h => by omega) (fun _ => hr)
  have hsp : Ev (fun z => spec_sgDivide.f z p q) ([], (p.length : Int) == 0) := Ev_if (fun _ => Ev.now _) (fun h => by omega)
  by_cases hp0 : p.length = 0
  ·have := List.eq_nil_of_length_eq_zero hp0
   subst this
   have g0 : goodB [] = true := rfl
   refine ⟨[], true, ?_, ?_, by simp⟩
   ·refine Ev.bind hsp ?_
    refine Ev_if (fun _ => Ev.bind (sgGood_ev [] (by simp)) ?_) (fun h => absurd rfl h)
    rw [g0]; exact Ev.now _
   ·refine Ev.bind (himpl0 _ (hl0 _ (Ev.bind (stripped_eq 0 [] rfl (by simp)) (Ev_if (fun h => by simp [trimI] at h) (fun _ => Ev.bind (stripped_eq 0 [] rfl (by simp)) (Ev.now _)))))) ?_
    refine Ev.bind (a := ([], true)) ?_ (Ev.now _)
    refine Ev_if (fun _ => Ev.bind (isSingle_ev _ (by simp [trimI])) ?_) (fun h => absurd rfl h)
    exact Ev_if (fun _ => Ev.now _) (fun h => absurd rfl h)
  ·have hk := trimI_keep p (by omega) (good_last p hgp (by omega))
   refine ⟨[], false, ?_, ?_, by simp⟩
   ·refine Ev.bind hsp ?_
    have e : ((p.length : Int) == 0) = false := by simp only [beq_eq_false_iff_ne]; omega
    rw [e]; exact Ev_if (fun h => by cases h) (fun _ => Ev.now _)
   ·refine Ev.bind (himpl0 ([], false) (hl0 _ (Ev.bind (stripped_eq _ p rfl (by omega)) ?_))) hfail
    rw [hk]
    exact Ev_if (fun _ => Ev.now _) (fun h => by omega)
 ·obtain ⟨N, hN⟩ : ∃ N, N = p.length - q.length + 1 := ⟨_, rfl⟩
  have hdl : wrap64 (wrap64 ((p.length : Int) - (q.length : Int)) + 1) = (N : Int) := by unfold wrap64; omega
  have hbig : N ≤ 35184372088832 := by omega
  have himpl : ∀ r, Ev (fun z => impl_quotient.l0 z q p (rd q ((q.length : Int) - 1)) (List.replicate N 0) ((N : Int) - 1)) r → Ev (fun z => impl_quotient.f z p q) r := by
   intro r hr
   unfold impl_quotient.f
   refine Ev_bindS (clone_eq p (by omega)) ?_
   have e : mx (N : Int) 0 = (N : Int) := by unfold mx; split <;> omega
   rw [hw1, hdl, e, Int.toNat_natCast]
   refine Ev_if (fun _ => Ev_if (fun _ => Ev_if (fun _ => Ev_if (fun _ => Ev_bindS rfl ?_) (fun h => absurd hbig h)) (fun h => by omega)) (fun h => by omega)) (fun h => by omega)
   rw [List.length_replicate, show wrap64 ((N : Int) - 1) = (N : Int) - 1 by unfold wrap64; omega]
   exact hr
  have hspec : ∀ r, Ev (fun z => spec_sgDivide.l0 z q p (List.replicate N 0) ((N : Int) - 1)) r → Ev (fun z => spec_sgDivide.f z p q) r := by
   intro r hr
   unfold spec_sgDivide.f
   refine Ev_if (fun h => by omega) (fun _ => Ev_bindS (own_eq p (by omega)) ?_)
   rw [hdl, Int.toNat_natCast]
   refine Ev_if (fun _ => Ev_if (fun _ => Ev_bindS rfl ?_) (fun h => absurd hbig h)) (fun h => by omega)
   rw [List.length_replicate, show wrap64 ((N : Int) - 1) = (N : Int) - 1 by unfold wrap64; omega]
   exact hr
  rcases quot_l0 q ⟨hq0, by omega⟩ hb N p (List.replicate N 0) (by omega) (by omega) (by simp) (by simp; omega) with ⟨f1, f2⟩ | ⟨R', Y', k1, k2, k3, k4, k5, k6⟩
  ·refine ⟨[], false, ?_, Ev.bind (himpl _ f2) hfail, by simp⟩
   exact Ev.bind (hspec _ f1) (Ev_if (fun h => by cases h) (fun _ => Ev.now _))
  ·rw [List.length_replicate] at k2
   have hYl : Y'.length ≤ 1000000 := by omega
   have hstrip := stripped_eq _ R' rfl (by omega)
   have hstripY := stripped_eq _ Y' rfl hYl
   have hAll : Ev (fun z => spec_l1All.f z R' 0 0) (R'.all fun x => decide (0 ≤ x ∧ x ≤ 0)) := ⟨R'.length + 1, fun k hk => l1All_eq R' _ _ (by omega) k (by omega)⟩
   by_cases hz : trimI R' = []
   ·have hz2 := (trimI_nil_iff R').1 hz
    rw [hz] at hstrip
    rw [hz2] at hAll
    have hI : Ev (fun z => impl_quotient.f z p q) (trimI Y', true) := by
     refine himpl _ (k5 _ (Ev.bind hstrip ?_))
     exact Ev_if (fun h => by simp at h) (fun _ => Ev.bind hstripY (Ev.now _))
    rcases k6 with k6 | ⟨k6, j, hj, hjn⟩
    ·-- all quotients small: the last one is not 0
     have h4 := k4 (by omega)
     have hidx : (N : Int) + (q.length : Int) - 2 = (p.length : Int) - 1 := by omega
     rw [hidx] at h4
     have hpl := good_last p hgp (by omega)
     have hpm : rd p ((p.length : Int) - 1) ∈ p := by
      have e : ((p.length : Int) - 1) = ((p.length - 1 : Nat) : Int) := by omega
      rw [e]; exact rd_mem p _ (by omega)
     have hpb := good_bound p hgp _ hpm
     have hne : rd Y' ((Y'.length : Int) - 1) ≠ 0 := by
      rw [k2, h4.1]
      have h5 := tdiv_ne _ _ hpl h4.2
      have h6 := natAbs_tdiv_le (rd p ((p.length : Int) - 1)) (rd q ((q.length : Int) - 1))
      rw [show wrap64 (Int.tdiv (rd p ((p.length : Int) - 1)) (rd q ((q.length : Int) - 1))) = Int.tdiv (rd p ((p.length : Int) - 1)) (rd q ((q.length : Int) - 1)) by unfold wrap64; omega]
      exact h5
     have hk := trimI_keep Y' (by omega) hne
     rw [hk] at hI
     cases hg : goodB Y' with
     | true =>
      refine ⟨Y', true, ?_, ?_, hYl⟩
      ·refine Ev.bind (hspec _ (k6 _ (Ev.bind hAll (Ev.now _)))) ?_
       refine Ev_if (fun _ => Ev.bind (sgGood_ev _ hYl) ?_) (fun h => absurd rfl h)
       rw [hg]; exact Ev.now _
      ·refine Ev.bind hI (Ev.bind (a := (Y', true)) ?_ (Ev.now _))
       refine Ev_if (fun _ => Ev.bind (isSingle_ev _ hYl) ?_) (fun h => absurd rfl h)
       rw [hg]; exact Ev.now _
     | false =>
      refine ⟨[], false, ?_, ?_, by simp⟩
      ·refine Ev.bind (hspec _ (k6 _ (Ev.bind hAll (Ev.now _)))) ?_
       refine Ev_if (fun _ => Ev.bind (sgGood_ev _ hYl) ?_) (fun h => absurd rfl h)
       rw [hg]; exact Ev.now _
      ·refine Ev.bind hI (Ev.bind (a := ([], false)) ?_ (Ev.now _))
       refine Ev_if (fun _ => Ev.bind (isSingle_ev _ hYl) ?_) (fun h => absurd rfl h)
       rw [hg]; exact Ev.now _
    ·have hg := good_trim Y' j hj hjn
     refine ⟨[], false, Ev.bind (hspec _ k6) (Ev_if (fun h => by cases h) (fun _ => Ev.now _)), ?_, by simp⟩
     refine Ev.bind hI (Ev.bind (a := ([], false)) ?_ (Ev.now _))
     refine Ev_if (fun _ => Ev.bind (isSingle_ev _ (Nat.le_trans (trimI_length _) hYl)) ?_) (fun h => absurd rfl h)
     rw [hg]; exact Ev.now _
   ·have hz2 : (R'.all fun x => decide (0 ≤ x ∧ x ≤ 0)) = false := by
     cases h : (R'.all fun x => decide (0 ≤ x ∧ x ≤ 0)) with
     | false => rfl
     | true => exact absurd ((trimI_nil_iff R').2 h) hz
    rw [hz2] at hAll
    have hlen : 0 < (trimI R').length := List.length_pos_iff.2 hz
    refine ⟨[], false, ?_, Ev.bind (himpl ([], false) (k5 _ (Ev.bind hstrip (Ev_if (fun _ => Ev.now _) (fun h => by omega))))) hfail, by simp⟩
    rcases k6 with k6 | ⟨k6, _⟩
    ·exact Ev.bind (hspec _ (k6 _ (Ev.bind hAll (Ev.now _)))) (Ev_if (fun h => by cases h) (fun _ => Ev.now _))
    ·exact Ev.bind (hspec _ k6) (Ev_if (fun h => by cases h) (fun _ => Ev.now _))
theorem QuotientOf_both (p q : List Int) (hp : p.length ≤ 1000000) (hq : q.length ≤ 1000000) : ∃ r1 r2, Ev (fun k => spec_QuotientOf.f k p q) (r1, r2) ∧ Ev (fun k => impl_QuotientOf.f k p q) (r1, r2) ∧ r1.length ≤ 1000000 := by
 have hj0 : ∀ z, spec_QuotientOf.j0 (z + 1) p q true = some ([], false) := fun z => rfl
 have hj1 : ∀ z, impl_QuotientOf.j0 (z + 1) p q true = some ([], false) := fun z => rfl
 cases hgp : goodB p with
 | false =>
  refine ⟨[], false, ?_, ?_, by simp⟩
  ·refine Ev.bind (sgGood_ev p hp) ?_; rw [hgp]
   exact Ev_if (fun h => by cases h) (fun _ => Ev.step hj0 (Ev.now _))
  ·refine Ev.bind (isSingle_ev p hp) ?_; rw [hgp]
   exact Ev_if (fun h => by cases h) (fun _ => Ev.step hj1 (Ev.now _))
 | true =>
  cases hgq : goodB q with
  | false =>
   refine ⟨[], false, ?_, ?_, by simp⟩
   ·refine Ev.bind (sgGood_ev p hp) ?_; rw [hgp]
    refine Ev_if (fun _ => Ev.bind (sgGood_ev q hq) ?_) (fun h => absurd rfl h); rw [hgq]
    exact Ev_if (fun h => by cases h) (fun _ => Ev.step hj0 (Ev.now _))
   ·refine Ev.bind (isSingle_ev p hp) ?_; rw [hgp]
    refine Ev_if (fun _ => Ev.bind (isSingle_ev q hq) ?_) (fun h => absurd rfl h); rw [hgq]
    exact Ev_if (fun h => by cases h) (fun _ => Ev.step hj1 (Ev.now _))
  | true =>
   by_cases hq0 : q.length = 0
   ·have e : ((q.length : Int) == 0) = true := by rw [hq0]; rfl
    refine ⟨[], false, ?_, ?_, by simp⟩
    ·refine Ev.bind (sgGood_ev p hp) ?_; rw [hgp]
     refine Ev_if (fun _ => Ev.bind (sgGood_ev q hq) ?_) (fun h => absurd rfl h); rw [hgq, e]
     exact Ev_if (fun _ => Ev.step hj0 (Ev.now _)) (fun h => absurd rfl h)
    ·refine Ev.bind (isSingle_ev p hp) ?_; rw [hgp]
     refine Ev_if (fun _ => Ev.bind (isSingle_ev q hq) ?_) (fun h => absurd rfl h); rw [hgq, e]
     exact Ev_if (fun _ => Ev.step hj1 (Ev.now _)) (fun h => absurd rfl h)
   ·have e : ((q.length : Int) == 0) = false := by simp only [beq_eq_false_iff_ne]; omega
    obtain ⟨r1, r2, h1, h2, h3⟩ := quotient_key p q hgp hgq (by omega)
    refine ⟨r1, r2, ?_, ?_, h3⟩
    ·refine Ev.bind (sgGood_ev p hp) ?_; rw [hgp]
     refine Ev_if (fun _ => Ev.bind (sgGood_ev q hq) ?_) (fun h => absurd rfl h); rw [hgq, e]
     refine Ev_if (fun _ => ?_) (fun h => absurd rfl h)
     refine Ev.step (fun z => rfl) ?_
     simp only [spec_QuotientOf.j0]
     exact Ev_if (fun h => by cases h) (fun _ => h1)
    ·refine Ev.bind (isSingle_ev p hp) ?_; rw [hgp]
     refine Ev_if (fun _ => Ev.bind (isSingle_ev q hq) ?_) (fun h => absurd rfl h); rw [hgq, e]
     refine Ev_if (fun _ => ?_) (fun h => absurd rfl h)
     refine Ev.step (fun z => rfl) ?_
     simp only [impl_QuotientOf.j0]
     exact Ev_if (fun h => by cases h) (fun _ => h2)
theorem remainder_key (p q : List Int) (hgp : goodB p = true) (hgq : goodB q = true) (hq0 : 0 < q.length) :
 ∃ r1 r2, Ev (fun z => (spec_sgRemainder.f z p q).bind fun bt => if bt.2 = true then (spec_sgGood.f z bt.1).bind fun t => if t = true then some (bt.1, true) else some (([] : List Int), false) else some (([] : List Int), false)) (r1, r2) ∧
  Ev (fun z => (impl_remainder.f z p q).bind fun bt => (impl_singleResult.f z bt.1 bt.2).bind fun bt => some (bt.1, bt.2)) (r1, r2) ∧ r1.length ≤ 1000000 := by
 have hp9 := good_length p hgp
 have hq9 := good_length q hgq
 obtain ⟨r, ok, e1, e2, e3, e4⟩ := rem_ev p q (by omega) (by omega) hq0 (good_bound9 p hgp) (good_tight p hgp) (good_bound9 q hgq) (good_tight q hgq)
 cases ok with
 | false =>
  obtain rfl := e4 rfl
  refine ⟨[], false, Ev.bind e1 (Ev_if (fun h => by cases h) (fun _ => Ev.now _)), Ev.bind e2 (Ev.bind (a := ([], false)) ?_ (Ev.now _)), by simp⟩
  exact Ev_if (fun h => by cases h) (fun _ => Ev.now _)
 | true =>
  have hl := (e3 rfl).1
  cases hg : goodB r with
  | true =>
   refine ⟨r, true, Ev.bind e1 (Ev_if (fun _ => Ev.bind (sgGood_ev r (by omega)) ?_) (fun h => absurd rfl h)), Ev.bind e2 (Ev.bind (a := (r, true)) ?_ (Ev.now _)), by omega⟩
   ·rw [hg]; exact Ev.now _
   ·refine Ev_if (fun _ => Ev.bind (isSingle_ev r (by omega)) ?_) (fun h => absurd rfl h)
    rw [hg]; exact Ev.now _
  | false =>
   refine ⟨[], false, Ev.bind e1 (Ev_if (fun _ => Ev.bind (sgGood_ev r (by omega)) ?_) (fun h => absurd rfl h)), Ev.bind e2 (Ev.bind (a := ([], false)) ?_ (Ev.now _)), by simp⟩
   ·rw [hg]; exact Ev.now _
   ·refine Ev_if (fun _ => Ev.bind (isSingle_ev r (by omega)) ?_) (fun h => absurd rfl h)
    rw [hg]; exact Ev.now _
theorem RemainderOf_both (p q : List Int) (hp : p.length ≤ 1000000) (hq : q.length ≤ 1000000) : ∃ r1 r2, Ev (fun k => spec_RemainderOf.f k p q) (r1, r2) ∧ Ev (fun k => impl_RemainderOf.f k p q) (r1, r2) ∧ r1.length ≤ 1000000 := by
 have hj0 : ∀ z, spec_RemainderOf.j0 (z + 1) p q true = some ([], false) := fun z => rfl
 have hj1 : ∀ z, impl_RemainderOf.j0 (z + 1) p q true = some ([], false) := fun z => rfl
 cases hgp : goodB p with
 | false =>
  refine ⟨[], false, ?_, ?_, by simp⟩
  ·refine Ev.bind (sgGood_ev p hp) ?_; rw [hgp]
   exact Ev_if (fun h => by cases h) (fun _ => Ev.step hj0 (Ev.now _))
  ·refine Ev.bind (isSingle_ev p hp) ?_; rw [hgp]
   exact Ev_if (fun h => by cases h) (fun _ => Ev.step hj1 (Ev.now _))
 | true =>
  cases hgq : goodB q with
  | false =>
   refine ⟨[], false, ?_, ?_, by simp⟩
   ·refine Ev.bind (sgGood_ev p hp) ?_; rw [hgp]
    refine Ev_if (fun _ => Ev.bind (sgGood_ev q hq) ?_) (fun h => absurd rfl h); rw [hgq]
    exact Ev_if (fun h => by cases h) (fun _ => Ev.step hj0 (Ev.now _))
   ·refine Ev.bind (isSingle_ev p hp) ?_; rw [hgp]
    refine Ev_if (fun _ => Ev.bind (isSingle_ev q hq) ?_) (fun h => absurd rfl h); rw [hgq]
    exact Ev_if (fun h => by cases h) (fun _ => Ev.step hj1 (Ev.now _))
  | true =>
   by_cases hq0 : q.length = 0
   ·have e : ((q.length : Int) == 0) = true := by rw [hq0]; rfl
    refine ⟨[], false, ?_, ?_, by simp⟩
    ·refine Ev.bind (sgGood_ev p hp) ?_; rw [hgp]
     refine Ev_if (fun _ => Ev.bind (sgGood_ev q hq) ?_) (fun h => absurd rfl h); rw [hgq, e]
     exact Ev_if (fun _ => Ev.step hj0 (Ev.now _)) (fun h => absurd rfl h)
    ·refine Ev.bind (isSingle_ev p hp) ?_; rw [hgp]
     refine Ev_if (fun _ => Ev.bind (isSingle_ev q hq) ?_) (fun h => absurd rfl h); rw [hgq, e]
     exact Ev_if (fun _ => Ev.step hj1 (Ev.now _)) (fun h => absurd rfl h)
   ·have e : ((q.length : Int) == 0) = false := by simp only [beq_eq_false_iff_ne]; omega
    obtain ⟨r1, r2, h1, h2, h3⟩ := remainder_key p q hgp hgq (by omega)
    refine ⟨r1, r2, ?_, ?_, h3⟩
    ·refine Ev.bind (sgGood_ev p hp) ?_; rw [hgp]
     refine Ev_if (fun _ => Ev.bind (sgGood_ev q hq) ?_) (fun h => absurd rfl h); rw [hgq, e]
     refine Ev_if (fun _ => ?_) (fun h => absurd rfl h)
     refine Ev.step (fun z => rfl) ?_
     simp only [spec_RemainderOf.j0]
     exact Ev_if (fun h => by cases h) (fun _ => h1)
    ·refine Ev.bind (isSingle_ev p hp) ?_; rw [hgp]
     refine Ev_if (fun _ => Ev.bind (isSingle_ev q hq) ?_) (fun h => absurd rfl h); rw [hgq, e]
     refine Ev_if (fun _ => ?_) (fun h => absurd rfl h)
     refine Ev.step (fun z => rfl) ?_
     simp only [impl_RemainderOf.j0]
     exact Ev_if (fun h => by cases h) (fun _ => h2)
theorem common_key (p q : List Int) (hgp : goodB p = true) (hgq : goodB q = true) :
 ∃ r1 r2, Ev (fun z => (spec_sgCommon.f z p q).bind fun bt => if bt.2 = true then (spec_sgGood.f z bt.1).bind fun t => if t = true then some (bt.1, true) else some (([] : List Int), false) else some (([] : List Int), false)) (r1, r2) ∧
  Ev (fun z => (impl_commonDivisor.f z p q).bind fun bt => (impl_singleResult.f z bt.1 bt.2).bind fun bt => some (bt.1, bt.2)) (r1, r2) ∧ r1.length ≤ 1000000 := by
 have hp9 := good_length p hgp
 have hq9 := good_length q hgq
 obtain ⟨r, ok, e1, e2, e3, e4⟩ := common_loop q.length p q (Nat.le_refl _) (by omega) (by omega) (good_bound9 p hgp) (good_tight p hgp) (good_bound9 q hgq) (good_tight q hgq)
 replace e1 : Ev (fun z => spec_sgCommon.f z p q) (r, ok) := e1
 replace e2 : Ev (fun z => impl_commonDivisor.f z p q) (r, ok) := e2
 cases ok with
 | false =>
  obtain rfl := e4 rfl
  refine ⟨[], false, Ev.bind e1 (Ev_if (fun h => by cases h) (fun _ => Ev.now _)), Ev.bind e2 (Ev.bind (a := ([], false)) ?_ (Ev.now _)), by simp⟩
  exact Ev_if (fun h => by cases h) (fun _ => Ev.now _)
 | true =>
  have hl := e3 rfl
  cases hg : goodB r with
  | true =>
   refine ⟨r, true, Ev.bind e1 (Ev_if (fun _ => Ev.bind (sgGood_ev r (by omega)) ?_) (fun h => absurd rfl h)), Ev.bind e2 (Ev.bind (a := (r, true)) ?_ (Ev.now _)), by omega⟩
   ·rw [hg]; exact Ev.now _
   ·refine Ev_if (fun _ => Ev.bind (isSingle_ev r (by omega)) ?_) (fun h => absurd rfl h)
    rw [hg]; exact Ev.now _
  | false =>
   refine ⟨[], false, Ev.bind e1 (Ev_if (fun _ => Ev.bind (sgGood_ev r (by omega)) ?_) (fun h => absurd rfl h)), Ev.bind e2 (Ev.bind (a := ([], false)) ?_ (Ev.now _)), by simp⟩
   ·rw [hg]; exact Ev.now _
   ·refine Ev_if (fun _ => Ev.bind (isSingle_ev r (by omega)) ?_) (fun h => absurd rfl h)
    rw [hg]; exact Ev.now _
theorem CommonDivisor_both (p q : List Int) (hp : p.length ≤ 1000000) (hq : q.length ≤ 1000000) : ∃ r1 r2, Ev (fun k => spec_CommonDivisor.f k p q) (r1, r2) ∧ Ev (fun k => impl_CommonDivisor.f k p q) (r1, r2) ∧ r1.length ≤ 1000000 := by
 have hj0 : ∀ z, spec_CommonDivisor.j0 (z + 1) p q true = some ([], false) := fun z => rfl
 have hj1 : ∀ z, impl_CommonDivisor.j0 (z + 1) p q true = some ([], false) := fun z => rfl
 cases hgp : goodB p with
 | false =>
  refine ⟨[], false, ?_, ?_, by simp⟩
  ·refine Ev.bind (sgGood_ev p hp) ?_; rw [hgp]
   exact Ev_if (fun h => by cases h) (fun _ => Ev.step hj0 (Ev.now _))
  ·refine Ev.bind (isSingle_ev p hp) ?_; rw [hgp]
   exact Ev_if (fun h => by cases h) (fun _ => Ev.step hj1 (Ev.now _))
 | true =>
  cases hgq : goodB q with
  | false =>
   refine ⟨[], false, ?_, ?_, by simp⟩
   ·refine Ev.bind (sgGood_ev p hp) ?_; rw [hgp]
    refine Ev_if (fun _ => Ev.bind (sgGood_ev q hq) ?_) (fun h => absurd rfl h); rw [hgq]
    exact Ev_if (fun h => by cases h) (fun _ => Ev.step hj0 (Ev.now _))
   ·refine Ev.bind (isSingle_ev p hp) ?_; rw [hgp]
    refine Ev_if (fun _ => Ev.bind (isSingle_ev q hq) ?_) (fun h => absurd rfl h); rw [hgq]
    exact Ev_if (fun h => by cases h) (fun _ => Ev.step hj1 (Ev.now _))
  | true =>
   have ew : wrap64 ((p.length : Int) + (q.length : Int)) = (p.length : Int) + (q.length : Int) := by unfold wrap64; omega
   by_cases hq0 : p.length + q.length = 0
   ·have e : (wrap64 ((p.length : Int) + (q.length : Int)) == 0) = true := by rw [ew]; simp only [beq_iff_eq]; omega
    refine ⟨[], false, ?_, ?_, by simp⟩
    ·refine Ev.bind (sgGood_ev p hp) ?_; rw [hgp]
     refine Ev_if (fun _ => Ev.bind (sgGood_ev q hq) ?_) (fun h => absurd rfl h); rw [hgq, e]
     exact Ev_if (fun _ => Ev.step hj0 (Ev.now _)) (fun h => absurd rfl h)
    ·refine Ev.bind (isSingle_ev p hp) ?_; rw [hgp]
     refine Ev_if (fun _ => Ev.bind (isSingle_ev q hq) ?_) (fun h => absurd rfl h); rw [hgq, e]
     exact Ev_if (fun _ => Ev.step hj1 (Ev.now _)) (fun h => absurd rfl h)
   ·have e : (wrap64 ((p.length : Int) + (q.length : Int)) == 0) = false := by rw [ew]; simp only [beq_eq_false_iff_ne]; omega
    obtain ⟨r1, r2, h1, h2, h3⟩ := common_key p q hgp hgq
    refine ⟨r1, r2, ?_, ?_, h3⟩
    ·refine Ev.bind (sgGood_ev p hp) ?_; rw [hgp]
     refine Ev_if (fun _ => Ev.bind (sgGood_ev q hq) ?_) (fun h => absurd rfl h); rw [hgq, e]
     refine Ev_if (fun _ => ?_) (fun h => absurd rfl h)
     refine Ev.step (fun z => rfl) ?_
     simp only [spec_CommonDivisor.j0]
     exact Ev_if (fun h => by cases h) (fun _ => h1)
    ·refine Ev.bind (isSingle_ev p hp) ?_; rw [hgp]
     refine Ev_if (fun _ => Ev.bind (isSingle_ev q hq) ?_) (fun h => absurd rfl h); rw [hgq, e]
     refine Ev_if (fun _ => ?_) (fun h => absurd rfl h)
     refine Ev.step (fun z => rfl) ?_
     simp only [impl_CommonDivisor.j0]
     exact Ev_if (fun h => by cases h) (fun _ => h2)
theorem DeriveSingle_both (l : List Int) (hl : l.length ≤ 1000000) : ∃ r1 r2, Ev (fun k => spec_DeriveSingle.f k l) (r1, r2) ∧ Ev (fun k => impl_DeriveSingle.f k l) (r1, r2) ∧ r1.length ≤ 1000000 := by
 cases hg : goodB l with
 | false =>
  refine ⟨[], false, ?_, ?_, by simp⟩
  ·refine Ev.bind (sgGood_ev l hl) ?_; rw [hg]; exact Ev.now _
  ·refine Ev.bind (isSingle_ev l hl) ?_; rw [hg]; exact Ev.now _
 | true =>
  obtain ⟨d, h1, h2, h3⟩ := derive_small l (good_length l hg)
  obtain ⟨r1, r2, e1, e2, e3⟩ := single_result d (by omega)
  refine ⟨r1, r2, ?_, ?_, by omega⟩
  ·refine Ev.bind (sgGood_ev l hl) ?_; rw [hg]; exact Ev.bind h1 (Ev.bind e1 (Ev.now _))
  ·refine Ev.bind (isSingle_ev l hl) ?_; rw [hg]; exact Ev.bind h2 (Ev.bind e2 (Ev.now _))
theorem MultiplySingle_both (p q : List Int) (hp : p.length ≤ 1000000) (hq : q.length ≤ 1000000) : ∃ r1 r2, Ev (fun k => spec_MultiplySingle.f k p q) (r1, r2) ∧ Ev (fun k => impl_MultiplySingle.f k p q) (r1, r2) ∧ r1.length ≤ 1000000 := by
 have hno : (goodB p = false ∨ goodB q = false) → Ev (fun k => spec_MultiplySingle.f k p q) ([], false) ∧ Ev (fun k => impl_MultiplySingle.f k p q) ([], false) := by
  intro h
  constructor
  ·refine Ev.bind (sgGood_ev p hp) ?_
   refine Ev_if (fun hg => Ev.bind (sgGood_ev q hq) ?_) (fun _ => Ev.step (f := fun _ => some ([], false)) (fun z => rfl) (Ev.now _))
   have e : goodB q = false := h.resolve_left (by rw [hg]; decide)
   rw [e]; exact Ev.step (f := fun _ => some ([], false)) (fun z => rfl) (Ev.now _)
  ·refine Ev.bind (isSingle_ev p hp) ?_
   refine Ev_if (fun hg => Ev.bind (isSingle_ev q hq) ?_) (fun _ => Ev.step (f := fun _ => some ([], false)) (fun z => rfl) (Ev.now _))
   have e : goodB q = false := h.resolve_left (by rw [hg]; decide)
   rw [e]; exact Ev.step (f := fun _ => some ([], false)) (fun z => rfl) (Ev.now _)
 cases hgp : goodB p with
 | false => exact ⟨_, _, (hno (.inl hgp)).1, (hno (.inl hgp)).2, by simp⟩
 | true =>
  cases hgq : goodB q with
  | false => exact ⟨_, _, (hno (.inr hgq)).1, (hno (.inr hgq)).2, by simp⟩
  | true =>
   have h1 := good_length p hgp
   have h2 := good_length q hgq
   obtain ⟨d, e1, e2, e3⟩ := product_ev p q (by omega) (by omega)
   obtain ⟨r1, r2, f1, f2, f3⟩ := single_result d e3
   refine ⟨r1, r2, ?_, ?_, by omega⟩
   ·refine Ev.bind (sgGood_ev p hp) ?_; rw [hgp]
    refine Ev_if (fun _ => Ev.bind (sgGood_ev q hq) ?_) (fun h => absurd rfl h); rw [hgq]
    refine Ev.step (fun z => rfl) ?_
    simp only [spec_MultiplySingle.j0]
    exact Ev_if (fun h => by cases h) (fun _ => Ev.bind e1 (Ev.bind f1 (Ev.now _)))
   ·refine Ev.bind (isSingle_ev p hp) ?_; rw [hgp]
    refine Ev_if (fun _ => Ev.bind (isSingle_ev q hq) ?_) (fun h => absurd rfl h); rw [hgq]
    refine Ev.step (fun z => rfl) ?_
    simp only [impl_MultiplySingle.j0]
    exact Ev_if (fun h => by cases h) (fun _ => Ev.bind e2 (Ev.bind f2 (Ev.now _)))
theorem absmul (x y a b : Int) (hx : -a ≤ x ∧ x ≤ a) (hy : -b ≤ y ∧ y ≤ b) : -(a * b) ≤ x * y ∧ x * y ≤ a * b := by
 have h1 : x.natAbs ≤ a.toNat := by omega
 have h2 : y.natAbs ≤ b.toNat := by omega
 have h := Nat.mul_le_mul h1 h2
 rw [← Int.natAbs_mul] at h
 have e : ((a.toNat * b.toNat : Nat) : Int) = a * b := by rw [Int.natCast_mul, Int.toNat_of_nonneg (by omega), Int.toNat_of_nonneg (by omega)]
 have h3 : (((x * y).natAbs : Nat) : Int) ≤ a * b := by rw [← e]; exact_mod_cast h
 omega
theorem u64r (n : Int) (h : 0 ≤ n ∧ n < 18446744073709551616) : IntKind.u64.wrap n = n := by simp [IntKind.wrap, IntKind.signed, IntKind.bits]; omega
theorem step_on {D : (Nat → Int) → Prop} (hD : Cl D) (p q : List Int) (hq : q.length ≤ p.length) (hq0 : 0 < q.length) (hpb : boundB p 1000000000) (hqb : boundB q 1000000000) (hb : rd q ((q.length : Int) - 1) ≠ 0) (h1 : D (co q)) (h2 : D (co p)) : D (co (stepI p q)) := by
 obtain ⟨a, ha⟩ : ∃ a, rd p ((p.length : Int) - 1) = a := ⟨_, rfl⟩
 obtain ⟨b, hbe⟩ : ∃ b, rd q ((q.length : Int) - 1) = b := ⟨_, rfl⟩
 have d1 := hD.mul (upI a b) _ h2
 have d2 := hD.mul (-(downI a b)) _ (Cl_shN hD _ h1 (p.length - q.length))
 have d3 := hD.add _ _ d1 d2
 have e : (fun k => upI a b * co p k + -(downI a b) * shN (p.length - q.length) (co q) k) = (fun k => contentI 0 (trimI (nextI p q)) * co (stepI p q) k) := by
  funext k
  rw [show contentI 0 (trimI (nextI p q)) * co (stepI p q) k = co (nextI p q) k by unfold stepI; rw [← co_part, co_trim _ _ rfl]]
  by_cases hk : k < p.length
  ·have v := next_val p q hq hq0 hpb hqb hb k hk
   rw [ha, hbe] at v
   have e1 : co (nextI p q) k = rd (nextI p q) (k : Int) := by unfold co; rw [if_pos (by rw [nextI_length]; exact hk)]
   have e2 : co p k = rd p (k : Int) := by unfold co; rw [if_pos hk]
   rw [e1, e2, v]
   unfold shN
   by_cases hs : p.length - q.length ≤ k
   ·rw [if_pos hs, if_pos hs]
    have e3 : co q (k - (p.length - q.length)) = rd q ((k - (p.length - q.length) : Nat) : Int) := by unfold co; rw [if_pos (by omega)]
    rw [e3]; grind
   ·rw [if_neg hs, if_neg hs]; grind
  ·have e1 : co (nextI p q) k = 0 := co_Sup _ k (by rw [nextI_length]; omega)
   have e2 : co p k = 0 := co_Sup _ k (by omega)
   have e3 : shN (p.length - q.length) (co q) k = 0 := by
    unfold shN; split
    ·exact co_Sup _ _ (by omega)
    ·rfl
   rw [e1, e2, e3]; simp
 rw [e] at d3
 by_cases hc : contentI 0 (trimI (nextI p q)) = 0
 ·have h0 : ∀ x ∈ trimI (nextI p q), x = 0 := by
   intro x hx
   rcases Classical.em (x = 0) with h | h
   ·exact h
   ·exact absurd hc (contentI_pos _ x hx h)
  have hz : (fun k => (0 : Int) * co p k) = co (stepI p q) := by
   funext k
   rw [Int.zero_mul]
   unfold co stepI
   split
   ·rename_i hk
    rw [part_length] at hk
    rw [rd_part _ k hk, h0 _ (rd_mem _ k hk)]; simp
   ·rfl
  rw [← hz]; exact hD.mul 0 _ h2
 ·exact hD.cancel _ _ hc d3
theorem remL_on {D : (Nat → Int) → Prop} (hD : Cl D) (q : List Int) (hq0 : 0 < q.length) (hqb : boundB q 1000000000) (hb : rd q ((q.length : Int) - 1) ≠ 0) (n : Nat) : ∀ (p : List Int), boundB p 1000000000 → (remL n p q).2 = true → D (co q) → D (co p) → D (co (remL n p q).1) := by
 induction n with
 | zero => intro p _ _ _ h; exact h
 | succ n ih =>
  intro p hpb
  simp only [remL]
  by_cases hlen : q.length ≤ p.length
  ·rw [if_pos hlen]
   by_cases h : okB (stepI p q) = true
   ·rw [if_pos h]
    intro h1 h2 h3
    exact ih _ (okB_bound _ h) h1 h2 (step_on hD p q hlen hq0 hpb hqb hb h2 h3)
   ·rw [if_neg h]; intro h1; cases h1
  ·rw [if_neg hlen]; intro _ _ h3; exact h3
theorem tight_snoc (d : List Int) (h0 : 0 < d.length) (ht : tight d) : ∃ d' c, d = d' ++ [c] ∧ c ≠ 0 := by
 obtain ⟨d', c, rfl⟩ := List_snoc d h0
 have h := ht h0
 rw [show (((d' ++ [c]).length : Int) - 1) = (d'.length : Int) by simp, rd_last] at h
 exact ⟨d', c, rfl, h⟩
theorem mult_small (d r : List Int) (h0 : 0 < d.length) (ht : tight d) (hl : r.length < d.length) (hr : tight r) (h : Mult d (co r)) : r = [] := by
 obtain ⟨d', c, rfl, hc⟩ := tight_snoc d h0 ht
 obtain ⟨M, n, u, hM, hu, he⟩ := h
 have hf : Sup r.length (fun k => M * co r k) := fun k hk => by simp only; rw [co_Sup r k hk]; simp
 simp at hl
 have hs := factor_len d' c hc (fun k => M * co r k) u r.length hf he n (by intro k hk; exact hu k (by omega))
 rw [show r.length - d'.length = 0 by omega] at hs
 have hz : ∀ k, co r k = 0 := by
  intro k
  have h1 := he k
  have h2 : pmul (d' ++ [c]) u k = 0 := by
   rw [show u = fun k => 0 * (0 : Int) + 0 * (0 : Int) by funext k; rw [hs k (by omega)]; simp]
   rw [pmul_lin _ 0 0 (fun _ => 0) (fun _ => 0)]; simp
  rw [h2] at h1
  rcases Int.mul_eq_zero.1 h1 with h3 | h3
  ·exact absurd h3 hM
  ·exact h3
 rcases Nat.eq_zero_or_pos r.length with e | e
 ·exact List.eq_nil_of_length_eq_zero e
 ·exfalso
  apply hr e
  have := hz (r.length - 1)
  unfold co at this
  rw [if_pos (by omega)] at this
  rw [show ((r.length : Int) - 1) = ((r.length - 1 : Nat) : Int) by omega]; exact this
theorem remF_zero (x d : List Int) (hxb : boundB x 1000000000) (hxt : tight x) (hx : x.length ≤ 1000000) (h0 : 0 < d.length) (hd : d.length ≤ 1000000) (hdb : boundB d 1000000000) (ht : tight d) (hm : Mult d (co x)) (hok : (remF x d).2 = true) : (remF x d).1 = [] := by
 have hD := Mult_cl d
 have e3 := ((remF_ev x d hx hd h0 hxb hxt hdb ht).2.2.1 hok)
 have hp : Mult d (co (partI x)) := by
  rcases Nat.eq_zero_or_pos x.length with e | e
  ·have := List.eq_nil_of_length_eq_zero e
   subst this; exact hm
  ·refine hD.cancel (contentI 0 x) _ (tight_pos x hxt e) ?_
   have e2 : (fun k => contentI 0 x * co (partI x) k) = co x := by funext k; exact (co_part x k).symm
   rw [e2]; exact hm
 have h1 := remL_on hD d h0 hdb (ht h0) (partI x).length (partI x) (part_bound x _ hxb) hok (Mult_self d) hp
 exact mult_small d _ h0 ht e3.1 e3.2.2 h1
theorem sign_pos (l : List Int) (hb : boundB l 1000000000) (ht : tight l) (h0 : 0 < l.length) : 0 < rd (signI l) ((l.length : Int) - 1) := by
 have h := ht h0
 have e : ((l.length : Int) - 1) = ((l.length - 1 : Nat) : Int) := by omega
 have hbl := hb _ (rd_mem l (l.length - 1) (by omega))
 unfold signI
 rw [if_neg (by omega)]
 rw [e] at h ⊢
 by_cases hn : rd l ((l.length - 1 : Nat) : Int) < 0
 ·rw [if_pos hn, negI_rd l _ (by omega)]
  unfold wrap64; omega
 ·rw [if_neg hn]; omega
theorem comL_pos (n : Nat) : ∀ (p q : List Int), q.length ≤ n → 0 < p.length → p.length ≤ 1000000 → q.length ≤ 1000000 → boundB p 1000000000 → tight p → boundB q 1000000000 → tight q → (comL n p q).2 = true → 0 < rd (comL n p q).1 (((comL n p q).1.length : Int) - 1) := by
 have fin : ∀ p : List Int, 0 < p.length → boundB p 1000000000 → tight p → 0 < rd (signI (partI p)) (((signI (partI p)).length : Int) - 1) := by
  intro p h0 hb ht
  have := sign_pos (partI p) (part_bound p _ hb) (tight_part p ht) (by rw [part_length]; exact h0)
  rw [signI_length]; exact this
 induction n with
 | zero => intro p q _ h0 _ _ hb ht _ _ _; exact fin p h0 hb ht
 | succ n ih =>
  intro p q hqn h0 hp hq hpb hpt hqb hqt
  simp only [comL]
  by_cases hq0 : 0 < q.length
  ·rw [if_pos hq0]
   by_cases hok : (remF p q).2 = true
   ·rw [if_pos hok]
    have e3 := (remF_ev p q hp hq hq0 hpb hpt hqb hqt).2.2.1 hok
    intro h
    exact ih q (remF p q).1 (by omega) hq0 hq (by omega) hqb hqt e3.2.1 e3.2.2 h
   ·rw [if_neg hok]; intro h; cases h
  ·rw [if_neg hq0]; intro _; exact fin p h0 hpb hpt
theorem prim_one (d : List Int) (h : Prim d) : contentI 0 d = 1 := by
 have h1 := h (contentI 0 d) 1 (fun i => by
  rw [Int.mul_one]
  unfold co; split
  ·rename_i hi
   exact (contentI_dvd d 0).2 _ (rd_mem d i hi)
  ·exact Int.dvd_zero _)
 have h2 := content_nonneg d 0 (by omega)
 exact Int.eq_one_of_dvd_one h2 h1
theorem Ev_uniq {α : Type} {g : Nat → Option α} {a b : α} (h : Ev g a) (h' : Ev g b) : a = b := by
 obtain ⟨k, hk⟩ := h
 obtain ⟨j, hj⟩ := h'
 have h1 := hk (k + j) (by omega)
 rw [hj (k + j) (by omega)] at h1
 exact (Option.some.inj h1).symm
theorem co_set (X : List Int) (j : Nat) (v : Int) (hj : j < X.length) (t : Nat) : co (X.set j v) t = if t = j then v else co X t := by
 unfold co
 rw [List.length_set]
 by_cases h : t < X.length
 ·rw [if_pos h, if_pos h, rd_getElem _ t (by rw [List.length_set]; exact h), rd_getElem X t h]
  by_cases e : t = j
  ·subst e; rw [if_pos rfl, List.getElem_set_self]
  ·rw [if_neg e, List.getElem_set_ne (by omega)]
 ·rw [if_neg h, if_neg h, if_neg (by omega)]
theorem co_rd (X : List Int) (t : Nat) (h : t < X.length) : rd X (t : Int) = co X t := by unfold co; rw [if_pos h]
theorem prodS_l1 (p q : List Int) (i : Nat) (a : Int) (ha : -1000000 ≤ a ∧ a ≤ 1000000) (hqb : boundB q 1000000) (hi : i < p.length) (hp : p.length ≤ 1000000) (hq : q.length ≤ 1000000) (B : Int) (hB : 0 ≤ B ∧ B ≤ 1000000000000000000) (n : Nat) : ∀ (k : Nat) (X : List Int), k ≤ q.length → q.length - k = n → i + q.length ≤ X.length → (∀ t, i + k ≤ t → -B ≤ co X t ∧ co X t ≤ B) →
 ∃ X', X'.length = X.length ∧ (∀ t, co X' t = co X t + a * (if i + k ≤ t ∧ t < i + q.length then co q (t - i) else 0)) ∧ (∀ r, Ev (fun z => spec_sgProduct.l0 z q X' p (p.length : Int) ((i + 1 : Nat) : Int)) r → Ev (fun z => spec_sgProduct.l1 z q X (i : Int) a p (p.length : Int) (i : Int) q (q.length : Int) (k : Int)) r) := by
 induction n with
 | zero =>
  intro k X hk hn hX hb
  refine ⟨X, rfl, fun t => by rw [if_neg (by omega)]; simp, fun r hr => ?_⟩
  refine Ev.step (fun z => rfl) ?_
  simp only [spec_sgProduct.l1]
  rw [wrap_next i (by omega)]
  exact Ev_if (fun h => by omega) (fun _ => hr)
 | succ n ih =>
  intro k X hk hn hX hb
  have hqk := hqb _ (rd_mem q k (by omega))
  have hm := absmul a (rd q (k : Int)) 1000000 1000000 ⟨by omega, by omega⟩ ⟨by omega, by omega⟩
  have hbx := hb (i + k) (by omega)
  have hXk := co_rd X (i + k) (by omega)
  have hqk2 := co_rd q k (by omega)
  have hv : wrap64 (rd X ((i + k : Nat) : Int) + wrap64 (a * rd q (k : Int))) = co X (i + k) + a * co q k := by
   rw [hXk, ← hqk2]
   generalize a * rd q (k : Int) = y at *
   unfold wrap64; omega
  obtain ⟨X', h1, h2, h3⟩ := ih (k + 1) (X.set (i + k) (co X (i + k) + a * co q k)) (by omega) (by omega) (by rw [List.length_set]; omega) (fun t ht => by rw [co_set X _ _ (by omega), if_neg (by omega)]; exact hb t (by omega))
  refine ⟨X', by rw [h1, List.length_set], fun t => ?_, fun r hr => ?_⟩
  ·rw [h2, co_set X _ _ (by omega)]
   by_cases e : t = i + k
   ·rw [if_pos e, if_neg (by omega), if_pos (by omega), e, show i + k - i = k by omega]; simp
   ·rw [if_neg e]
    by_cases e2 : i + (k + 1) ≤ t ∧ t < i + q.length
    ·rw [if_pos e2, if_pos (by omega)]
    ·rw [if_neg e2, if_neg (by omega)]
  ·refine Ev.step (fun z => rfl) ?_
   simp only [spec_sgProduct.l1]
   rw [wrap_next k (by omega), wrap_sum i k (by omega), Int.toNat_natCast, hv]
   exact Ev_if (fun _ => Ev_if (fun _ => Ev_if (fun _ => Ev_if (fun _ => Ev_if (fun _ => h3 r hr) (fun h => by omega)) (fun h => by omega)) (fun h => by omega)) (fun h => by omega)) (fun h => by omega)
theorem prodS_l0 (p q : List Int) (hpb : boundB p 1000000) (hqb : boundB q 1000000) (hp : p.length ≤ 100000) (hq : q.length ≤ 1000000) (n : Nat) : ∀ (i : Nat) (X : List Int), i ≤ p.length → p.length - i = n → p.length + q.length ≤ X.length + 1 → (∀ t, co X t = pmul q (cut p i) t) → (∀ t, -((i : Int) * 1000000000000) ≤ co X t ∧ co X t ≤ (i : Int) * 1000000000000) →
 ∃ X', X'.length = X.length ∧ (∀ t, co X' t = pmul q (co p) t) ∧ Ev (fun z => spec_sgProduct.l0 z q X p (p.length : Int) (i : Int)) X' := by
 have e0 : cut p p.length = co p := by
  funext t; unfold cut; split
  ·rfl
  ·rw [co_Sup p t (by omega)]
 induction n with
 | zero =>
  intro i X hi hn hX hc hb
  have e : i = p.length := by omega
  subst e
  rw [e0] at hc
  refine ⟨X, rfl, hc, ?_⟩
  refine Ev.step (fun z => rfl) ?_
  simp only [spec_sgProduct.l0]
  exact Ev_if (fun h => by omega) (fun _ => Ev.now _)
 | succ n ih =>
  intro i X hi hn hX hc hb
  have ha := hpb _ (rd_mem p i (by omega))
  have hai := co_rd p i (by omega)
  obtain ⟨X1, h1, h2, h3⟩ := prodS_l1 p q i (rd p (i : Int)) ha hqb (by omega) (by omega) hq ((i : Int) * 1000000000000) ⟨by omega, by omega⟩ q.length 0 X (by omega) (by omega) (by omega) (fun t _ => hb t)
  have hs : ∀ t, (if i + 0 ≤ t ∧ t < i + q.length then co q (t - i) else 0) = shN i (co q) t := by
   intro t
   unfold shN
   by_cases e : i ≤ t
   ·rw [if_pos e]
    by_cases e2 : t < i + q.length
    ·rw [if_pos (by omega)]
    ·rw [if_neg (by omega), co_Sup q _ (by omega)]
   ·rw [if_neg e, if_neg (by omega)]
  have hsb : ∀ t, -1000000 ≤ shN i (co q) t ∧ shN i (co q) t ≤ 1000000 := by
   intro t
   unfold shN; split
   ·exact co_bound q _ (by omega) hqb _
   ·omega
  obtain ⟨X', e1, e2, e3⟩ := ih (i + 1) X1 (by omega) (by omega) (by omega) (fun t => by rw [h2, hs, hai, hc, cut_succ]) (fun t => by
   rw [h2, hs]
   have hm := absmul (rd p (i : Int)) (shN i (co q) t) 1000000 1000000 ⟨by omega, by omega⟩ ⟨(hsb t).1, (hsb t).2⟩
   have hb1 := hb t
   generalize rd p (i : Int) * shN i (co q) t = y at *
   omega)
  refine ⟨X', by omega, e2, ?_⟩
  refine Ev.step (fun z => rfl) ?_
  simp only [spec_sgProduct.l0]
  exact Ev_if (fun _ => Ev_if (fun _ => Ev_if (fun _ => h3 _ e3) (fun h => by omega)) (fun h => by omega)) (fun h => by omega)
theorem pmul_zero (q : List Int) (k : Nat) : pmul q (fun _ => 0) k = 0 := by
 rw [show (fun _ : Nat => (0 : Int)) = fun k => 0 * (0 : Int) + 0 * (0 : Int) by funext k; simp]
 rw [pmul_lin q 0 0 (fun _ => 0) (fun _ => 0)]; simp
theorem productS (p q : List Int) (hpb : boundB p 1000000) (hqb : boundB q 1000000) (hp : 0 < p.length ∧ p.length ≤ 100000) (hq : 0 < q.length ∧ q.length ≤ 100000) : ∃ d, Ev (fun z => spec_sgProduct.f z p q) d ∧ d.length = p.length + q.length - 1 ∧ ∀ t, co d t = pmul q (co p) t := by
 obtain ⟨X', h1, h2, h3⟩ := prodS_l0 p q hpb hqb hp.2 (by omega) p.length 0 (List.replicate (p.length + q.length - 1) 0) (by omega) (by omega) (by simp; omega) (fun t => by
  rw [show cut p 0 = fun _ => (0 : Int) by funext k; simp [cut], pmul_zero]
  unfold co; split
  ·rename_i h
   rw [rd_getElem _ t h]; simp
  ·rfl) (fun t => by
  have : co (List.replicate (p.length + q.length - 1) 0) t = 0 := by
   unfold co; split
   ·rename_i h
    rw [rd_getElem _ t h]; simp
   ·rfl
  rw [this]; simp)
 rw [List.length_replicate] at h1
 refine ⟨X', ?_, h1, h2⟩
 refine Ev_if (fun h => by omega) (fun h => ?_)
 have e : ((q.length : Int) == 0) = false := by simp only [beq_eq_false_iff_ne]; omega
 rw [e]
 refine Ev.step (fun z => rfl) ?_
 simp only [spec_sgProduct.j0]
 rw [wrap_sum _ _ (by omega), show wrap64 (((p.length + q.length : Nat) : Int) - 1) = ((p.length + q.length - 1 : Nat) : Int) by unfold wrap64; omega, Int.toNat_natCast]
 exact Ev_if (fun h => by cases h) (fun _ => Ev_if (fun _ => Ev_if (fun _ => h3) (fun h => by omega)) (fun h => by omega))
theorem co_ext (a b : List Int) (hl : a.length = b.length) (h : ∀ t, co a t = co b t) : a = b := by
 apply List.ext_getElem hl
 intro t h1 h2
 have := h t
 unfold co at this
 rw [if_pos h1, if_pos h2, rd_getElem a t h1, rd_getElem b t h2] at this
 exact this
def quoF (q : List Int) (b : Int) : Nat → List Int → List Int → Option (List Int × List Int)
 | 0, R, Y => some (R, Y)
 | n + 1, R, Y => if Int.tmod (rd R ((n : Int) + (q.length : Int) - 1)) b = 0 ∧ (-1000000000 ≤ wrap64 (Int.tdiv (rd R ((n : Int) + (q.length : Int) - 1)) b) ∧ wrap64 (Int.tdiv (rd R ((n : Int) + (q.length : Int) - 1)) b) ≤ 1000000000) then quoF q b n (lessI R q (wrap64 (Int.tdiv (rd R ((n : Int) + (q.length : Int) - 1)) b)) n q.length) (Y.set n (wrap64 (Int.tdiv (rd R ((n : Int) + (q.length : Int) - 1)) b))) else none
def quoR : Option (List Int × List Int) → List Int × Bool
 | none => ([], false)
 | some (R, Y) => (Y, R.all fun x => decide (0 ≤ x ∧ x ≤ 0))
theorem quoF_ev (q : List Int) (hq : 0 < q.length ∧ q.length ≤ 1000000) (b : Int) (hbe : rd q ((q.length : Int) - 1) = b) (hb : b ≠ 0) (n : Nat) : ∀ (R Y : List Int), n + q.length ≤ R.length + 1 → R.length ≤ 1000000 → n ≤ Y.length → Y.length ≤ 1000000 → Ev (fun z => spec_sgDivide.l0 z q R Y ((n : Int) - 1)) (quoR (quoF q b n R Y)) := by
 have hw1 : wrap64 ((q.length : Int) - 1) = (q.length : Int) - 1 := by unfold wrap64; omega
 induction n with
 | zero =>
  intro R Y hR hRl hY hYl
  refine Ev.step (fun z => rfl) ?_
  simp only [spec_sgDivide.l0, quoF, quoR]
  exact Ev_if (fun h => by omega) (fun _ => Ev.bind ⟨R.length + 1, fun k hk => l1All_eq R _ _ (by omega) k (by omega)⟩ (Ev.now _))
 | succ n ih =>
  intro R Y hR hRl hY hYl
  rw [show (((n + 1 : Nat) : Int) - 1) = (n : Int) by omega]
  have hwt : wrap64 (wrap64 ((n : Int) + (q.length : Int)) - 1) = (n : Int) + (q.length : Int) - 1 := by unfold wrap64; omega
  obtain ⟨top, htop⟩ : ∃ t, rd R ((n : Int) + (q.length : Int) - 1) = t := ⟨_, rfl⟩
  obtain ⟨c, hc⟩ : ∃ c, wrap64 (Int.tdiv top b) = c := ⟨_, rfl⟩
  simp only [quoF]
  rw [htop, hc]
  have j1t : Ev (fun z => spec_sgDivide.j1 z q R Y (n : Int) top b true) ([], false) := Ev.step (f := fun _ => some ([], false)) (fun z => rfl) (Ev.now _)
  refine Ev.step (fun z => rfl) ?_
  simp only [spec_sgDivide.l0, l1In_eq, Option.bind_some]
  rw [hwt, hw1, hbe, htop, hc]
  by_cases hm : Int.tmod top b = 0
  ·refine Ev_if (fun _ => Ev_if (fun _ => Ev_if (fun _ => Ev_if (fun _ => Ev_if (fun _ => Ev_if (fun h => absurd h hb) (fun _ => Ev_if (fun _ => ?_) (fun h => absurd hm h))) (fun h => by omega)) (fun h => by omega)) (fun h => by omega)) (fun h => by omega)) (fun h => by omega)
   by_cases hin : -1000000000 ≤ c ∧ c ≤ 1000000000
   ·rw [if_pos ⟨hm, hin⟩, decide_eq_true hin]
    refine Ev.step (fun z => rfl) ?_
    simp only [spec_sgDivide.j1]
    rw [hc, Int.toNat_natCast]
    refine Ev_if (fun h => by cases h) (fun _ => Ev_if (fun h => absurd h hb) (fun _ => Ev_if (fun _ => Ev_if (fun _ => ?_) (fun h => by omega)) (fun h => by omega)))
    have hl := (quotE_l1 q b R (Y.set n c) n c (by rw [rd_getElem _ n (by rw [List.length_set]; omega), List.getElem_set_self]) hq.2 (by rw [List.length_set]; omega) (by rw [List.length_set]; omega) (by omega) q.length 0 (by omega) (by omega)).1 _ (ih (lessI R q c n q.length) (Y.set n c) (by rw [lessI_length]; omega) (by rw [lessI_length]; omega) (by rw [List.length_set]; omega) (by rw [List.length_set]; omega))
    rw [lessI_zero] at hl
    exact hl
   ·rw [if_neg (fun h => hin h.2), decide_eq_false hin]
    exact j1t
  ·rw [if_neg (fun h => hm h.1)]
   exact Ev_if (fun _ => Ev_if (fun _ => Ev_if (fun _ => Ev_if (fun _ => Ev_if (fun _ => Ev_if (fun h => absurd h hb) (fun _ => Ev_if (fun h => absurd h hm) (fun _ => j1t))) (fun h => by omega)) (fun h => by omega)) (fun h => by omega)) (fun h => by omega)) (fun h => by omega)
theorem quoF_sum (q : List Int) (hq : 0 < q.length) (hqb : boundB q 1000000) (b : Int) (n : Nat) : ∀ (R Y R' Y' : List Int) (B : Int), 0 ≤ B → B + (n : Int) * 1000000000000000 ≤ 1000000000000000000 → n + q.length ≤ R.length + 1 → n ≤ Y.length → (∀ t, -B ≤ co R t ∧ co R t ≤ B) → quoF q b n R Y = some (R', Y') →
 R'.length = R.length ∧ Y'.length = Y.length ∧ (∀ j, n ≤ j → co Y' j = co Y j) ∧ ∀ k, co R k = co R' k + pmul q (cut Y' n) k := by
 induction n with
 | zero =>
  intro R Y R' Y' B _ _ _ _ _ h
  simp only [quoF] at h
  obtain ⟨rfl, rfl⟩ := Prod.mk.inj (Option.some.inj h)
  refine ⟨rfl, rfl, fun _ _ => rfl, fun k => ?_⟩
  rw [show cut Y 0 = fun _ => (0 : Int) by funext k; simp [cut], pmul_zero]; omega
 | succ n ih =>
  intro R Y R' Y' B hB0 hB hR hY hb h
  obtain ⟨c, hc⟩ : ∃ c, wrap64 (Int.tdiv (rd R ((n : Int) + (q.length : Int) - 1)) b) = c := ⟨_, rfl⟩
  simp only [quoF] at h
  rw [hc] at h
  by_cases hcond : Int.tmod (rd R ((n : Int) + (q.length : Int) - 1)) b = 0 ∧ (-1000000000 ≤ c ∧ c ≤ 1000000000)
  ·rw [if_pos hcond] at h
   have hcb := hcond.2
   have hmul : ∀ j, -1000000000000000 ≤ co q j * c ∧ co q j * c ≤ 1000000000000000 := by
    intro j
    have hqj := co_bound q 1000000 (by omega) hqb j
    exact absmul (co q j) c 1000000 1000000000 ⟨by omega, by omega⟩ ⟨by omega, by omega⟩
   have hval : ∀ t, co (lessI R q c n q.length) t = co R t - c * shN n (co q) t := by
    intro t
    unfold shN
    by_cases ht : t < R.length
    ·have e1 : co (lessI R q c n q.length) t = rd (lessI R q c n q.length) (t : Int) := (co_rd _ t (by rw [lessI_length]; exact ht)).symm
     rw [e1, lessI_rd R q c n q.length t ht, co_rd R t ht]
     by_cases h1 : n ≤ t
     ·rw [if_pos h1]
      by_cases h2 : t < n + q.length
      ·rw [if_pos ⟨h1, h2⟩, co_rd q (t - n) (by omega)]
       have hb1 := hb t
       have hm := hmul (t - n)
       rw [Int.mul_comm c]
       generalize co q (t - n) * c = y at *
       have hn1 : (0 : Int) ≤ (n : Int) * 1000000000000000 := by omega
       unfold wrap64; omega
      ·rw [if_neg (by omega), co_Sup q (t - n) (by omega)]; simp
     ·rw [if_neg h1, if_neg (by omega)]; simp
    ·have e1 : co (lessI R q c n q.length) t = 0 := co_Sup _ t (by rw [lessI_length]; omega)
     rw [e1, co_Sup R t (by omega)]
     by_cases h1 : n ≤ t
     ·rw [if_pos h1, co_Sup q (t - n) (by omega)]; simp
     ·rw [if_neg h1]; simp
   have hB2 : B + 1000000000000000 + (n : Int) * 1000000000000000 ≤ 1000000000000000000 := by
    rw [show ((n + 1 : Nat) : Int) = (n : Int) + 1 by omega] at hB; omega
   obtain ⟨i1, i2, i3, i4⟩ := ih (lessI R q c n q.length) (Y.set n c) R' Y' (B + 1000000000000000) (by omega) hB2 (by rw [lessI_length]; omega) (by rw [List.length_set]; omega) (fun t => by
    rw [hval]
    have hb1 := hb t
    have : -1000000000000000 ≤ c * shN n (co q) t ∧ c * shN n (co q) t ≤ 1000000000000000 := by
     unfold shN; split
     ·rw [Int.mul_comm]; exact hmul _
     ·simp
    omega) h
   rw [lessI_length] at i1
   rw [List.length_set] at i2
   have hYn : co Y' n = c := by rw [i3 n (Nat.le_refl _), co_set Y n c (by omega), if_pos rfl]
   refine ⟨i1, i2, fun j hj => by rw [i3 j (by omega), co_set Y n c (by omega), if_neg (by omega)], fun k => ?_⟩
   have h4 := i4 k
   rw [hval] at h4
   rw [cut_succ, hYn]
   omega
  ·rw [if_neg hcond] at h; cases h
def GD (c : Bool) (r : List Int × Bool) : List Int × Bool := if c = true then (if r.2 = true then (if goodB r.1 = true then (r.1, true) else ([], false)) else ([], false)) else ([], false)
theorem GD_true {c : Bool} {r : List Int × Bool} {x : List Int} (h : GD c r = (x, true)) : c = true ∧ r.2 = true ∧ r.1 = x ∧ goodB x = true := by
 unfold GD at h
 by_cases h1 : c = true
 ·rw [if_pos h1] at h
  by_cases h2 : r.2 = true
  ·rw [if_pos h2] at h
   by_cases h3 : goodB r.1 = true
   ·rw [if_pos h3] at h
    have e := (Prod.mk.inj h).1
    exact ⟨h1, h2, e, e ▸ h3⟩
   ·rw [if_neg h3] at h; cases (Prod.mk.inj h).2
  ·rw [if_neg h2] at h; cases (Prod.mk.inj h).2
 ·rw [if_neg h1] at h; cases (Prod.mk.inj h).2
theorem GD_ev {g : Nat → Option (List Int × Bool)} {r : List Int × Bool} (h : Ev g r) (hl : r.1.length ≤ 1000000) : Ev (fun z => (g z).bind fun bt => if bt.2 = true then (spec_sgGood.f z bt.1).bind fun t => if t = true then some (bt.1, true) else some (([] : List Int), false) else some (([] : List Int), false)) (GD true r) := by
 refine Ev.bind h ?_
 unfold GD
 rw [if_pos rfl]
 refine Ev_if (fun h2 => ?_) (fun h2 => by rw [if_neg h2]; exact Ev.now _)
 rw [if_pos h2]
 refine Ev.bind (sgGood_ev _ hl) (Ev_if (fun h3 => by rw [if_pos h3]; exact Ev.now _) (fun h3 => by rw [if_neg h3]; exact Ev.now _))
def G2 (p q : List Int) (c : Bool) : Bool := goodB p && (goodB q && c)
theorem G2_ev {g f : Nat → Option (List Int × Bool)} (p q : List Int) (hp : p.length ≤ 1000000) (hq : q.length ≤ 1000000) (c : Bool) (r : List Int × Bool) (hno : Ev g ([], false)) (hc : c = false → Ev f ([], false)) (hy : goodB p = true → goodB q = true → c = true → Ev f (GD true r)) :
 Ev (fun k => (spec_sgGood.f k p).bind fun t => if t = true then (spec_sgGood.f k q).bind fun t => if t = true then f k else g k else g k) (GD (G2 p q c) r) := by
 refine Ev.bind (sgGood_ev p hp) ?_
 unfold G2
 cases hgp : goodB p with
 | false => exact Ev_if (fun h => by cases h) (fun _ => hno)
 | true =>
  refine Ev_if (fun _ => Ev.bind (sgGood_ev q hq) ?_) (fun h => (h (by trivial)).elim)
  cases hgq : goodB q with
  | false => exact Ev_if (fun h => by cases h) (fun _ => hno)
  | true =>
   refine Ev_if (fun _ => ?_) (fun h => (h (by trivial)).elim)
   cases hcc : c with
   | false => exact hc hcc
   | true => exact hy hgp hgq hcc
def RM (p q : List Int) : List Int × Bool := GD (G2 p q (decide (0 < q.length))) (remF p q)
theorem rem_ops (p q : List Int) (hp : p.length ≤ 1000000) (hq : q.length ≤ 1000000) : Ev (fun k => spec_RemainderOf.f k p q) (RM p q) ∧ Ev (fun k => impl_RemainderOf.f k p q) (RM p q) := by
 have hs : Ev (fun k => spec_RemainderOf.f k p q) (RM p q) := by
  have jt : Ev (fun k => spec_RemainderOf.j0 k p q true) ([], false) := Ev.step (f := fun _ => some ([], false)) (fun z => rfl) (Ev.now _)
  unfold spec_RemainderOf.f
  refine G2_ev p q hp hq _ _ jt (fun h => ?_) (fun h1 h2 h3 => ?_)
  ·have : ((q.length : Int) == 0) = true := by
    have := of_decide_eq_false h
    simp only [beq_iff_eq]; omega
   rw [this]; exact jt
  ·have h0 := of_decide_eq_true h3
   have : ((q.length : Int) == 0) = false := by simp only [beq_eq_false_iff_ne]; omega
   rw [this]
   have e := remF_ev p q hp hq h0 (good_bound9 p h1) (good_tight p h1) (good_bound9 q h2) (good_tight q h2)
   have hl : (remF p q).1.length ≤ 1000000 := by
    cases hb : (remF p q).2 with
    | true => have := (e.2.2.1 hb).1; omega
    | false => rw [e.2.2.2 hb]; simp
   refine Ev.step (fun z => rfl) ?_
   simp only [spec_RemainderOf.j0]
   exact Ev_if (fun h => by cases h) (fun _ => GD_ev e.1 hl)
 obtain ⟨r1, r2, h1, h2, _⟩ := RemainderOf_both p q hp hq
 rw [Ev_uniq h1 hs] at h2
 exact ⟨hs, h2⟩
def CM (p q : List Int) : List Int × Bool := GD (G2 p q (decide (0 < p.length + q.length))) (comL q.length p q)
theorem com_ops (p q : List Int) (hp : p.length ≤ 1000000) (hq : q.length ≤ 1000000) : Ev (fun k => spec_CommonDivisor.f k p q) (CM p q) ∧ Ev (fun k => impl_CommonDivisor.f k p q) (CM p q) := by
 have ew : goodB p = true → goodB q = true → wrap64 ((p.length : Int) + (q.length : Int)) = (p.length : Int) + (q.length : Int) := fun h1 h2 => by
  have := good_length p h1
  have := good_length q h2
  unfold wrap64; omega
 have ew2 : wrap64 ((p.length : Int) + (q.length : Int)) = (p.length : Int) + (q.length : Int) := by unfold wrap64; omega
 have hs : Ev (fun k => spec_CommonDivisor.f k p q) (CM p q) := by
  have jt : Ev (fun k => spec_CommonDivisor.j0 k p q true) ([], false) := Ev.step (f := fun _ => some ([], false)) (fun z => rfl) (Ev.now _)
  unfold spec_CommonDivisor.f
  rw [ew2]
  refine G2_ev p q hp hq _ _ jt (fun h => ?_) (fun h1 h2 h3 => ?_)
  ·have : ((p.length : Int) + (q.length : Int) == 0) = true := by
    have := of_decide_eq_false h
    simp only [beq_iff_eq]; omega
   rw [this]; exact jt
  ·have h0 := of_decide_eq_true h3
   have : ((p.length : Int) + (q.length : Int) == 0) = false := by simp only [beq_eq_false_iff_ne]; omega
   rw [this]
   have e : Ev (fun z => spec_sgCommon.f z p q) (comL q.length p q) := (comL_ev q.length p q (Nat.le_refl _) hp hq (good_bound9 p h1) (good_tight p h1) (good_bound9 q h2) (good_tight q h2)).1
   obtain ⟨r, ok, f1, f2, f3, f4⟩ := common_loop q.length p q (Nat.le_refl _) hp hq (good_bound9 p h1) (good_tight p h1) (good_bound9 q h2) (good_tight q h2)
   have f1 : Ev (fun z => spec_sgCommon.f z p q) (r, ok) := f1
   have hl : (comL q.length p q).1.length ≤ 1000000 := by
    rw [Ev_uniq e f1]
    cases ok with
    | true => have := f3 rfl; have := good_length p h1; have := good_length q h2; simp only; omega
    | false => rw [f4 rfl]; simp
   refine Ev.step (fun z => rfl) ?_
   simp only [spec_CommonDivisor.j0]
   exact Ev_if (fun h => by cases h) (fun _ => GD_ev e hl)
 obtain ⟨r1, r2, h1, h2, _⟩ := CommonDivisor_both p q hp hq
 rw [Ev_uniq h1 hs] at h2
 exact ⟨hs, h2⟩
def QF (p q : List Int) : List Int × Bool := if p.length < q.length then ([], (p.length : Int) == 0) else quoR (quoF q (rd q ((q.length : Int) - 1)) (p.length - q.length + 1) p (List.replicate (p.length - q.length + 1) 0))
theorem quoF_len (q : List Int) (b : Int) (n : Nat) : ∀ (R Y R' Y' : List Int), quoF q b n R Y = some (R', Y') → Y'.length = Y.length := by
 induction n with
 | zero =>
  intro R Y R' Y' h
  simp only [quoF] at h
  obtain ⟨rfl, rfl⟩ := Prod.mk.inj (Option.some.inj h)
  rfl
 | succ n ih =>
  intro R Y R' Y' h
  simp only [quoF] at h
  split at h
  ·rw [ih _ _ _ _ h, List.length_set]
  ·cases h
theorem QF_ev (p q : List Int) (hp : p.length ≤ 1000) (hq : 0 < q.length ∧ q.length ≤ 1000) (hb : rd q ((q.length : Int) - 1) ≠ 0) : Ev (fun z => spec_sgDivide.f z p q) (QF p q) ∧ (QF p q).1.length ≤ 1000000 := by
 have hw1 : wrap64 ((q.length : Int) - 1) = (q.length : Int) - 1 := by unfold wrap64; omega
 unfold QF
 by_cases hlt : p.length < q.length
 ·rw [if_pos hlt]
  exact ⟨Ev_if (fun _ => Ev.now _) (fun h => by omega), by simp⟩
 ·rw [if_neg hlt]
  obtain ⟨N, hN⟩ : ∃ N, p.length - q.length + 1 = N := ⟨_, rfl⟩
  rw [hN]
  have hdl : wrap64 (wrap64 ((p.length : Int) - (q.length : Int)) + 1) = (N : Int) := by unfold wrap64; omega
  have hbig : N ≤ 35184372088832 := by omega
  constructor
  ·unfold spec_sgDivide.f
   refine Ev_if (fun h => by omega) (fun _ => Ev_bindS (own_eq p (by omega)) ?_)
   rw [hdl, Int.toNat_natCast]
   refine Ev_if (fun _ => Ev_if (fun _ => Ev_bindS rfl ?_) (fun h => absurd hbig h)) (fun h => by omega)
   rw [List.length_replicate, show wrap64 ((N : Int) - 1) = (N : Int) - 1 by unfold wrap64; omega]
   exact quoF_ev q ⟨hq.1, by omega⟩ _ rfl hb N p (List.replicate N 0) (by omega) (by omega) (by simp) (by simp; omega)
  ·cases hf : quoF q (rd q ((q.length : Int) - 1)) N p (List.replicate N 0) with
   | none => simp [quoR]
   | some x =>
    obtain ⟨R', Y'⟩ := x
    have := quoF_len _ _ _ _ _ _ _ hf
    simp [quoR]
    rw [this]; simp; omega
def QT (p q : List Int) : List Int × Bool := GD (G2 p q (decide (0 < q.length))) (QF p q)
theorem quo_ops (p q : List Int) (hp : p.length ≤ 1000000) (hq : q.length ≤ 1000000) : Ev (fun k => spec_QuotientOf.f k p q) (QT p q) ∧ Ev (fun k => impl_QuotientOf.f k p q) (QT p q) := by
 have hs : Ev (fun k => spec_QuotientOf.f k p q) (QT p q) := by
  have jt : Ev (fun k => spec_QuotientOf.j0 k p q true) ([], false) := Ev.step (f := fun _ => some ([], false)) (fun z => rfl) (Ev.now _)
  unfold spec_QuotientOf.f
  refine G2_ev p q hp hq _ _ jt (fun h => ?_) (fun h1 h2 h3 => ?_)
  ·have : ((q.length : Int) == 0) = true := by
    have := of_decide_eq_false h
    simp only [beq_iff_eq]; omega
   rw [this]; exact jt
  ·have h0 := of_decide_eq_true h3
   have : ((q.length : Int) == 0) = false := by simp only [beq_eq_false_iff_ne]; omega
   rw [this]
   have hp9 := good_length p h1
   have hq9 := good_length q h2
   have e := QF_ev p q (by omega) ⟨h0, by omega⟩ (good_last q h2 h0)
   refine Ev.step (fun z => rfl) ?_
   simp only [spec_QuotientOf.j0]
   exact Ev_if (fun h => by cases h) (fun _ => GD_ev e.1 e.2)
 obtain ⟨r1, r2, h1, h2, _⟩ := QuotientOf_both p q hp hq
 rw [Ev_uniq h1 hs] at h2
 exact ⟨hs, h2⟩
theorem sgIf_ev (d : List Int) (hd : d.length ≤ 1000000) : Ev (fun z => spec_sgIf.f z d) (GD true (trimI d, true)) := by
 unfold GD
 rw [if_pos rfl, if_pos rfl]
 refine Ev.bind (sgTrim_eq _ d rfl hd) (Ev.bind (sgGood_ev _ (by have := trimI_length d; omega)) (Ev_if (fun h => by rw [if_pos h]; exact Ev.now _) (fun h => by rw [if_neg h]; exact Ev.now _)))
theorem mul_ops (p q : List Int) (hp : p.length ≤ 1000000) (hq : q.length ≤ 1000000) : ∃ r, Ev (fun k => spec_MultiplySingle.f k p q) r ∧ Ev (fun k => impl_MultiplySingle.f k p q) r ∧ r.1.length ≤ 1000000 ∧
 (r.2 = true → goodB p = true ∧ goodB q = true ∧ goodB r.1 = true) ∧
 (goodB p = true → goodB q = true → 0 < p.length → 0 < q.length → ∃ d, d.length = p.length + q.length - 1 ∧ (∀ t, co d t = pmul q (co p) t) ∧ r = GD true (trimI d, true)) ∧
 (goodB p = true → goodB q = true → (p.length = 0 ∨ q.length = 0) → r = ([], true)) := by
 obtain ⟨r1, r2, h1, h2, h3⟩ := MultiplySingle_both p q hp hq
 have jt : Ev (fun k => spec_MultiplySingle.j0 k p q true) ([], false) := Ev.step (f := fun _ => some ([], false)) (fun z => rfl) (Ev.now _)
 have hyes : ∀ d, goodB p = true → goodB q = true → Ev (fun z => spec_sgProduct.f z p q) d → d.length ≤ 1000000 → Ev (fun k => spec_MultiplySingle.f k p q) (GD true (trimI d, true)) := by
  intro d hgp hgq hd hl
  refine Ev.bind (sgGood_ev p hp) ?_; rw [hgp]
  refine Ev_if (fun _ => Ev.bind (sgGood_ev q hq) ?_) (fun h => (h (by trivial)).elim); rw [hgq]
  refine Ev.step (fun z => rfl) ?_
  simp only [spec_MultiplySingle.j0]
  exact Ev_if (fun h => by cases h) (fun _ => Ev.bind hd (Ev.bind (sgIf_ev d hl) (Ev.now _)))
 refine ⟨(r1, r2), h1, h2, h3, fun ht => ?_, fun hgp hgq h4 h5 => ?_, fun hgp hgq h4 => ?_⟩
 ·simp only at ht
  subst ht
  have hno : (goodB p = false ∨ goodB q = false) → Ev (fun k => spec_MultiplySingle.f k p q) ([], false) := by
   intro h
   refine Ev.bind (sgGood_ev p hp) ?_
   refine Ev_if (fun hg => Ev.bind (sgGood_ev q hq) ?_) (fun _ => jt)
   have e : goodB q = false := h.resolve_left (by rw [hg]; decide)
   rw [e]; exact jt
  cases hgp : goodB p with
  | false => have := Ev_uniq h1 (hno (.inl hgp)); cases (Prod.mk.inj this).2
  | true =>
   cases hgq : goodB q with
   | false => have := Ev_uniq h1 (hno (.inr hgq)); cases (Prod.mk.inj this).2
   | true =>
    have hp9 := good_length p hgp
    have hq9 := good_length q hgq
    obtain ⟨d, e1, _, e3⟩ := product_ev p q (by omega) (by omega)
    have := Ev_uniq h1 (hyes d hgp hgq e1 e3)
    exact ⟨rfl, rfl, (GD_true this.symm).2.2.2⟩
 ·have hp9 := good_length p hgp
  have hq9 := good_length q hgq
  obtain ⟨d, e1, e2, e3⟩ := productS p q (good_bound p hgp) (good_bound q hgq) ⟨h4, by omega⟩ ⟨h5, by omega⟩
  exact ⟨d, e2, e3, Ev_uniq h1 (hyes d hgp hgq e1 (by omega))⟩
 ·have e1 : Ev (fun z => spec_sgProduct.f z p q) [] := by
   refine Ev_if (fun _ => Ev.step (f := fun _ => some []) (fun z => rfl) (Ev.now _)) (fun h => ?_)
   have e : ((q.length : Int) == 0) = true := by simp only [beq_iff_eq]; omega
   rw [e]; exact Ev.step (f := fun _ => some []) (fun z => rfl) (Ev.now _)
  have := Ev_uniq h1 (hyes [] hgp hgq e1 (by simp))
  rw [this]; rfl
def BY (c : List Int) : Prop := ∀ x ∈ c, 0 ≤ x ∧ x < 256
theorem and255 (a : Int) : 0 ≤ Go.bits .and .u64 a 255 ∧ Go.bits .and .u64 a 255 ≤ 255 := by
 have h64 : IntKind.u64.bits = 64 := rfl
 have e : (BitVec.ofInt IntKind.u64.bits 255).toNat = 255 := by decide
 unfold Go.bits
 simp only [BitVec.toNat_and, e]
 have h : (BitVec.ofInt IntKind.u64.bits a).toNat &&& 255 ≤ 255 := Nat.and_le_right
 rw [u64r _ ⟨by omega, by omega⟩]
 omega
theorem and255w (a : Int) : 0 ≤ wrap64 (Go.bits .and .u64 a 255) ∧ wrap64 (Go.bits .and .u64 a 255) < 256 := by
 have := and255 a
 generalize Go.bits .and .u64 a 255 = y at *
 unfold wrap64; omega
theorem cur_next (c : List Int) (hc : BY c) (a s : Int) (h : 0 ≤ a ∧ a ≤ 4611686018427387904) : ∃ r s', spec_l1Cur_next.f c a s = some (r, a + 1, s') ∧ 0 ≤ r ∧ r < 256 := by
 have w1 : wrap64 (a + 1) = a + 1 := by unfold wrap64; omega
 have hr : a < (c.length : Int) → 0 ≤ rd c a ∧ rd c a < 256 := by
  intro hl
  obtain ⟨i, rfl⟩ := Int.eq_ofNat_of_zero_le h.1
  exact hc _ (rd_mem c i (by omega))
 unfold spec_l1Cur_next.f
 rw [w1]
 by_cases h1 : a < (c.length : Int)
 ·have hr := hr h1
  rw [if_pos h1, if_pos h.1]
  by_cases h2 : a + 1 ≤ (c.length : Int)
  ·rw [if_pos h2]
   exact ⟨_, _, rfl, by unfold wrap64; omega, by unfold wrap64; omega⟩
  ·rw [if_neg h2]
   exact ⟨_, _, rfl, (and255w _).1, (and255w _).2⟩
 ·rw [if_neg h1]
  by_cases h2 : a + 1 ≤ (c.length : Int)
  ·rw [if_pos h2]; exact ⟨_, _, rfl, by omega, by omega⟩
  ·rw [if_neg h2]
   exact ⟨_, _, rfl, (and255w _).1, (and255w _).2⟩
theorem cur_pick (c : List Int) (hc : BY c) (a s n M : Int) (h : 0 ≤ a ∧ a ≤ M) (hM : M ≤ 4000000000000000000) (hn : 1 ≤ n) : ∃ r a' s', spec_l1Cur_pick.f c a s n = some (r, a', s') ∧ (0 ≤ r ∧ r < n) ∧ (0 ≤ a' ∧ a' ≤ M + 2) := by
 have tm : ∀ x : Int, 0 ≤ x → 0 ≤ Int.tmod x n ∧ Int.tmod x n < n := fun x hx => ⟨Int.tmod_nonneg n hx, Int.tmod_lt_of_pos x (by omega)⟩
 unfold spec_l1Cur_pick.f
 by_cases h1 : n ≤ 1
 ·rw [if_pos h1]; exact ⟨_, _, _, rfl, ⟨by omega, by omega⟩, ⟨h.1, by omega⟩⟩
 ·rw [if_neg h1]
  obtain ⟨r, s1, e1, r0, r1⟩ := cur_next c hc a s ⟨h.1, by omega⟩
  rw [e1, Option.bind_some]
  by_cases h2 : n > 200
  ·rw [if_pos h2]
   obtain ⟨q, s2, e2, q0, q1⟩ := cur_next c hc (a + 1) s1 ⟨by omega, by omega⟩
   simp only
   rw [e2, Option.bind_some, if_neg (by omega)]
   exact ⟨_, a + 1 + 1, s2, rfl, tm _ (by unfold wrap64; omega), ⟨by omega, by omega⟩⟩
  ·rw [if_neg h2, if_neg (by omega)]
   exact ⟨_, a + 1, s1, rfl, tm _ r0, ⟨by omega, by omega⟩⟩
theorem cur_among (c : List Int) (hc : BY c) (a s M : Int) (l : List Int) (h : 0 ≤ a ∧ a ≤ M) (hM : M ≤ 4000000000000000000) (hl : 1 ≤ l.length) : ∃ r a' s', spec_l1Cur_among.f c a s l = some (r, a', s') ∧ r ∈ l ∧ (0 ≤ a' ∧ a' ≤ M + 2) := by
 obtain ⟨i, a', s', e, hi, ha⟩ := cur_pick c hc a s (l.length : Int) M h hM (by omega)
 unfold spec_l1Cur_among.f
 rw [e, Option.bind_some, if_pos hi.1, if_pos hi.2]
 refine ⟨_, _, _, rfl, ?_, ha⟩
 obtain ⟨j, rfl⟩ := Int.eq_ofNat_of_zero_le hi.1
 exact rd_mem l j (by omega)
theorem cur_one (c : List Int) (hc : BY c) (a s n M : Int) (h : 0 ≤ a ∧ a ≤ M) (hM : M ≤ 4000000000000000000) (hn : 1 ≤ n) : ∃ r a' s', spec_l1Cur_one.f c a s n = some (r, a', s') ∧ (0 ≤ a' ∧ a' ≤ M + 2) := by
 obtain ⟨i, a', s', e, hi, ha⟩ := cur_pick c hc a s n M h hM hn
 unfold spec_l1Cur_one.f
 rw [e, Option.bind_some]
 exact ⟨_, _, _, rfl, ha⟩
theorem product_len (p q : List Int) (hp : p.length ≤ 500000) (hq : q.length ≤ 500000) : ∃ d, Ev (fun z => spec_sgProduct.f z p q) d ∧ d.length ≤ p.length + q.length - 1 := by
 by_cases he : p.length = 0 ∨ q.length = 0
 ·refine ⟨[], ?_, by simp⟩
  refine Ev_if (fun _ => Ev.step (f := fun _ => some []) (fun z => rfl) (Ev.now _)) (fun h => ?_)
  have e : ((q.length : Int) == 0) = true := by simp only [beq_iff_eq]; omega
  rw [e]; exact Ev.step (f := fun _ => some []) (fun z => rfl) (Ev.now _)
 ·obtain ⟨X', h1, h2, h3⟩ := prod_l0 p q (by omega) (by omega) p.length 0 (List.replicate (p.length + q.length - 1) 0) (by omega) (by omega) (by simp; omega)
  rw [List.length_replicate] at h1
  refine ⟨X', ?_, by omega⟩
  refine Ev_if (fun h => by omega) (fun h => ?_)
  have e : ((q.length : Int) == 0) = false := by simp only [beq_eq_false_iff_ne]; omega
  rw [e]
  refine Ev.step (fun z => rfl) ?_
  simp only [spec_sgProduct.j0]
  rw [wrap_sum _ _ (by omega), show wrap64 (((p.length + q.length : Nat) : Int) - 1) = ((p.length + q.length - 1 : Nat) : Int) by unfold wrap64; omega, Int.toNat_natCast]
  exact Ev_if (fun h => by cases h) (fun _ => Ev_if (fun _ => Ev_if (fun _ => h2) (fun h => by omega)) (fun h => by omega))
theorem sgl_j4 (x c : List Int) (a s : Int) (hx : x.length ≤ 1000000) : ∃ p, Ev (fun z => spec_l1Cur_single.j4 z x c a s) (p, a, s) ∧ goodB p = true := by
 cases hg : goodB (trimI x) with
 | true =>
  refine ⟨trimI x, ?_, hg⟩
  refine Ev.step (fun z => rfl) ?_
  simp only [spec_l1Cur_single.j4]
  refine Ev.bind (sgTrim_eq _ x rfl hx) (Ev.bind (sgGood_ev _ (by have := trimI_length x; omega)) ?_)
  rw [hg]; exact Ev_if (fun _ => Ev.now _) (fun h => (h (by trivial)).elim)
 | false =>
  refine ⟨[(-2), 0, 1], ?_, by decide⟩
  refine Ev.step (fun z => rfl) ?_
  simp only [spec_l1Cur_single.j4]
  refine Ev.bind (sgTrim_eq _ x rfl hx) (Ev.bind (sgGood_ev _ (by have := trimI_length x; omega)) ?_)
  rw [hg]; exact Ev_if (fun h => by cases h) (fun _ => Ev.now _)
theorem sgl_j3 (x c : List Int) (hc : BY c) (a s M : Int) (h : 0 ≤ a ∧ a ≤ M) (hM : M ≤ 3000000000000000000) (hx : x.length ≤ 900000) : ∃ p a' s', Ev (fun z => spec_l1Cur_single.j3 z x c a s) (p, a', s') ∧ goodB p = true ∧ (0 ≤ a' ∧ a' ≤ M + 4) := by
 obtain ⟨b, a1, s1, e1, q1⟩ := cur_one c hc a s 20 M h (by omega) (by omega)
 cases b with
 | false =>
  obtain ⟨p, f1, f2⟩ := sgl_j4 x c a1 s1 (by omega)
  refine ⟨p, a1, s1, ?_, f2, by omega⟩
  refine Ev.step (fun z => rfl) ?_
  simp only [spec_l1Cur_single.j3]
  exact Ev_bindS e1 (Ev_if (fun h => by cases h) (fun _ => f1))
 | true =>
  obtain ⟨r, a2, s2, e2, _, q2⟩ := cur_among c hc a1 s1 (M + 2) [1000000, (-1000000)] q1 (by omega) (by decide)
  obtain ⟨p, f1, f2⟩ := sgl_j4 (x ++ [r]) c a2 s2 (by simp; omega)
  refine ⟨p, a2, s2, ?_, f2, by omega⟩
  refine Ev.step (fun z => rfl) ?_
  simp only [spec_l1Cur_single.j3]
  exact Ev_bindS e1 (Ev_if (fun _ => Ev_bindS e2 (Ev_if (fun _ => f1) (fun h => by omega))) (fun h => (h (by trivial)).elim))
theorem sgl_l1 (c : List Int) (hc : BY c) (n : Nat) : ∀ (x : List Int) (a s M : Int), 9 - x.length = n → x.length ≤ 9 → (0 ≤ a ∧ a ≤ M) → M + 4 * (n : Int) ≤ 2000000000000000000 → ∃ p a' s', Ev (fun z => spec_l1Cur_single.l1 z x c a s) (p, a', s') ∧ goodB p = true ∧ (0 ≤ a' ∧ a' ≤ M + 4 * (n : Int) + 4) := by
 induction n with
 | zero =>
  intro x a s M hn hx h hM
  obtain ⟨p, a', s', e1, e2, e3⟩ := sgl_j3 x c hc a s M h (by omega) (by omega)
  refine ⟨p, a', s', ?_, e2, by omega⟩
  refine Ev.step (fun z => rfl) ?_
  simp only [spec_l1Cur_single.l1]
  exact Ev_if (fun h => by omega) (fun _ => e1)
 | succ n ih =>
  intro x a s M hn hx h hM
  obtain ⟨r1, a1, s1, e1, p1, q1⟩ := cur_pick c hc a s 60000 M h (by omega) (by omega)
  obtain ⟨r2, a2, s2, e2, p2, q2⟩ := cur_among c hc a1 s1 (M + 2) [0, 1, (-1), 5, wrap64 (r1 - 30000)] q1 (by omega) (by simp)
  obtain ⟨p, a', s', f1, f2, f3⟩ := ih (x ++ [r2]) a2 s2 (M + 2 + 2) (by simp; omega) (by simp; omega) q2 (by omega)
  refine ⟨p, a', s', ?_, f2, by omega⟩
  refine Ev.step (fun z => rfl) ?_
  simp only [spec_l1Cur_single.l1]
  exact Ev_if (fun _ => Ev_bindS e1 (Ev_bindS e2 (Ev_if (fun _ => f1) (fun h => by omega)))) (fun h => by omega)
theorem sgl_l0 (c : List Int) (hc : BY c) (n : Nat) : ∀ (x : List Int) (a s M : Int), n ≤ 10 → x.length + n ≤ 1000 → (0 ≤ a ∧ a ≤ M) → M + 8 * (n : Int) ≤ 1000000000000000000 → ∃ p a' s', Ev (fun z => spec_l1Cur_single.l0 z x (n : Int) c a s) (p, a', s') ∧ goodB p = true ∧ (0 ≤ a' ∧ a' ≤ M + 8 * (n : Int) + 50) := by
 induction n with
 | zero =>
  intro x a s M hn hx h hM
  obtain ⟨b, a1, s1, e1, q1⟩ := cur_one c hc a s 12 M h (by omega) (by omega)
  cases b with
  | true =>
   obtain ⟨p, a', s', f1, f2, f3⟩ := sgl_l1 c hc 9 [] a1 s1 (M + 2) (by simp) (by simp) q1 (by omega)
   refine ⟨p, a', s', ?_, f2, by omega⟩
   refine Ev.step (fun z => rfl) ?_
   simp only [spec_l1Cur_single.l0]
   exact Ev_if (fun h => by omega) (fun _ => Ev_bindS e1 (Ev_if (fun _ => f1) (fun h => (h (by trivial)).elim)))
  | false =>
   obtain ⟨p, a', s', f1, f2, f3⟩ := sgl_j3 x c hc a1 s1 (M + 2) q1 (by omega) (by omega)
   refine ⟨p, a', s', ?_, f2, by omega⟩
   refine Ev.step (fun z => rfl) ?_
   simp only [spec_l1Cur_single.l0]
   exact Ev_if (fun h => by omega) (fun _ => Ev_bindS e1 (Ev_if (fun h => by cases h) (fun _ => f1)))
 | succ n ih =>
  intro x a s M hn hx h hM
  have hw : wrap64 (((n + 1 : Nat) : Int) - 1) = (n : Int) := by unfold wrap64; omega
  have j1 : ∀ (y : List Int) (a s M2 : Int), y.length ≤ x.length + 1 → (0 ≤ a ∧ a ≤ M2) → M2 ≤ M + 8 → ∃ p a' s', Ev (fun z => spec_l1Cur_single.j1 z x ((n + 1 : Nat) : Int) y c a s) (p, a', s') ∧ goodB p = true ∧ (0 ≤ a' ∧ a' ≤ M + 8 * ((n + 1 : Nat) : Int) + 50) := by
   intro y a s M2 hy ha hM2
   have hg := sgGood_ev (trimI y) (by have := trimI_length y; omega)
   have ht := sgTrim_eq _ y rfl (by omega)
   cases hb : goodB (trimI y) with
   | true =>
    obtain ⟨p, a', s', f1, f2, f3⟩ := ih y a s (M + 8) (by omega) (by omega) ⟨ha.1, by omega⟩ (by omega)
    refine ⟨p, a', s', ?_, f2, by omega⟩
    refine Ev.step (fun z => rfl) ?_
    simp only [spec_l1Cur_single.j1]
    rw [hw]
    refine Ev.bind ht (Ev.bind hg ?_)
    rw [hb]; exact Ev_if (fun _ => f1) (fun h => (h (by trivial)).elim)
   | false =>
    obtain ⟨p, a', s', f1, f2, f3⟩ := ih x a s (M + 8) (by omega) (by omega) ⟨ha.1, by omega⟩ (by omega)
    refine ⟨p, a', s', ?_, f2, by omega⟩
    refine Ev.step (fun z => rfl) ?_
    simp only [spec_l1Cur_single.j1]
    rw [hw]
    refine Ev.bind ht (Ev.bind hg ?_)
    rw [hb]; exact Ev_if (fun h => by cases h) (fun _ => f1)
  obtain ⟨r1, a1, s1, e1, p1, q1⟩ := cur_pick c hc a s 13 M h (by omega) (by omega)
  obtain ⟨r2, a2, s2, e2, p2, q2⟩ := cur_among c hc a1 s1 (M + 2) [1, 1, 2, (-3)] q1 (by omega) (by decide)
  obtain ⟨d, e3, hd⟩ := product_len x [wrap64 (r1 - 6), r2] (by omega) (by simp)
  obtain ⟨b, a4, s4, e4, q4⟩ := cur_one c hc a2 s2 4 (M + 2 + 2) q2 (by omega) (by omega)
  simp at hd
  cases b with
  | false =>
   obtain ⟨p, a', s', f1, f2, f3⟩ := j1 d a4 s4 (M + 2 + 2 + 2) (by omega) q4 (by omega)
   refine ⟨p, a', s', ?_, f2, f3⟩
   refine Ev.step (fun z => rfl) ?_
   simp only [spec_l1Cur_single.l0]
   exact Ev_if (fun _ => Ev_bindS e1 (Ev_bindS e2 (Ev.bind e3 (Ev_bindS e4 (Ev_if (fun h => by cases h) (fun _ => f1)))))) (fun h => by omega)
  | true =>
   obtain ⟨r5, a5, s5, e5, p5, q5⟩ := cur_pick c hc a4 s4 13 (M + 2 + 2 + 2) q4 (by omega) (by omega)
   obtain ⟨p, a', s', f1, f2, f3⟩ := j1 (x ++ [wrap64 (r5 - 6)]) a5 s5 (M + 2 + 2 + 2 + 2) (by simp) q5 (by omega)
   refine ⟨p, a', s', ?_, f2, f3⟩
   refine Ev.step (fun z => rfl) ?_
   simp only [spec_l1Cur_single.l0]
   exact Ev_if (fun _ => Ev_bindS e1 (Ev_bindS e2 (Ev.bind e3 (Ev_bindS e4 (Ev_if (fun _ => Ev_bindS (own_eq x (by omega)) (Ev_bindS e5 (Ev_if (fun _ => f1) (fun h => by omega)))) (fun h => (h (by trivial)).elim)))))) (fun h => by omega)
theorem cur_single (c : List Int) (hc : BY c) (a s M : Int) (h : 0 ≤ a ∧ a ≤ M) (hM : M ≤ 900000000000000000) : ∃ p a' s', Ev (fun z => spec_l1Cur_single.f z c a s) (p, a', s') ∧ goodB p = true ∧ (0 ≤ a' ∧ a' ≤ M + 100) := by
 obtain ⟨r1, a1, s1, e1, p1, q1⟩ := cur_pick c hc a s 41 M h (by omega) (by omega)
 obtain ⟨r2, a2, s2, e2, p2, q2⟩ := cur_among c hc a1 s1 (M + 2) [1, (-1), 2, 3, wrap64 (r1 - 20)] q1 (by omega) (by simp)
 obtain ⟨r3, a3, s3, e3, p3, q3⟩ := cur_pick c hc a2 s2 5 (M + 2 + 2) q2 (by omega) (by omega)
 obtain ⟨p, a', s', f1, f2, f3⟩ := sgl_l0 c hc r3.toNat [r2] a3 s3 (M + 2 + 2 + 2) (by omega) (by simp; omega) q3 (by omega)
 rw [Int.toNat_of_nonneg p3.1] at f1
 unfold spec_l1Cur_single.f
 exact ⟨p, a', s', Ev_bindS e1 (Ev_bindS e2 (Ev_bindS e3 f1)), f2, by omega⟩
theorem asgl_l0 (c : List Int) (hc : BY c) (n : Nat) : ∀ (x : List Int) (a s M : Int), 10 - x.length = n → x.length ≤ 10 → (0 ≤ a ∧ a ≤ M) → M + 2 * (n : Int) ≤ 2000000000000000000 → ∃ p a' s', Ev (fun z => spec_l1Cur_anySingle.l0 z x c a s) (p, a', s') ∧ p.length ≤ 10 ∧ (0 ≤ a' ∧ a' ≤ M + 2 * (n : Int) + 2) := by
 induction n with
 | zero =>
  intro x a s M hn hx h hM
  obtain ⟨r1, a1, s1, e1, p1, q1⟩ := cur_pick c hc a s 2 M h (by omega) (by omega)
  refine ⟨x, a1, s1, ?_, hx, by omega⟩
  refine Ev.step (fun z => rfl) ?_
  simp only [spec_l1Cur_anySingle.l0]
  refine Ev_bindS e1 (Ev_if (fun h => ?_) (fun _ => Ev.now _))
  simp only at h; unfold wrap64 at h; omega
 | succ n ih =>
  intro x a s M hn hx h hM
  obtain ⟨r1, a1, s1, e1, p1, q1⟩ := cur_pick c hc a s 2 M h (by omega) (by omega)
  by_cases hl : (x.length : Int) < wrap64 (9 + r1)
  ·obtain ⟨p, a', s', f1, f2, f3⟩ := ih (x ++ [1]) a1 s1 (M + 2) (by simp; omega) (by simp; omega) q1 (by omega)
   refine ⟨p, a', s', ?_, f2, by omega⟩
   refine Ev.step (fun z => rfl) ?_
   simp only [spec_l1Cur_anySingle.l0]
   exact Ev_bindS e1 (Ev_if (fun _ => Ev_if (fun _ => f1) (fun h => by omega)) (fun h => absurd hl h))
  ·refine ⟨x, a1, s1, ?_, hx, by omega⟩
   refine Ev.step (fun z => rfl) ?_
   simp only [spec_l1Cur_anySingle.l0]
   exact Ev_bindS e1 (Ev_if (fun h => absurd h hl) (fun _ => Ev.now _))
theorem cur_anySingle (c : List Int) (hc : BY c) (a s M : Int) (h : 0 ≤ a ∧ a ≤ M) (hM : M ≤ 800000000000000000) : ∃ p a' s', Ev (fun z => spec_l1Cur_anySingle.f z c a s) (p, a', s') ∧ p.length ≤ 10 ∧ (0 ≤ a' ∧ a' ≤ M + 200) := by
 obtain ⟨p, a1, s1, e1, g1, q1⟩ := cur_single c hc a s M h (by omega)
 have hl := good_length p g1
 obtain ⟨r2, a2, s2, e2, p2, q2⟩ := cur_pick c hc a1 s1 30 (M + 100) q1 (by omega) (by omega)
 unfold spec_l1Cur_anySingle.f
 by_cases h0 : r2 = 0
 ·exact ⟨p ++ [0], a2, s2, Ev.bind e1 (Ev_bindS e2 (Ev_if (fun _ => Ev_if (fun _ => Ev.now _) (fun h => by simp only at h; omega)) (fun h => absurd h0 h))), by simp; omega, by omega⟩
 ·by_cases h1 : r2 = 1
  ·obtain ⟨r3, a3, s3, e3, p3, q3⟩ := cur_among c hc a2 s2 (M + 100 + 2) [1000001, (-1000001), (-9223372036854775808)] q2 (by omega) (by decide)
   exact ⟨p ++ [r3], a3, s3, Ev.bind e1 (Ev_bindS e2 (Ev_if (fun h => absurd h h0) (fun _ => Ev_if (fun _ => Ev_bindS e3 (Ev_if (fun _ => Ev.now _) (fun h => by simp only at h; omega))) (fun h => absurd h1 h)))), by simp; omega, by omega⟩
  ·by_cases h2 : r2 = 2
   ·obtain ⟨p', a', s', f1, f2, f3⟩ := asgl_l0 c hc (10 - p.length) p a2 s2 (M + 100 + 2) rfl (by omega) q2 (by omega)
    exact ⟨p', a', s', Ev.bind e1 (Ev_bindS e2 (Ev_if (fun h => absurd h h0) (fun _ => Ev_if (fun h => absurd h h1) (fun _ => Ev_if (fun _ => f1) (fun h => absurd h2 h))))), f2, by omega⟩
   ·exact ⟨p, a2, s2, Ev.bind e1 (Ev_bindS e2 (Ev_if (fun h => absurd h h0) (fun _ => Ev_if (fun h => absurd h h1) (fun _ => Ev_if (fun h => absurd h h2) (fun _ => Ev.now _))))), by omega, by omega⟩
theorem draw_rem (c : List Int) (hc : BY c) : ∃ p q, Ev (fun z => spec_DrawRemainderOf.f z c) (p, q) ∧ p.length ≤ 10 ∧ q.length ≤ 10 := by
 obtain ⟨p, a1, s1, e1, l1, q1⟩ := cur_anySingle c hc 0 0 0 ⟨by omega, by omega⟩ (by omega)
 obtain ⟨q, a2, s2, e2, l2, q2⟩ := cur_anySingle c hc a1 s1 (0 + 200) q1 (by omega)
 unfold spec_DrawRemainderOf.f
 by_cases h3 : (q.length : Int) > 3
 ·obtain ⟨b, a3, s3, e3, q3⟩ := cur_one c hc a2 s2 4 (0 + 200 + 200) q2 (by omega) (by omega)
  have hw : wrap64 ((q.length : Int) - 3) = (q.length : Int) - 3 := by unfold wrap64; omega
  cases b with
  | true => exact ⟨p, q, Ev.bind e1 (Ev.bind e2 (Ev_if (fun _ => Ev_bindS e3 (Ev_if (fun _ => Ev.now _) (fun h => (h (by trivial)).elim))) (fun h => absurd h3 h))), l1, l2⟩
  | false =>
   refine ⟨p, q.drop ((wrap64 ((q.length : Int) - 3)) : Int).toNat, Ev.bind e1 (Ev.bind e2 (Ev_if (fun _ => Ev_bindS e3 (Ev_if (fun h => by cases h) (fun _ => Ev_if (fun _ => Ev_if (fun _ => Ev.now _) (fun h => ?_)) (fun h => ?_)))) (fun h => absurd h3 h))), l1, by rw [List.length_drop]; omega⟩
   ·simp only [hw] at h; omega
   ·simp only [hw] at h; omega
 ·exact ⟨p, q, Ev.bind e1 (Ev.bind e2 (Ev_if (fun h => absurd h h3) (fun _ => Ev.now _))), l1, l2⟩
theorem draw_com (c : List Int) (hc : BY c) : ∃ p q, Ev (fun z => spec_DrawCommonDivisor.f z c) (p, q) ∧ p.length ≤ 20 ∧ q.length ≤ 20 := by
 obtain ⟨p, q, e1, l1, l2⟩ := draw_rem c hc
 obtain ⟨r2, a2, s2, e2, p2, q2⟩ := cur_pick c hc 0 0 9 0 ⟨by omega, by omega⟩ (by omega) (by omega)
 obtain ⟨r3, a3, s3, e3, p3, q3⟩ := cur_among c hc a2 s2 (0 + 2) [1, 2, (-1)] q2 (by omega) (by decide)
 obtain ⟨d, f1, m1⟩ := product_len p [wrap64 (r2 - 4), r3] (by omega) (by simp)
 obtain ⟨e, f2, m2⟩ := product_len q [wrap64 (r2 - 4), r3] (by omega) (by simp)
 obtain ⟨b, a4, s4, e4, q4⟩ := cur_one c hc a3 s3 2 (0 + 2 + 2) q3 (by omega) (by omega)
 simp at m1 m2
 have tail : ∃ x y, Ev (fun z => if b = true then (spec_sgGood.f z p).bind fun t => if t = true then (spec_sgGood.f z q).bind fun t => if t = true then (spec_sgGood.f z d).bind fun t => if t = true then (spec_sgGood.f z e).bind fun t => if t = true then some (d, e) else some (p, q) else some (p, q) else some (p, q) else some (p, q) else some (p, q)) (x, y) ∧ x.length ≤ 20 ∧ y.length ≤ 20 := by
  have no : Ev (fun _ : Nat => some (p, q)) (p, q) := Ev.now _
  by_cases hall : b = true ∧ goodB p = true ∧ goodB q = true ∧ goodB d = true ∧ goodB e = true
  ·obtain ⟨h0, h1, h2, h3, h4⟩ := hall
   refine ⟨d, e, Ev_if (fun _ => Ev.bind (sgGood_ev p (by omega)) (Ev_if (fun _ => Ev.bind (sgGood_ev q (by omega)) (Ev_if (fun _ => Ev.bind (sgGood_ev d (by omega)) (Ev_if (fun _ => Ev.bind (sgGood_ev e (by omega)) (Ev_if (fun _ => Ev.now _) (fun h => absurd h4 h))) (fun h => absurd h3 h))) (fun h => absurd h2 h))) (fun h => absurd h1 h))) (fun h => absurd h0 h), by omega, by omega⟩
  ·refine ⟨p, q, Ev_if (fun h0 => Ev.bind (sgGood_ev p (by omega)) (Ev_if (fun h1 => Ev.bind (sgGood_ev q (by omega)) (Ev_if (fun h2 => Ev.bind (sgGood_ev d (by omega)) (Ev_if (fun h3 => Ev.bind (sgGood_ev e (by omega)) (Ev_if (fun h4 => absurd ⟨h0, h1, h2, h3, h4⟩ hall) (fun _ => no))) (fun _ => no))) (fun _ => no))) (fun _ => no))) (fun _ => no), by omega, by omega⟩
 obtain ⟨x, y, t1, t2, t3⟩ := tail
 unfold spec_DrawCommonDivisor.f
 exact ⟨x, y, Ev.bind e1 (Ev_bindS e2 (Ev_bindS e3 (Ev_bindS rfl (Ev.bind f1 (Ev.bind f2 (Ev_bindS e4 t1)))))), t2, t3⟩
theorem draw_quo (c : List Int) (hc : BY c) : ∃ p q, Ev (fun z => spec_DrawQuotientOf.f z c) (p, q) ∧ p.length ≤ 40 ∧ q.length ≤ 40 := by
 obtain ⟨p, q, e1, l1, l2⟩ := draw_rem c hc
 obtain ⟨d, f1, m1⟩ := product_len p q (by omega) (by omega)
 obtain ⟨b, a4, s4, e4, q4⟩ := cur_one c hc 0 0 4 0 ⟨by omega, by omega⟩ (by omega) (by omega)
 have no : Ev (fun _ : Nat => some (p, q)) (p, q) := Ev.now _
 unfold spec_DrawQuotientOf.f
 by_cases hall : goodB p = true ∧ goodB q = true ∧ goodB d = true ∧ b = false
 ·obtain ⟨h1, h2, h3, h4⟩ := hall
  refine ⟨d, q, Ev.bind e1 (Ev.bind f1 (Ev.bind (sgGood_ev p (by omega)) (Ev_if (fun _ => Ev.bind (sgGood_ev q (by omega)) (Ev_if (fun _ => Ev.bind (sgGood_ev d (by omega)) (Ev_if (fun _ => Ev_bindS e4 (Ev_if (fun h => by simp only at h; rw [h4] at h; cases h) (fun _ => Ev.now _))) (fun h => absurd h3 h))) (fun h => absurd h2 h))) (fun h => absurd h1 h)))), by omega, by omega⟩
 ·refine ⟨p, q, Ev.bind e1 (Ev.bind f1 (Ev.bind (sgGood_ev p (by omega)) (Ev_if (fun h1 => Ev.bind (sgGood_ev q (by omega)) (Ev_if (fun h2 => Ev.bind (sgGood_ev d (by omega)) (Ev_if (fun h3 => Ev_bindS e4 (Ev_if (fun _ => no) (fun h4 => absurd ⟨h1, h2, h3, by simpa using h4⟩ hall))) (fun _ => no))) (fun _ => no))) (fun _ => no)))), by omega, by omega⟩
theorem draw_der (c : List Int) (hc : BY c) : ∃ p, Ev (fun z => spec_DrawDeriveSingle.f z c) p ∧ p.length ≤ 10 := by
 obtain ⟨p, a1, s1, e1, l1, q1⟩ := cur_anySingle c hc 0 0 0 ⟨by omega, by omega⟩ (by omega)
 unfold spec_DrawDeriveSingle.f spec_DrawIsSingle.f
 exact ⟨p, Ev.bind (Ev.bind e1 (Ev.now _)) (Ev.now _), l1⟩
theorem BY_of (l : List Int) (h : ∀ x ∈ l, (Lit.int .u8 x).wf = true) : BY l := by
 intro x hx
 have := h x hx
 simp [Lit.wf, IntKind.min, IntKind.max, IntKind.signed, IntKind.bits] at this
 omega
theorem Ev_no {α : Type} {c : Prop} [Decidable c] {f : Nat → Option α} {g : Nat → Option α} {r : α} (hc : ¬ c) (h : Ev f r) : Ev (fun z => if c then g z else f z) r := Ev_if (fun h2 => absurd h2 hc) (fun _ => h)
theorem Ev_yes {α : Type} {c : Prop} [Decidable c] {f : Nat → Option α} {g : Nat → Option α} {r : α} (hc : c) (h : Ev f r) : Ev (fun z => if c then f z else g z) r := Ev_if (fun _ => h) (fun h2 => absurd hc h2)
theorem same_l0 (l : List Int) (hl : l.length ≤ 1000000) (n : Nat) : ∀ i : Nat, i ≤ l.length → l.length - i = n → Ev (fun z => laws_sameInts.l0 z l l (l.length : Int) (i : Int)) true := by
 induction n with
 | zero =>
  intro i hi hn
  refine Ev.step (fun z => rfl) ?_
  simp only [laws_sameInts.l0]
  exact Ev_if (fun h => by omega) (fun _ => Ev.now _)
 | succ n ih =>
  intro i hi hn
  refine Ev.step (fun z => rfl) ?_
  simp only [laws_sameInts.l0]
  rw [wrap_next i (by omega)]
  exact Ev_yes (by omega) (Ev_yes (by omega) (Ev_yes (by omega) (Ev_yes (by omega) (Ev_yes (by trivial) (ih (i + 1) (by omega) (by omega))))))
theorem same_ev (l : List Int) (hl : l.length ≤ 1000000) : Ev (fun z => laws_sameInts.f z l l) true := by
 unfold laws_sameInts.f
 exact Ev_yes (by trivial) (same_l0 l hl l.length 0 (by omega) (by omega))
theorem GD_len (c : Bool) (r : List Int × Bool) : (GD c r).1.length ≤ 9 := by
 cases h : (GD c r).2 with
 | true =>
  have h2 : GD c r = ((GD c r).1, true) := by rw [← h]
  exact good_length _ (GD_true h2).2.2.2
 | false =>
  unfold GD at h ⊢
  split
  ·split
   ·split
    ·rename_i h1 h2 h3
     rw [if_pos h1, if_pos h2, if_pos h3] at h; cases h
    ·simp
   ·simp
  ·simp
theorem fs_j5 (c : List Int) (hc : BY c) : Ev (fun z => laws_FnSingles.j5 z c) true := by
 obtain ⟨p, e1, l1⟩ := draw_der c hc
 obtain ⟨r1, r2, h1, h2, h3⟩ := DeriveSingle_both p (by omega)
 refine Ev.step (fun z => rfl) ?_
 simp only [laws_FnSingles.j5]
 refine Ev.bind e1 (Ev.bind h2 (Ev.bind h1 (Ev_yes (by simp) (Ev.bind (same_ev r1 h3) (Ev_yes (by trivial) (Ev.bind (a := goodB p) (Ev.bind (isSingle_ev p (by omega)) (Ev.now _)) (Ev.bind (a := goodB p) (Ev.bind (sgGood_ev p (by omega)) (Ev.now _)) (Ev_eq (Ev.now _) (by simp)))))))))
theorem QT_back (u v t : List Int) (h : QT u v = (t, true)) : goodB u = true ∧ goodB v = true ∧ 0 < v.length ∧ goodB t = true ∧ (∀ k, co u k = pmul v (co t) k) ∧ (0 < t.length → u.length = t.length + v.length - 1) ∧ (t.length = 0 → u = []) := by
 obtain ⟨h1, h2, h3, h4⟩ := GD_true h
 unfold G2 at h1
 have hg : goodB u = true ∧ goodB v = true ∧ decide (0 < v.length) = true := by simpa using h1
 obtain ⟨hgu, hgv, hv0⟩ := hg
 have hv0 := of_decide_eq_true hv0
 have hu9 := good_length u hgu
 have hv9 := good_length v hgv
 have htu := good_tight u hgu
 refine ⟨hgu, hgv, hv0, h4, ?_⟩
 unfold QF at h2 h3
 by_cases hlt : u.length < v.length
 ·rw [if_pos hlt] at h2 h3
  simp only at h2 h3
  have hu0 : u.length = 0 := by
   simp only [beq_iff_eq] at h2; omega
  have := List.eq_nil_of_length_eq_zero hu0
  subst this; subst h3
  refine ⟨fun k => ?_, fun h => by simp at h, fun _ => rfl⟩
  have e0 : co ([] : List Int) = fun _ => 0 := by funext k; unfold co; simp
  rw [e0, pmul_zero]
 ·rw [if_neg hlt] at h2 h3
  obtain ⟨N, hN⟩ : ∃ N, u.length - v.length + 1 = N := ⟨_, rfl⟩
  rw [hN] at h2 h3
  cases hf : quoF v (rd v ((v.length : Int) - 1)) N u (List.replicate N 0) with
  | none => rw [hf] at h2; simp [quoR] at h2
  | some x =>
   obtain ⟨R', Y'⟩ := x
   rw [hf] at h2 h3
   simp only [quoR] at h2 h3
   subst h3
   have hNb : (1000000 : Int) + (N : Int) * 1000000000000000 ≤ 1000000000000000000 := by omega
   obtain ⟨q1, q2, q3, q4⟩ := quoF_sum v hv0 (good_bound v hgv) _ N u (List.replicate N 0) R' Y' 1000000 (by omega) hNb (by omega) (by simp) (fun k => co_bound u 1000000 (by omega) (good_bound u hgu) k) hf
   rw [List.length_replicate] at q2
   have hR0 : ∀ k, co R' k = 0 := by
    intro k
    unfold co
    split
    ·rename_i hk
     have := List.all_eq_true.1 h2 _ (rd_mem R' k hk)
     have := of_decide_eq_true this
     omega
    ·rfl
   have ecut : cut Y' N = co Y' := by
    funext k; unfold cut; split
    ·rfl
    ·rw [co_Sup Y' k (by omega)]
   rw [ecut] at q4
   refine ⟨fun k => by rw [q4 k, hR0 k]; omega, fun _ => by omega, fun h0 => by omega⟩
theorem fs_j4 (c : List Int) (hc : BY c) : Ev (fun z => laws_FnSingles.j4 z c) true := by
 obtain ⟨u, v, e1, l1, l2⟩ := draw_quo c hc
 obtain ⟨s1, s2⟩ := quo_ops u v (by omega) (by omega)
 have hl := GD_len (G2 u v (decide (0 < v.length))) (QF u v)
 change (QT u v).1.length ≤ 9 at hl
 refine Ev.step (fun z => rfl) ?_
 simp only [laws_FnSingles.j4]
 refine Ev.bind e1 (Ev.bind s2 (Ev.bind s1 (Ev_no (by simp) (Ev.bind (same_ev _ (by omega)) (Ev_yes (by trivial) (Ev_if (fun ht => ?_) (fun _ => fs_j5 c hc)))))))
 obtain ⟨t, ok, hf⟩ : ∃ t ok, QT u v = (t, ok) := ⟨_, _, rfl⟩
 rw [hf] at ht hl ⊢
 simp only at ht hl ⊢
 subst ht
 obtain ⟨hgu, hgv, hv0, hgt, hco, hlen, hnil⟩ := QT_back u v t hf
 obtain ⟨r, m1, m2, m3, m4, m5, m6⟩ := mul_ops t v (by omega) (by omega)
 have hr : r = (u, true) := by
  rcases Nat.eq_zero_or_pos t.length with e | e
  ·rw [m6 hgt hgv (.inl e), hnil e]
  ·obtain ⟨d, d1, d2, d3⟩ := m5 hgt hgv e hv0
   have hdu : d = u := co_ext d u (by rw [d1, hlen e]) (fun k => by rw [d2, hco])
   rw [d3, hdu]
   have hu0 : 0 < u.length := by rw [hlen e]; omega
   rw [trimI_keep u hu0 (good_last u hgu hu0)]
   unfold GD
   rw [if_pos rfl, if_pos rfl, if_pos hgu]
 rw [hr] at m2
 exact Ev.bind m2 (Ev_yes (by trivial) (Ev.bind (same_ev u (by omega)) (Ev_yes (by trivial) (fs_j5 c hc))))
theorem CM_facts (a b d : List Int) (ha : a.length ≤ 1000000) (hb : b.length ≤ 1000000) (h : CM a b = (d, true)) : goodB d = true ∧ 0 < d.length ∧ contentI 0 d = 1 ∧ 0 < rd d ((d.length : Int) - 1) ∧ goodB a = true ∧ goodB b = true ∧ Mult d (co a) ∧ Mult d (co b) := by
 obtain ⟨h1, h2, h3, h4⟩ := GD_true h
 unfold G2 at h1
 have hg : goodB a = true ∧ goodB b = true ∧ decide (0 < a.length + b.length) = true := by simpa using h1
 obtain ⟨hga, hgb, h0⟩ := hg
 have h0 := of_decide_eq_true h0
 have ba := good_bound9 a hga
 have bb := good_bound9 b hgb
 have ta := good_tight a hga
 have tb := good_tight b hgb
 have hcl := comL_cl (Mult_cl (comL b.length a b).1) b.length a b (Nat.le_refl _) ha hb ba ta bb tb h2 (Mult_self _)
 rw [h3] at hcl
 by_cases ha0 : 0 < a.length
 ·have hn := comL_nice b.length a b (Nat.le_refl _) ha0 ha hb ba ta bb tb h2
  have hp := comL_pos b.length a b (Nat.le_refl _) ha0 ha hb ba ta bb tb h2
  rw [h3] at hn hp
  exact ⟨h4, hn.2.2.2.1, prim_one d hn.1, hp, hga, hgb, hcl.1, hcl.2⟩
 ·-- a is empty: the divisor of b and what is left of a by b
  have ha' := List.eq_nil_of_length_eq_zero (show a.length = 0 by omega)
  subst ha'
  have hb0 : 0 < b.length := by simp at h0; omega
  obtain ⟨m, hm⟩ : ∃ m, b.length = m + 1 := ⟨b.length - 1, by omega⟩
  have e : comL b.length [] b = comL m b (remF [] b).1 ∧ (remF [] b).2 = true := by
   rw [hm] at h2 ⊢
   simp only [comL] at h2 ⊢
   rw [if_pos hb0] at h2 ⊢
   by_cases hr : (remF [] b).2 = true
   ·rw [if_pos hr]; exact ⟨rfl, hr⟩
   ·rw [if_neg hr] at h2; cases h2
  have e3 := (remF_ev [] b (by simp) hb hb0 ba ta bb tb).2.2.1 e.2
  rw [e.1] at h2 h3
  have hn := comL_nice m b (remF [] b).1 (by omega) hb0 hb (by omega) bb tb e3.2.1 e3.2.2 h2
  have hp := comL_pos m b (remF [] b).1 (by omega) hb0 hb (by omega) bb tb e3.2.1 e3.2.2 h2
  rw [h3] at hn hp
  exact ⟨h4, hn.2.2.2.1, prim_one d hn.1, hp, hga, hgb, hcl.1, hcl.2⟩
theorem RM_zero (x d : List Int) (hx : x.length ≤ 1000000) (hm : Mult d (co x)) (r : List Int) (h : RM x d = (r, true)) : r = [] := by
 obtain ⟨h1, h2, h3, h4⟩ := GD_true h
 unfold G2 at h1
 have hg : goodB x = true ∧ goodB d = true ∧ decide (0 < d.length) = true := by simpa using h1
 obtain ⟨hgx, hgd, h0⟩ := hg
 have h0 := of_decide_eq_true h0
 have hd9 := good_length d hgd
 rw [← h3]
 exact remF_zero x d (good_bound9 x hgx) (good_tight x hgx) hx h0 (by omega) (good_bound9 d hgd) (good_tight d hgd) hm h2
theorem fs_l0L (c : List Int) (hc : BY c) (d : List Int) (hd : d.length ≤ 1000000) (L : List (List Int)) (hL : L.length ≤ 1000) (hx : ∀ x ∈ L, x.length ≤ 1000000 ∧ Mult d (co x)) (n : Nat) : ∀ i : Nat, i ≤ L.length → L.length - i = n → Ev (fun z => laws_FnSingles.l0 z c d d L (L.length : Int) (i : Int)) true := by
 induction n with
 | zero =>
  intro i hi hn
  refine Ev.step (fun z => rfl) ?_
  simp only [laws_FnSingles.l0]
  exact Ev_if (fun h => by omega) (fun _ => fs_j4 c hc)
 | succ n ih =>
  intro i hi hn
  have hxi := hx (rd_L2 L (i : Int)) (by
   have e : rd_L2 L (i : Int) = L[i]'(by omega) := by simp [rd_L2, List.getElem?_eq_getElem (show i < L.length by omega)]
   rw [e]; exact List.getElem_mem _)
  obtain ⟨x, hxe⟩ : ∃ x, rd_L2 L (i : Int) = x := ⟨_, rfl⟩
  rw [hxe] at hxi
  obtain ⟨s1, s2⟩ := rem_ops x d hxi.1 hd
  have hl := GD_len (G2 x d (decide (0 < d.length))) (remF x d)
  change (RM x d).1.length ≤ 9 at hl
  have hnext := ih (i + 1) (by omega) (by omega)
  refine Ev.step (fun z => rfl) ?_
  simp only [laws_FnSingles.l0]
  rw [wrap_next i (by omega), hxe]
  refine Ev_yes (by omega) (Ev_yes (by omega) (Ev_yes (by omega) (Ev.bind s2 (Ev.bind s1 (Ev_no (by simp) (Ev.bind (same_ev _ (by omega)) (Ev_yes (by trivial) (Ev_if (fun ht => Ev_no ?_ hnext) (fun _ => hnext)))))))))
  have hr : RM x d = ((RM x d).1, true) := by rw [← ht]
  have := RM_zero x d hxi.1 hxi.2 _ hr
  rw [this]; simp
theorem fs_j2 (c : List Int) (hc : BY c) : Ev (fun z => laws_FnSingles.j2 z c) true := by
 obtain ⟨a, b, e1, l1, l2⟩ := draw_com c hc
 obtain ⟨s1, s2⟩ := com_ops a b (by omega) (by omega)
 have hl := GD_len (G2 a b (decide (0 < a.length + b.length))) (comL b.length a b)
 change (CM a b).1.length ≤ 9 at hl
 refine Ev.step (fun z => rfl) ?_
 simp only [laws_FnSingles.j2]
 refine Ev.bind e1 (Ev.bind s2 (Ev.bind s1 (Ev_no (by simp) (Ev.bind (same_ev _ (by omega)) (Ev_yes (by trivial) (Ev_if (fun ht => ?_) (fun _ => fs_j4 c hc)))))))
 obtain ⟨d, ok, hf⟩ : ∃ d ok, CM a b = (d, ok) := ⟨_, _, rfl⟩
 rw [hf] at ht hl ⊢
 simp only at ht hl ⊢
 subst ht
 obtain ⟨hgd, hd0, hc1, hpos, hga, hgb, ma, mb⟩ := CM_facts a b d (by omega) (by omega) hf
 have hcont : Ev (fun z => impl_ContentOf.f z d) (1, true) := by
  unfold impl_ContentOf.f
  refine Ev.bind (isSingle_ev d (by omega)) ?_
  rw [hgd]
  have := contentOf_eq d (by omega) 1000000 ⟨by omega, by omega⟩ (good_bound d hgd)
  rw [hc1] at this
  exact Ev_yes (by trivial) (Ev.bind this (Ev.now _))
 have hw : wrap64 ((d.length : Int) - 1) = (d.length : Int) - 1 := by unfold wrap64; omega
 rw [hw]
 refine Ev.bind hcont (Ev_yes (by trivial) (Ev_yes (by trivial) (Ev_yes (by omega) (Ev_yes (by omega) (Ev_no (by omega) (Ev_bindS rfl ?_))))))
 exact fs_l0L c hc d (by omega) [a, b] (by simp) (fun x hx => by
  simp at hx
  rcases hx with rfl | rfl
  ·exact ⟨by omega, ma⟩
  ·exact ⟨by omega, mb⟩) 2 0 (by simp) (by simp)
theorem QT_of_product (p q m : List Int) (hgp : goodB p = true) (hgq : goodB q = true) (hgm : goodB m = true) (hp0 : 0 < p.length) (hq0 : 0 < q.length) (hl : m.length = p.length + q.length - 1) (hco : ∀ t, co m t = pmul q (co p) t) : QT m q = (p, true) := by
 obtain ⟨q', b, rfl, hb⟩ := tight_snoc q hq0 (good_tight q hgq)
 have hp9 := good_length p hgp
 have hq9 := good_length _ hgq
 have hm9 := good_length m hgm
 have hE := (quotE q' b hb _ rfl hq9 (good_bound9 _ hgq) p (good_bound9 p hgp) hp9 hp0 m (by rw [hl]; simp <;> omega) hco).1
 have hQ := (QF_ev m (q' ++ [b]) (by omega) ⟨hq0, by omega⟩ (good_last _ hgq hq0)).1
 have e := Ev_uniq hQ hE
 unfold QT G2 GD
 rw [hgm, hgq, decide_eq_true hq0, e]
 simp [hgp]
theorem fs_f (l0 l1 : List Int) (h0 : BY l0) (h1 : BY l1) : Ev (fun z => laws_FnSingles.f z l0 l1) true := by
 have hb : ∃ b, laws_big.f l0 l1 = some b := by
  unfold laws_big.f; split <;> exact ⟨_, rfl⟩
 obtain ⟨b, hb⟩ := hb
 obtain ⟨p, q, e, lp, lq⟩ := draw_rem l0 h0
 obtain ⟨s1, s2⟩ := rem_ops p q (by omega) (by omega)
 obtain ⟨m, m1, m2, m3, m4, m5, m6⟩ := mul_ops p q (by omega) (by omega)
 have hl := GD_len (G2 p q (decide (0 < q.length))) (remF p q)
 change (RM p q).1.length ≤ 9 at hl
 have hj2 := fs_j2 l1 h1
 have hj1f : ∀ x5 x6 x11 : List Int, Ev (fun z => laws_FnSingles.j1 z l1 x5 x6 x11 false) true := fun x5 x6 x11 => Ev.step (f := fun z => laws_FnSingles.j2 z l1) (fun z => rfl) hj2
 have hj0 : Ev (fun z => laws_FnSingles.j0 z l1 p q m.1 m.2 false) true := by
  refine Ev.step (fun z => rfl) ?_
  simp only [laws_FnSingles.j0]
  refine Ev_no (by decide) (Ev_if (fun hm => ?_) (fun _ => hj1f p q m.1))
  by_cases hq0 : 0 < q.length
  ·rw [decide_eq_true (show ((q.length : Int) > 0) by omega)]
   obtain ⟨hgp, hgq, hgm⟩ := m4 hm
   have hQ : QT m.1 q = (p, true) := by
    rcases Nat.eq_zero_or_pos p.length with e0 | e0
    ·have hm0 := m6 hgp hgq (.inl e0)
     have hp := List.eq_nil_of_length_eq_zero e0
     subst hp
     rw [hm0]
     unfold QT G2 GD QF
     simp only [List.length_nil]
     rw [hgq, decide_eq_true hq0, if_pos hq0]
     rfl
    ·obtain ⟨d, d1, d2, d3⟩ := m5 hgp hgq e0 hq0
     have hdm : GD true (trimI d, true) = (m.1, true) := by rw [← d3]; exact Prod.ext rfl hm
     have hdt := GD_true hdm
     have hd0 : 0 < d.length := by omega
     -- the last number of the product
     have htr : trimI d = d := by
      apply trimI_keep d hd0
      obtain ⟨q', b', hq', hb'⟩ := tight_snoc q hq0 (good_tight q hgq)
      have e1 : rd d ((d.length : Int) - 1) = co d (d.length - 1) := by
       rw [show ((d.length : Int) - 1) = ((d.length - 1 : Nat) : Int) by omega]; exact co_rd d _ (by omega)
      rw [e1, d2, hq', show d.length - 1 = (p.length - 1) + q'.length by rw [d1, hq']; simp; omega]
      rw [top_coef q' b' (co p) (p.length - 1) (by intro k hk; exact co_Sup p k (by omega))]
      apply Int.mul_ne_zero hb'
      have := good_last p hgp e0
      rw [show ((p.length : Int) - 1) = ((p.length - 1 : Nat) : Int) by omega, co_rd p _ (by omega)] at this
      exact this
     have hmd : m.1 = d := by rw [← hdt.2.2.1]; exact htr
     rw [hmd]
     exact QT_of_product p q d hgp hgq (hmd ▸ hgm) e0 hq0 d1 d2
   obtain ⟨q1, q2⟩ := quo_ops m.1 q m3 (by omega)
   rw [hQ] at q2
   refine Ev.step (fun z => rfl) ?_
   simp only [laws_FnSingles.j1]
   exact Ev_yes (by trivial) (Ev.bind q2 (Ev_yes (by trivial) (Ev.bind (same_ev p (by omega)) (Ev_yes (by trivial) hj2))))
  ·rw [decide_eq_false (show ¬ ((q.length : Int) > 0) by omega)]
   exact hj1f p q m.1
 unfold laws_FnSingles.f
 refine Ev.bind (⟨0, fun k _ => hb⟩ : Ev (fun _ => laws_big.f l0 l1) b) (Ev_if (fun _ => Ev.now _) (fun _ => ?_))
 refine Ev.bind e (Ev.bind s2 (Ev.bind s1 (Ev.bind m2 (Ev.bind m1 (Ev_no (by simp) (Ev.bind (same_ev _ (by omega)) (Ev_yes (by trivial) (Ev_no (by simp) (Ev.bind (same_ev _ m3) (Ev_yes (by trivial) (Ev_if (fun ht => ?_) (fun _ => hj0))))))))))))
 have hr : RM p q = ((RM p q).1, true) := by rw [← ht]
 have hg := GD_true hr
 have hlt : (RM p q).1.length < q.length := by
  obtain ⟨g1, g2, g3, g4⟩ := hg
  unfold G2 at g1
  have hgg : goodB p = true ∧ goodB q = true ∧ decide (0 < q.length) = true := by simpa using g1
  have e3 := (remF_ev p q (by omega) (by omega) (of_decide_eq_true hgg.2.2) (good_bound9 p hgg.1) (good_tight p hgg.1) (good_bound9 q hgg.2.1) (good_tight q hgg.2.1)).2.2.1 g2
  rw [← g3]; exact e3.1
 rw [decide_eq_false (show ¬ (((RM p q).1.length : Int) ≥ (q.length : Int)) by omega)]
 exact hj0
theorem FnSingles_pure : laws_FnSingles.Pure := by
 intro l0 l1 _ _ h1 _ _ h2
 exact (fs_f l0 l1 (BY_of l0 h1) (BY_of l1 h2)).rounds
end Go.Proofs.Ytgkpbbmacjgilaa.QSgs
namespace Go.Proofs.Ytgkpbbmacjgilaa.Pure
theorem FnSingles : QSgs.laws_FnSingles.Pure := QSgs.FnSingles_pure
end Go.Proofs.Ytgkpbbmacjgilaa.Pure
