/- Plain law: the reference's and the program's CommonDivisor come to the same, over numbers and lists alone. -/
import Derived.Test.YtcgcgifndkeeoaaLCommonDivisor
namespace Go.Proofs.Ytcgcgifndkeeoaa.QCommonDivisor
open Go.RowKit Go.Proofs.YtcgcgifndkeeoaaW.PrintWords Go.Proofs.YtcgcgifndkeeoaaW.PrintLast Go.Proofs.YtcgcgifndkeeoaaW.PrintMore
set_option linter.unusedVariables false
set_option linter.unusedSimpArgs false
theorem Ev_if {α : Type} {c : Prop} [Decidable c] {g f : Nat → Option α} {r : α} (hp : c → Ev g r) (hn : ¬ c → Ev f r) : Ev (fun k => if c then g k else f k) r := by
  by_cases h : c
  · simp only [if_pos h]; exact hp h
  · simp only [if_neg h]; exact hn h
theorem Ev_bindS {α β : Type} {a : Option α} {x : α} {f : Nat → α → Option β} {r : β} (h : a = some x) (k : Ev (fun n => f n x) r) : Ev (fun n => a.bind (f n)) r := by
  subst h; simpa only [Option.bind_some] using k
theorem Ev_eq {α : Type} {g : Nat → Option α} {r r' : α} (h : Ev g r) (e : r = r') : Ev g r' := e ▸ h
theorem Ev_both {α β : Type} {g : Nat → Option α} {f : Nat → Option β} {r : α} {q : β} (h : Ev g r) (h' : Ev f q) : ∃ ks ki, g ks = some r ∧ f ki = some q := by
  obtain ⟨a, ha⟩ := h.rounds
  obtain ⟨b, hb⟩ := h'.rounds
  exact ⟨a, b, ha, hb⟩
theorem l1In_eq (a b c : Int) : spec_l1In.f a b c = some (decide (b ≤ a ∧ a ≤ c)) := by
  unfold spec_l1In.f; by_cases h : b ≤ a <;> simp [h]
theorem inside_eq (a b c : Int) : impl_inside.f a b c = some (decide (b ≤ a ∧ a ≤ c)) := by
  unfold impl_inside.f; by_cases h : b ≤ a <;> simp [h]
theorem rd_getElem (l : List Int) (i : Nat) (h : i < l.length) : rd l (i : Int) = l[i] := by simp [rd, h]
theorem wrap_next (i : Nat) (h : i < 9223372036854775807) : wrap64 ((i : Int) + 1) = ((i + 1 : Nat) : Int) := by unfold wrap64; omega
theorem all_drop (l : List Int) (p : Int → Bool) (i : Nat) (h : i < l.length) : (l.drop i).all p = (p (rd l (i : Int)) && (l.drop (i + 1)).all p) := by
  rw [List.drop_eq_getElem_cons h, List.all_cons, rd_getElem l i h]
theorem rd_mem (l : List Int) (i : Nat) (h : i < l.length) : rd l (i : Int) ∈ l := by rw [rd_getElem l i h]; exact List.getElem_mem h
theorem drop_rd (l : List Int) (i : Nat) (h : i < l.length) : l.drop i = rd l (i : Int) :: l.drop (i + 1) := by rw [rd_getElem l i h]; exact List.drop_eq_getElem_cons h
theorem wrap_sum (i k : Nat) (h : i + k ≤ 4000000000000) : wrap64 ((i : Int) + (k : Int)) = ((i + k : Nat) : Int) := by unfold wrap64; omega
theorem l1All_l0 (l : List Int) (lo hi : Int) (hl : l.length ≤ 1000000) (d : Nat) : ∀ (k i : Nat), i ≤ l.length → l.length - i = d → d < k → spec_l1All.l0 k lo hi l (l.length : Int) (i : Int) = some ((l.drop i).all fun x => decide (lo ≤ x ∧ x ≤ hi)) := by
  induction d with
  | zero =>
    intro k i h1 hd hk
    obtain ⟨k, rfl⟩ : ∃ m, k = m + 1 := ⟨k - 1, by omega⟩
    simp only [spec_l1All.l0]; rw [if_neg (by omega), List.drop_eq_nil_of_le (by omega)]; rfl
  | succ d ih =>
    intro k i h1 hd hk
    obtain ⟨k, rfl⟩ : ∃ m, k = m + 1 := ⟨k - 1, by omega⟩
    simp only [spec_l1All.l0]
    rw [if_pos (by omega), if_pos (by omega), if_pos (by omega), l1In_eq, Option.bind_some, wrap_next i (by omega), all_drop l _ i (by omega)]
    by_cases hp : lo ≤ rd l (i : Int) ∧ rd l (i : Int) ≤ hi
    · rw [if_pos (decide_eq_true hp), decide_eq_true hp, ih k (i + 1) (by omega) (by omega) (by omega)]; rfl
    · rw [if_neg (by rw [decide_eq_false hp]; decide), decide_eq_false hp]; rfl
theorem l1All_eq (l : List Int) (lo hi : Int) (hl : l.length ≤ 1000000) (k : Nat) (hk : l.length < k) : spec_l1All.f k l lo hi = some (l.all fun x => decide (lo ≤ x ∧ x ≤ hi)) := by
  unfold spec_l1All.f
  have h := l1All_l0 l lo hi hl l.length k 0 (by omega) (by omega) hk
  simpa using h
def smallB (l : List Int) : Bool := l.all fun x => decide ((-1000000) ≤ x ∧ x ≤ 1000000)
def lastB (l : List Int) : Bool := if l.length = 0 then true else (rd l ((l.length : Int) - 1) != 0)
/-- A single polynomial. -/
def goodB (l : List Int) : Bool := decide (l.length ≤ 9) && (smallB l && lastB l)
theorem sgGood_eq (l : List Int) (hl : l.length ≤ 1000000) (k : Nat) (hk : l.length < k) : spec_sgGood.f k l = some (goodB l) := by
  unfold spec_sgGood.f goodB
  by_cases h9 : l.length ≤ 9
  · rw [if_neg (by omega), l1All_eq l _ _ hl k hk, Option.bind_some, decide_eq_true h9, Bool.true_and]
    change (if smallB l = true then _ else _) = _
    cases hs : smallB l with
    | false => rfl
    | true =>
      rw [if_pos rfl, Bool.true_and]
      unfold lastB
      by_cases h0 : l.length = 0
      · rw [if_pos (by omega), if_pos h0]
      · rw [if_neg (by omega), if_neg h0, show wrap64 ((l.length : Int) - 1) = (l.length : Int) - 1 by unfold wrap64; omega, if_pos (by omega), if_pos (by omega)]
  · rw [if_pos (by omega), decide_eq_false h9]; rfl
theorem isSingle_l0 (l : List Int) (hl : l.length ≤ 1000000) (d : Nat) : ∀ (k i : Nat), i ≤ l.length → l.length - i = d → d < k → impl_isSingle.l0 k l l (l.length : Int) (i : Int) = some (((l.drop i).all fun x => decide ((-1000000) ≤ x ∧ x ≤ 1000000)) && (if l.length = 0 then true else decide (l.length ≤ 9) && (rd l ((l.length : Int) - 1) != 0))) := by
  induction d with
  | zero =>
    intro k i h1 hd hk
    obtain ⟨k, rfl⟩ : ∃ m, k = m + 1 := ⟨k - 1, by omega⟩
    simp only [impl_isSingle.l0]; rw [if_neg (by omega), List.drop_eq_nil_of_le (by omega)]
    by_cases h0 : l.length = 0
    · rw [if_pos (by omega), if_pos h0]; rfl
    · rw [if_neg (by omega), if_neg h0]
      by_cases h9 : l.length ≤ 9
      · rw [if_pos (by omega), show wrap64 ((l.length : Int) - 1) = (l.length : Int) - 1 by unfold wrap64; omega, if_pos (by omega), if_pos (by omega), decide_eq_true h9]; rfl
      · rw [if_neg (by omega), decide_eq_false h9]; rfl
  | succ d ih =>
    intro k i h1 hd hk
    obtain ⟨k, rfl⟩ : ∃ m, k = m + 1 := ⟨k - 1, by omega⟩
    simp only [impl_isSingle.l0]
    rw [if_pos (by omega), if_pos (by omega), if_pos (by omega), inside_eq, Option.bind_some, wrap_next i (by omega), all_drop l _ i (by omega)]
    by_cases hp : (-1000000) ≤ rd l (i : Int) ∧ rd l (i : Int) ≤ 1000000
    · rw [if_pos (decide_eq_true hp), decide_eq_true hp, ih k (i + 1) (by omega) (by omega) (by omega)]; rfl
    · rw [if_neg (by rw [decide_eq_false hp]; decide), decide_eq_false hp]; rfl
theorem isSingle_eq (l : List Int) (hl : l.length ≤ 1000000) (k : Nat) (hk : l.length < k) : impl_isSingle.f k l = some (goodB l) := by
  unfold impl_isSingle.f
  have h := isSingle_l0 l hl l.length k 0 (by omega) (by omega) hk
  simp only [List.drop_zero] at h
  rw [show ((0 : Nat) : Int) = 0 from rfl] at h
  rw [h]
  congr 1
  unfold goodB lastB
  change (smallB l && _) = _
  cases smallB l <;> by_cases h0 : l.length = 0 <;> simp [h0]
theorem sgGood_ev (l : List Int) (hl : l.length ≤ 1000000) : Ev (fun k => spec_sgGood.f k l) (goodB l) := ⟨l.length + 1, fun k hk => sgGood_eq l hl k (by omega)⟩
theorem isSingle_ev (l : List Int) (hl : l.length ≤ 1000000) : Ev (fun k => impl_isSingle.f k l) (goodB l) := ⟨l.length + 1, fun k hk => isSingle_eq l hl k (by omega)⟩
theorem good_bound (l : List Int) (h : goodB l = true) : ∀ x ∈ l, (-1000000 : Int) ≤ x ∧ x ≤ 1000000 := by
  unfold goodB smallB at h
  simp only [Bool.and_eq_true, List.all_eq_true, decide_eq_true_eq] at h
  exact h.2.1
theorem good_length (l : List Int) (h : goodB l = true) : l.length ≤ 9 := by
  unfold goodB at h
  simp only [Bool.and_eq_true, decide_eq_true_eq] at h
  exact h.1
theorem good_last (l : List Int) (h : goodB l = true) (h0 : 0 < l.length) : rd l ((l.length : Int) - 1) ≠ 0 := by
  unfold goodB lastB at h
  simp only [Bool.and_eq_true] at h
  have := h.2.2
  rw [if_neg (by omega)] at this
  simpa using this
def absI (x : Int) : Int := (x.natAbs : Int)
theorem l1Abs_eq (x : Int) (h : -4611686018427387904 ≤ x ∧ x ≤ 4611686018427387904) : spec_l1Abs.f x = some (absI x) := by
  unfold spec_l1Abs.f spec_l1Most.f absI
  have : wrap64 (-x) = -x := by unfold wrap64; omega
  rw [this]
  by_cases hx : x > -x
  · rw [if_pos hx]; simp only [Option.bind_some]; congr 1; omega
  · rw [if_neg hx]; simp only [Option.bind_some]; congr 1; omega
theorem mxAbs_eq (x : Int) (h : -4611686018427387904 ≤ x ∧ x ≤ 4611686018427387904) : mx x (wrap64 (-x)) = absI x := by
  have : wrap64 (-x) = -x := by unfold wrap64; omega
  rw [this]; unfold mx absI; split <;> omega
theorem gcd_tmod (a b : Int) : Int.gcd b (Int.tmod a b) = Int.gcd a b := by
  have h : Int.tmod a b = a - b * Int.tdiv a b := by have := Int.mul_tdiv_add_tmod a b; omega
  rw [h, Int.gcd_comm, show a - b * Int.tdiv a b = a + b * (-(Int.tdiv a b)) by rw [Int.mul_neg]; omega, Int.gcd_add_mul_left_left]
theorem sgGcd_l0 (n : Nat) : ∀ (a b : Int), 0 ≤ a → 0 ≤ b → b.natAbs < n → Ev (fun k => spec_sgGcd.l0 k a b) ((Int.gcd a b : Nat) : Int) := by
  induction n with
  | zero => intro a b _ _ h; omega
  | succ n ih =>
    intro a b ha hb hn
    refine Ev.step (fun k => rfl) ?_
    refine Ev_if (fun h => Ev_if (fun h2 => by omega) (fun h2 => ?_)) (fun h => ?_)
    · have e : Int.tmod a b = a % b := Int.tmod_eq_emod_of_nonneg ha
      have h0 := Int.emod_nonneg a (show b ≠ 0 by omega)
      have h1 := Int.emod_lt_of_pos a (show 0 < b by omega)
      rw [e]
      refine Ev_eq (ih b (a % b) hb h0 (by omega)) ?_
      rw [← e, gcd_tmod]
    · have : b = 0 := by omega
      subst this
      refine Ev_eq (Ev.now _) ?_
      simp; omega
theorem tmod_lt (a b : Int) (hb : b ≠ 0) : (Int.tmod a b).natAbs < b.natAbs := by
  rw [Int.natAbs_tmod]; exact Nat.mod_lt _ (by omega)
theorem gcd_l0 (n : Nat) : ∀ (a b : Int), -4611686018427387904 ≤ a ∧ a ≤ 4611686018427387904 → -4611686018427387904 ≤ b ∧ b ≤ 4611686018427387904 → b.natAbs < n → Ev (fun k => impl_gcd.l0 k a b) ((Int.gcd a b : Nat) : Int) := by
  induction n with
  | zero => intro a b _ _ h; omega
  | succ n ih =>
    intro a b ha hb hn
    refine Ev.step (fun k => rfl) ?_
    refine Ev_if (fun h => ?_) (fun h => ?_)
    · subst h
      refine Ev_eq (Ev.now _) ?_
      rw [mxAbs_eq a ha]; simp [absI]
    · have h1 := tmod_lt a b h
      refine Ev_eq (ih b (Int.tmod a b) hb ⟨by omega, by omega⟩ (by omega)) ?_
      rw [gcd_tmod]
theorem sgGcd_eq (a b : Int) (ha : 0 ≤ a) (hb : 0 ≤ b) : Ev (fun k => spec_sgGcd.f k a b) ((Int.gcd a b : Nat) : Int) := sgGcd_l0 (b.natAbs + 1) a b ha hb (by omega)
theorem gcd_eq (a b : Int) (ha : -4611686018427387904 ≤ a ∧ a ≤ 4611686018427387904) (hb : -4611686018427387904 ≤ b ∧ b ≤ 4611686018427387904) : Ev (fun k => impl_gcd.f k a b) ((Int.gcd a b : Nat) : Int) := gcd_l0 (b.natAbs + 1) a b ha hb (by omega)
def boundB (l : List Int) (m : Int) : Prop := ∀ x ∈ l, -m ≤ x ∧ x ≤ m
def contentI (d : Int) (l : List Int) : Int := l.foldl (fun d c => ((Int.gcd d c : Nat) : Int)) d
theorem gcd_bound (d c m : Int) (hd : 0 ≤ d ∧ d ≤ m) (hc : -m ≤ c ∧ c ≤ m) : 0 ≤ ((Int.gcd d c : Nat) : Int) ∧ ((Int.gcd d c : Nat) : Int) ≤ m := by
  refine ⟨by omega, ?_⟩
  by_cases h : c = 0
  · subst h; simp; omega
  · have h1 := Nat.le_of_dvd (show 0 < c.natAbs by omega) (Int.gcd_dvd_natAbs_right d c)
    omega
theorem sgContent_l0 (l : List Int) (hl : l.length ≤ 1000000) (m : Int) (hm : 0 ≤ m ∧ m ≤ 4611686018427387904) (hb : boundB l m) (n : Nat) : ∀ (i : Nat) (d : Int), i ≤ l.length → l.length - i = n → 0 ≤ d ∧ d ≤ m → Ev (fun k => spec_sgContent.l0 k d l (l.length : Int) (i : Int)) (contentI d (l.drop i)) := by
  induction n with
  | zero =>
    intro i d hi hn hd
    refine Ev.step (fun k => rfl) ?_
    refine Ev_if (fun h => by omega) (fun h => ?_)
    rw [List.drop_eq_nil_of_le (by omega)]; exact Ev.now _
  | succ n ih =>
    intro i d hi hn hd
    have hr := hb _ (rd_mem l i (by omega))
    refine Ev.step (fun k => rfl) ?_
    refine Ev_if (fun h => Ev_if (fun h2 => Ev_if (fun h3 => ?_) (fun h3 => by omega)) (fun h2 => by omega)) (fun h => by omega)
    refine Ev_bindS (l1Abs_eq _ ⟨by omega, by omega⟩) ?_
    refine Ev.bind (sgGcd_eq d _ hd.1 (by unfold absI; omega)) ?_
    rw [wrap_next i (by omega), drop_rd l i (by omega)]
    have e : ((Int.gcd d (absI (rd l (i : Int))) : Nat) : Int) = ((Int.gcd d (rd l (i : Int)) : Nat) : Int) := by unfold absI; simp [Int.gcd]
    rw [e]
    exact ih (i + 1) _ (by omega) (by omega) (gcd_bound d _ m hd hr)
theorem sgContent_eq (l : List Int) (hl : l.length ≤ 1000000) (m : Int) (hm : 0 ≤ m ∧ m ≤ 4611686018427387904) (hb : boundB l m) : Ev (fun k => spec_sgContent.f k l) (contentI 0 l) := by
  have h := sgContent_l0 l hl m hm hb l.length 0 0 (by omega) (by omega) ⟨by omega, by omega⟩
  simpa [spec_sgContent.f] using h
theorem contentOf_l0 (l : List Int) (hl : l.length ≤ 1000000) (m : Int) (hm : 0 ≤ m ∧ m ≤ 4611686018427387904) (hb : boundB l m) (n : Nat) : ∀ (i : Nat) (d : Int), i ≤ l.length → l.length - i = n → 0 ≤ d ∧ d ≤ m → Ev (fun k => impl_contentOf.l0 k d l (l.length : Int) (i : Int)) (contentI d (l.drop i)) := by
  induction n with
  | zero =>
    intro i d hi hn hd
    refine Ev.step (fun k => rfl) ?_
    refine Ev_if (fun h => by omega) (fun h => ?_)
    rw [List.drop_eq_nil_of_le (by omega)]; exact Ev.now _
  | succ n ih =>
    intro i d hi hn hd
    have hr := hb _ (rd_mem l i (by omega))
    refine Ev.step (fun k => rfl) ?_
    refine Ev_if (fun h => Ev_if (fun h2 => Ev_if (fun h3 => ?_) (fun h3 => by omega)) (fun h2 => by omega)) (fun h => by omega)
    refine Ev.bind (gcd_eq d _ ⟨by omega, by omega⟩ ⟨by omega, by omega⟩) ?_
    rw [wrap_next i (by omega), drop_rd l i (by omega)]
    exact ih (i + 1) _ (by omega) (by omega) (gcd_bound d _ m hd hr)
theorem contentOf_eq (l : List Int) (hl : l.length ≤ 1000000) (m : Int) (hm : 0 ≤ m ∧ m ≤ 4611686018427387904) (hb : boundB l m) : Ev (fun k => impl_contentOf.f k l) (contentI 0 l) := by
  have h := contentOf_l0 l hl m hm hb l.length 0 0 (by omega) (by omega) ⟨by omega, by omega⟩
  simpa [impl_contentOf.f] using h
theorem own_eq (l : List Int) (h : l.length ≤ 1000000) : spec_l1Own.f l = some l := by
  unfold spec_l1Own.f; simp only [Option.bind_some, List.length_nil, List.nil_append]; rw [if_pos (by omega)]
theorem List_snoc (l : List Int) (h : 0 < l.length) : ∃ q a, l = q ++ [a] := by
  rcases List.eq_nil_or_concat l with e | ⟨q, a, e⟩
  · simp [e] at h
  · exact ⟨q, a, by rw [e, List.concat_eq_append]⟩
def trimI (l : List Int) : List Int := (l.reverse.dropWhile (fun x => x == 0)).reverse
theorem trimI_nil : trimI [] = [] := rfl
theorem trimI_zero (q : List Int) : trimI (q ++ [0]) = trimI q := by simp [trimI]
theorem trimI_last (q : List Int) (a : Int) (h : a ≠ 0) : trimI (q ++ [a]) = q ++ [a] := by simp [trimI, h]
theorem trimI_length (l : List Int) : (trimI l).length ≤ l.length := by
  unfold trimI; rw [List.length_reverse]; exact Nat.le_trans (List.dropWhile_sublist _).length_le (by simp)
theorem clone_eq (l : List Int) (h : l.length ≤ 1000000) : slices_Clone_int_int.f l = some l := by
  unfold slices_Clone_int_int.f; rw [if_pos (by omega)]
theorem rd_last (q : List Int) (a : Int) : rd (q ++ [a]) (q.length : Int) = a := by simp [rd]
theorem stripped_eq (n : Nat) : ∀ l : List Int, l.length = n → l.length ≤ 1000000 → Ev (fun k => impl_stripped.f k l) (trimI l) := by
  induction n with
  | zero =>
    intro l hn hl
    obtain rfl := List.eq_nil_of_length_eq_zero hn
    refine Ev.step (fun k => rfl) ?_
    simp only [impl_stripped.f, impl_stripped.l0]
    exact Ev_if (fun h => by simp at h) (fun _ => Ev_bindS (clone_eq [] (by simp)) (Ev.now _))
  | succ n ih =>
    intro l hn hl
    obtain ⟨q, a, rfl⟩ : ∃ q a, l = q ++ [a] := List_snoc l (by omega)
    have hq : q.length = n := by simpa using hn
    have e1 : wrap64 (((q ++ [a]).length : Int) - 1) = (q.length : Int) := by simp only [List.length_append, List.length_singleton] at hl ⊢; unfold wrap64; omega
    have e2 : (q ++ [a]).take ((q.length : Int)).toNat = q := by simp
    refine Ev.step (fun k => rfl) ?_
    simp only [impl_stripped.f, impl_stripped.l0]
    rw [e1, rd_last, e2]
    simp only [List.length_append, List.length_singleton] at hl ⊢
    refine Ev_if (fun _ => Ev_if (fun _ => Ev_if (fun _ => Ev_if (fun h => Ev_if (fun _ => ?_) (fun h => by omega)) (fun h => ?_)) (fun h => by omega)) (fun h => by omega)) (fun h => by omega)
    · subst h; rw [trimI_zero]; exact ih q hq (by omega)
    · rw [trimI_last q a h]; exact Ev_bindS (clone_eq _ (by simp; omega)) (Ev.now _)
theorem sgTrim_eq (n : Nat) : ∀ l : List Int, l.length = n → l.length ≤ 1000000 → Ev (fun k => spec_sgTrim.f k l) (trimI l) := by
  induction n with
  | zero =>
    intro l hn hl
    obtain rfl := List.eq_nil_of_length_eq_zero hn
    refine Ev.step (fun k => rfl) ?_
    simp only [spec_sgTrim.f, spec_sgTrim.l0]
    exact Ev_if (fun h => by simp at h) (fun _ => Ev_bindS (own_eq [] (by simp)) (Ev.now _))
  | succ n ih =>
    intro l hn hl
    obtain ⟨q, a, rfl⟩ : ∃ q a, l = q ++ [a] := List_snoc l (by omega)
    have hq : q.length = n := by simpa using hn
    have e1 : wrap64 (((q ++ [a]).length : Int) - 1) = (q.length : Int) := by simp only [List.length_append, List.length_singleton] at hl ⊢; unfold wrap64; omega
    have e2 : (q ++ [a]).take ((q.length : Int)).toNat = q := by simp
    refine Ev.step (fun k => rfl) ?_
    simp only [spec_sgTrim.f, spec_sgTrim.l0]
    rw [e1, rd_last, e2]
    simp only [List.length_append, List.length_singleton] at hl ⊢
    refine Ev_if (fun _ => Ev_if (fun _ => Ev_if (fun _ => Ev_if (fun h => Ev_if (fun _ => ?_) (fun h => by omega)) (fun h => ?_)) (fun h => by omega)) (fun h => by omega)) (fun h => by omega)
    · subst h; rw [trimI_zero]; exact ih q hq (by omega)
    · rw [trimI_last q a h]; exact Ev_bindS (own_eq _ (by simp; omega)) (Ev.now _)
theorem contentI_dvd (l : List Int) : ∀ d, contentI d l ∣ d ∧ ∀ x ∈ l, contentI d l ∣ x := by
  induction l with
  | nil => intro d; exact ⟨Int.dvd_refl _, fun x hx => by cases hx⟩
  | cons a l ih =>
    intro d
    obtain ⟨h1, h2⟩ := ih ((Int.gcd d a : Nat) : Int)
    refine ⟨Int.dvd_trans h1 (Int.gcd_dvd_left ..), fun x hx => ?_⟩
    rcases List.mem_cons.1 hx with e | hx
    · subst e; exact Int.dvd_trans h1 (Int.gcd_dvd_right ..)
    · exact h2 x hx
theorem contentI_range (l : List Int) (m : Int) (hm : 0 ≤ m) (hb : boundB l m) : ∀ d, 0 ≤ d ∧ d ≤ m → 0 ≤ contentI d l ∧ contentI d l ≤ m := by
  induction l with
  | nil => intro d hd; exact hd
  | cons a l ih =>
    intro d hd
    exact ih (fun x hx => hb x (List.mem_cons_of_mem _ hx)) _ (gcd_bound d a m hd (hb a List.mem_cons_self))
theorem contentI_pos (l : List Int) (x : Int) (hx : x ∈ l) (h : x ≠ 0) : contentI 0 l ≠ 0 := by
  intro e
  have := (contentI_dvd l 0).2 x hx
  rw [e] at this
  exact h (Int.zero_dvd.1 this)
def partI (l : List Int) : List Int := l.map fun x => Int.tdiv x (contentI 0 l)
theorem tdiv_bound (x d : Int) : -((x.natAbs : Nat) : Int) ≤ Int.tdiv x d ∧ Int.tdiv x d ≤ ((x.natAbs : Nat) : Int) := by
  have h : (Int.tdiv x d).natAbs ≤ x.natAbs := by rw [Int.natAbs_tdiv]; exact Nat.div_le_self _ _
  omega
theorem part_bound (l : List Int) (m : Int) (hb : boundB l m) : boundB (partI l) m := by
  intro y hy
  obtain ⟨x, hx, rfl⟩ := List.mem_map.1 hy
  have h1 := tdiv_bound x (contentI 0 l)
  have h2 := hb x hx
  omega
theorem part_length (l : List Int) : (partI l).length = l.length := by simp [partI]
theorem rd_part (l : List Int) (i : Nat) (h : i < l.length) : rd (partI l) (i : Int) = Int.tdiv (rd l (i : Int)) (contentI 0 l) := by
  rw [rd_getElem _ i (by rw [part_length]; exact h), rd_getElem l i h]; simp [partI]
theorem tdiv_ne_zero (x d : Int) (hd : d ∣ x) (hx : x ≠ 0) : Int.tdiv x d ≠ 0 := by
  intro h
  have := Int.tdiv_mul_cancel hd
  rw [h] at this; simp at this; exact hx this.symm
theorem sgPart_l0 (l : List Int) (hl : l.length ≤ 1000000) (d : Int) (hd : d ≠ 0) (m : Int) (hm : 0 ≤ m ∧ m ≤ 4611686018427387904) (hb : boundB l m) (n : Nat) : ∀ (i : Nat) (acc : List Int), i ≤ l.length → l.length - i = n → acc.length ≤ i → Ev (fun k => spec_sgPart.l0 k d acc l (l.length : Int) (i : Int)) (acc ++ (l.drop i).map fun x => Int.tdiv x d) := by
  induction n with
  | zero =>
    intro i acc hi hn ha
    refine Ev.step (fun k => rfl) ?_
    simp only [spec_sgPart.l0]
    refine Ev_if (fun h => by omega) (fun _ => ?_)
    rw [List.drop_eq_nil_of_le (by omega)]; exact Ev_eq (Ev.now _) (by simp)
  | succ n ih =>
    intro i acc hi hn ha
    have h1 := hb _ (rd_mem l i (by omega))
    have h2 := tdiv_bound (rd l (i : Int)) d
    refine Ev.step (fun k => rfl) ?_
    simp only [spec_sgPart.l0]
    rw [wrap_next i (by omega), show wrap64 (Int.tdiv (rd l (i : Int)) d) = Int.tdiv (rd l (i : Int)) d by unfold wrap64; omega, drop_rd l i (by omega)]
    refine Ev_if (fun _ => Ev_if (fun _ => Ev_if (fun _ => Ev_if (fun h => absurd h hd) (fun _ => Ev_if (fun _ => ?_) (fun h => by omega))) (fun h => by omega)) (fun h => by omega)) (fun h => by omega)
    exact Ev_eq (ih (i + 1) _ (by omega) (by omega) (by simp; omega)) (by simp)
theorem divided_l0 (l : List Int) (hl : l.length ≤ 1000000) (d : Int) (hd : d ≠ 0) (m : Int) (hm : 0 ≤ m ∧ m ≤ 4611686018427387904) (hb : boundB l m) (n : Nat) : ∀ (i : Nat) (acc : List Int), i ≤ l.length → l.length - i = n → acc.length ≤ i → Ev (fun k => impl_divided.l0 k d acc l (l.length : Int) (i : Int)) (acc ++ (l.drop i).map fun x => Int.tdiv x d) := by
  induction n with
  | zero =>
    intro i acc hi hn ha
    refine Ev.step (fun k => rfl) ?_
    simp only [impl_divided.l0]
    refine Ev_if (fun h => by omega) (fun _ => ?_)
    rw [List.drop_eq_nil_of_le (by omega)]; exact Ev_eq (Ev.now _) (by simp)
  | succ n ih =>
    intro i acc hi hn ha
    have h1 := hb _ (rd_mem l i (by omega))
    have h2 := tdiv_bound (rd l (i : Int)) d
    refine Ev.step (fun k => rfl) ?_
    simp only [impl_divided.l0]
    rw [wrap_next i (by omega), show wrap64 (Int.tdiv (rd l (i : Int)) d) = Int.tdiv (rd l (i : Int)) d by unfold wrap64; omega, drop_rd l i (by omega)]
    refine Ev_if (fun _ => Ev_if (fun _ => Ev_if (fun _ => Ev_if (fun h => absurd h hd) (fun _ => Ev_if (fun _ => ?_) (fun h => by omega))) (fun h => by omega)) (fun h => by omega)) (fun h => by omega)
    exact Ev_eq (ih (i + 1) _ (by omega) (by omega) (by simp; omega)) (by simp)
/-- Empty, or with a last number that is not 0. -/
def tight (l : List Int) : Prop := 0 < l.length → rd l ((l.length : Int) - 1) ≠ 0
theorem tight_pos (l : List Int) (h : tight l) (h0 : 0 < l.length) : contentI 0 l ≠ 0 := by
  have e : ((l.length : Int) - 1) = ((l.length - 1 : Nat) : Int) := by omega
  have h1 := h h0
  rw [e] at h1
  exact contentI_pos l _ (rd_mem l (l.length - 1) (by omega)) h1
theorem tight_part (l : List Int) (h : tight l) : tight (partI l) := by
  intro h0
  rw [part_length] at h0 ⊢
  have e : ((l.length : Int) - 1) = ((l.length - 1 : Nat) : Int) := by omega
  have h1 := h h0
  rw [e] at h1 ⊢
  rw [rd_part l _ (by omega)]
  exact tdiv_ne_zero _ _ ((contentI_dvd l 0).2 _ (rd_mem l _ (by omega))) h1
theorem sgPart_ev (l : List Int) (hl : l.length ≤ 1000000) (m : Int) (hm : 0 ≤ m ∧ m ≤ 4611686018427387904) (hb : boundB l m) (ht : tight l) : Ev (fun k => spec_sgPart.f k l) (partI l) := by
  refine Ev.bind (sgContent_eq l hl m hm hb) ?_
  by_cases h0 : l.length = 0
  · have := List.eq_nil_of_length_eq_zero h0
    subst this
    exact Ev.step (f := fun _ => some []) (fun z => rfl) (Ev.now _)
  · have h := sgPart_l0 l hl (contentI 0 l) (tight_pos l ht (by omega)) m hm hb l.length 0 [] (by omega) (by omega) (by simp)
    simpa [partI] using h
theorem divided_ev (l : List Int) (hl : l.length ≤ 1000000) (m : Int) (hm : 0 ≤ m ∧ m ≤ 4611686018427387904) (hb : boundB l m) (ht : tight l) : Ev (fun k => impl_divided.f k l) (partI l) := by
  refine Ev.bind (contentOf_eq l hl m hm hb) ?_
  by_cases h0 : l.length = 0
  · have := List.eq_nil_of_length_eq_zero h0
    subst this
    exact Ev.step (f := fun _ => some []) (fun z => rfl) (Ev.now _)
  · have hp := tight_pos l ht (by omega)
    have hr := contentI_range l m hm.1 hb 0 ⟨by omega, by omega⟩
    have h := divided_l0 l hl (contentI 0 l) hp m hm hb l.length 0 [] (by omega) (by omega) (by simp)
    rw [show mx (contentI 0 l) 1 = contentI 0 l by unfold mx; split <;> omega]
    simpa [partI] using h
theorem trimI_tight (l : List Int) : tight (trimI l) := by
  generalize hn : l.length = n
  induction n generalizing l with
  | zero => have := List.eq_nil_of_length_eq_zero hn; subst this; intro h; simp [trimI] at h
  | succ n ih =>
    obtain ⟨q, a, rfl⟩ := List_snoc l (by omega)
    by_cases ha : a = 0
    · subst ha; rw [trimI_zero]; exact ih q (by simpa using hn)
    · rw [trimI_last q a ha]
      intro _
      have e : (((q ++ [a]).length : Int) - 1) = (q.length : Int) := by simp
      rw [e, rd_last]; exact ha
theorem trimI_sub (l : List Int) : ∀ x ∈ trimI l, x ∈ l := by
  intro x hx
  unfold trimI at hx
  have := (List.dropWhile_sublist (fun x => x == 0) (l := l.reverse)).subset (by simpa using hx)
  simpa using this
theorem gcd_exact (a b : Int) (hb : b ≠ 0) : a * Int.tdiv (absI b) ((Int.gcd a b : Nat) : Int) = absI b * Int.tdiv a ((Int.gcd a b : Nat) : Int) := by
  obtain ⟨g, hg⟩ : ∃ g : Int, ((Int.gcd a b : Nat) : Int) = g := ⟨_, rfl⟩
  have h1 : g ∣ a := by rw [← hg]; exact Int.gcd_dvd_left ..
  have h2 : g ∣ b := by rw [← hg]; exact Int.gcd_dvd_right ..
  have h3 : g ∣ absI b := by unfold absI; exact Int.dvd_natAbs.2 h2
  have hg0 : g ≠ 0 := by
    intro e; rw [e] at h2; exact hb (Int.zero_dvd.1 h2)
  rw [hg]
  obtain ⟨u, hu⟩ := h1
  obtain ⟨v, hv⟩ := h3
  rw [hv, Int.mul_tdiv_cancel_left _ hg0]
  rw [hu, Int.mul_tdiv_cancel_left _ hg0]
  rw [Int.mul_assoc, Int.mul_assoc, Int.mul_comm u v]
theorem up_eq (b g : Int) (hb : -1000000000 ≤ b ∧ b ≤ 1000000000) (hg : 0 < g) : mx (wrap64 (Int.tdiv b g)) (wrap64 (Int.tdiv (wrap64 (-b)) g)) = Int.tdiv (absI b) g := by
  have h1 := tdiv_bound b g
  rw [show wrap64 (-b) = -b by unfold wrap64; omega, Int.neg_tdiv, show wrap64 (Int.tdiv b g) = Int.tdiv b g by unfold wrap64; omega, show wrap64 (-Int.tdiv b g) = -Int.tdiv b g by unfold wrap64; omega]
  unfold absI mx
  by_cases h : 0 ≤ b
  · have h2 := Int.tdiv_nonneg h (by omega : 0 ≤ g)
    rw [if_neg (by omega), show ((b.natAbs : Nat) : Int) = b by omega]
  · have h2 := Int.tdiv_nonneg (show 0 ≤ -b by omega) (by omega : 0 ≤ g)
    rw [Int.neg_tdiv] at h2
    rw [show ((b.natAbs : Nat) : Int) = -b by omega, Int.neg_tdiv]
    split <;> omega
/-- The factor of q, with the sign of b. -/
def downI (a b : Int) : Int := if b < 0 then -(Int.tdiv a ((Int.gcd a b : Nat) : Int)) else Int.tdiv a ((Int.gcd a b : Nat) : Int)
def upI (a b : Int) : Int := Int.tdiv (absI b) ((Int.gcd a b : Nat) : Int)
theorem up_down (a b : Int) (hb : b ≠ 0) : a * upI a b = b * downI a b := by
  unfold upI downI
  rw [gcd_exact a b hb]
  unfold absI
  split
  · rw [show ((b.natAbs : Nat) : Int) = -b by omega, Int.mul_neg, Int.neg_mul]
  · rw [show ((b.natAbs : Nat) : Int) = b by omega]
theorem up_bound (a b : Int) (hb : -1000000000 ≤ b ∧ b ≤ 1000000000) : -1000000000 ≤ upI a b ∧ upI a b ≤ 1000000000 := by
  have := tdiv_bound (absI b) ((Int.gcd a b : Nat) : Int)
  unfold upI
  unfold absI at this ⊢
  omega
theorem down_bound (a b : Int) (ha : -1000000000 ≤ a ∧ a ≤ 1000000000) : -1000000000 ≤ downI a b ∧ downI a b ≤ 1000000000 := by
  have := tdiv_bound a ((Int.gcd a b : Nat) : Int)
  unfold downI
  split <;> omega
/-- A list in which the places s .. s + i - 1 have lost the multiples of q. -/
def lessI (X q : List Int) (down : Int) (s i : Nat) : List Int := (List.range X.length).map fun j => if s ≤ j ∧ j < s + i then wrap64 (rd X (j : Int) - wrap64 (rd q ((j - s : Nat) : Int) * down)) else rd X (j : Int)
theorem lessI_length (X q : List Int) (down : Int) (s i : Nat) : (lessI X q down s i).length = X.length := by simp [lessI]
theorem lessI_rd (X q : List Int) (down : Int) (s i j : Nat) (h : j < X.length) : rd (lessI X q down s i) (j : Int) = if s ≤ j ∧ j < s + i then wrap64 (rd X (j : Int) - wrap64 (rd q ((j - s : Nat) : Int) * down)) else rd X (j : Int) := by
  rw [rd_getElem _ j (by rw [lessI_length]; exact h)]; simp [lessI]
theorem lessI_zero (X q : List Int) (down : Int) (s : Nat) : lessI X q down s 0 = X := by
  apply List.ext_getElem (by rw [lessI_length])
  intro j h1 h2
  have h3 := lessI_rd X q down s 0 j h2
  rw [rd_getElem _ j h1, rd_getElem X j h2, if_neg (by omega)] at h3
  exact h3
theorem lessI_set (X q : List Int) (down : Int) (s i : Nat) (h : s + i < X.length) : (lessI X q down s i).set (s + i) (wrap64 (rd (lessI X q down s i) ((s + i : Nat) : Int) - wrap64 (rd q (i : Int) * down))) = lessI X q down s (i + 1) := by
  apply List.ext_getElem (by rw [List.length_set, lessI_length, lessI_length])
  intro j h1 h2
  have hj : j < X.length := by rw [lessI_length] at h2; exact h2
  have e2 := lessI_rd X q down s (i + 1) j hj
  rw [rd_getElem _ j h2] at e2
  rw [e2, List.getElem_set]
  by_cases e : s + i = j
  · subst e
    rw [if_pos rfl, if_pos (by omega), lessI_rd X q down s i _ h, if_neg (by omega), show s + i - s = i by omega]
  · rw [if_neg e]
    have e1 := lessI_rd X q down s i j hj
    rw [rd_getElem _ j (by rw [lessI_length]; exact hj)] at e1
    rw [e1]
    by_cases hc : s ≤ j ∧ j < s + i
    · rw [if_pos hc, if_pos (by omega)]
    · rw [if_neg hc, if_neg (by omega)]
def mulI (p : List Int) (u : Int) : List Int := p.map fun x => wrap64 (x * u)
theorem mulI_length (p : List Int) (u : Int) : (mulI p u).length = p.length := by simp [mulI]
theorem mulI_rd (p : List Int) (u : Int) (j : Nat) (h : j < p.length) : rd (mulI p u) (j : Int) = wrap64 (rd p (j : Int) * u) := by
  rw [rd_getElem _ j (by rw [mulI_length]; exact h), rd_getElem p j h]; simp [mulI]
theorem idx_eq (p q : List Int) (hp : p.length ≤ 1000000) (hq : q.length ≤ p.length) (i : Nat) (hi : i ≤ q.length) : wrap64 (wrap64 ((i : Int) + (p.length : Int)) - (q.length : Int)) = ((p.length - q.length + i : Nat) : Int) := by unfold wrap64; omega
/-- What one step leaves. -/
def nextI (p q : List Int) : List Int := lessI (mulI p (upI (rd p ((p.length : Int) - 1)) (rd q ((q.length : Int) - 1)))) q (downI (rd p ((p.length : Int) - 1)) (rd q ((q.length : Int) - 1))) (p.length - q.length) q.length
theorem nextI_length (p q : List Int) : (nextI p q).length = p.length := by unfold nextI; rw [lessI_length, mulI_length]
def tail1 (N : List Int) (z : Nat) : Option (List Int × Bool) := (spec_sgTrim.f z N).bind fun t => (spec_sgPart.f z t).bind fun t => (spec_l1All.f z t (-1000000000) 1000000000).bind fun t' => some (t, t')
theorem step_l1 (p q : List Int) (down : Int) (X : List Int) (hX : X.length = p.length) (hp : p.length ≤ 1000000) (hq : q.length ≤ p.length) (n : Nat) : ∀ (i : Nat), i ≤ q.length → q.length - i = n →
    ∀ r, Ev (tail1 (lessI X q down (p.length - q.length) q.length)) r → Ev (fun z => spec_sgStep.l1 z p q down (lessI X q down (p.length - q.length) i) q (q.length : Int) (i : Int)) r := by
  induction n with
  | zero =>
    intro i hi hn r hr
    have e : i = q.length := by omega
    subst e
    refine Ev.step (fun z => rfl) ?_
    simp only [spec_sgStep.l1]
    exact Ev_if (fun h => by omega) (fun _ => hr)
  | succ n ih =>
    intro i hi hn r hr
    refine Ev.step (fun z => rfl) ?_
    simp only [spec_sgStep.l1]
    rw [idx_eq p q hp hq i hi, wrap_next i (by omega), Int.toNat_natCast, lessI_set X q down _ i (by omega), lessI_length]
    exact Ev_if (fun _ => Ev_if (fun _ => Ev_if (fun _ => Ev_if (fun _ => Ev_if (fun _ => ih (i + 1) (by omega) (by omega) r hr) (fun h => by omega)) (fun h => by omega)) (fun h => by omega)) (fun h => by omega)) (fun h => by omega)
theorem step_l0 (p q : List Int) (up down : Int) (hp : p.length ≤ 1000000) (hq : q.length ≤ p.length) (n : Nat) : ∀ (i : Nat), i ≤ p.length → p.length - i = n →
    ∀ r, Ev (tail1 (lessI (mulI p up) q down (p.length - q.length) q.length)) r → Ev (fun z => spec_sgStep.l0 z p q up down ((mulI p up).take i) p (p.length : Int) (i : Int)) r := by
  induction n with
  | zero =>
    intro i hi hn r hr
    refine Ev.step (fun z => rfl) ?_
    simp only [spec_sgStep.l0]
    refine Ev_if (fun h => by omega) (fun _ => ?_)
    rw [List.take_of_length_le (by rw [mulI_length]; omega)]
    have h := step_l1 p q down (mulI p up) (mulI_length _ _) hp hq q.length 0 (by omega) (by omega) r hr
    rw [lessI_zero] at h
    exact h
  | succ n ih =>
    intro i hi hn r hr
    refine Ev.step (fun z => rfl) ?_
    simp only [spec_sgStep.l0]
    have e : (mulI p up).take i ++ [wrap64 (rd p (i : Int) * up)] = (mulI p up).take (i + 1) := by
      have h1 : i < (mulI p up).length := by rw [mulI_length]; omega
      rw [← mulI_rd p up i (by omega), rd_getElem _ i h1, List.take_succ_eq_append_getElem h1]
    rw [wrap_next i (by omega), e]
    exact Ev_if (fun _ => Ev_if (fun _ => Ev_if (fun _ => Ev_if (fun _ => ih (i + 1) (by omega) (by omega) r hr) (fun h => absurd (by simp; omega) h)) (fun h => by omega)) (fun h => by omega)) (fun h => by omega)
theorem gcd_abs2 (a b : Int) : Int.gcd (absI a) (absI b) = Int.gcd a b := by unfold absI; simp [Int.gcd]
theorem sgStep_ev (p q : List Int) (hp : p.length ≤ 1000000) (hq : q.length ≤ p.length) (hq0 : 0 < q.length) (hpb : boundB p 1000000000) (hqb : boundB q 1000000000) (hb : rd q ((q.length : Int) - 1) ≠ 0) :
    ∀ r, Ev (tail1 (nextI p q)) r → Ev (fun z => spec_sgStep.f z p q) r := by
  intro r hr
  have hw1 : wrap64 ((q.length : Int) - 1) = (q.length : Int) - 1 := by unfold wrap64; omega
  have hw2 : wrap64 ((p.length : Int) - 1) = (p.length : Int) - 1 := by unfold wrap64; omega
  have ma : rd p ((p.length : Int) - 1) ∈ p := by
    have e : ((p.length : Int) - 1) = ((p.length - 1 : Nat) : Int) := by omega
    rw [e]; exact rd_mem p _ (by omega)
  have mb : rd q ((q.length : Int) - 1) ∈ q := by
    have e : ((q.length : Int) - 1) = ((q.length - 1 : Nat) : Int) := by omega
    rw [e]; exact rd_mem q _ (by omega)
  unfold nextI at hr
  obtain ⟨a, ha⟩ : ∃ a, rd p ((p.length : Int) - 1) = a := ⟨_, rfl⟩
  obtain ⟨b, hbe⟩ : ∃ b, rd q ((q.length : Int) - 1) = b := ⟨_, rfl⟩
  rw [ha] at ma hr
  rw [hbe] at mb hb hr
  have hab := hpb a ma
  have hbb := hqb b mb
  have hg := sgGcd_eq (absI a) (absI b) (by unfold absI; omega) (by unfold absI; omega)
  rw [gcd_abs2] at hg
  obtain ⟨g, hge⟩ : ∃ g : Int, ((Int.gcd a b : Nat) : Int) = g := ⟨_, rfl⟩
  have hg0 : g ≠ 0 := by
    intro e
    have h2 : g ∣ b := by rw [← hge]; exact Int.gcd_dvd_right ..
    rw [e] at h2; exact hb (Int.zero_dvd.1 h2)
  have ub := up_bound a b hbb
  have db := down_bound a b hab
  have dt := tdiv_bound a g
  have hj : ∀ r, Ev (tail1 (lessI (mulI p (upI a b)) q (downI a b) (p.length - q.length) q.length)) r → Ev (fun z => spec_sgStep.j0 z p q (upI a b) (downI a b)) r := by
    intro r hr
    refine Ev.step (fun z => rfl) ?_
    simp only [spec_sgStep.j0]
    have h := step_l0 p q (upI a b) (downI a b) hp hq p.length 0 (by omega) (by omega) r hr
    simpa using h
  unfold spec_sgStep.f
  rw [hw1, hw2, ha, hbe]
  refine Ev_if (fun _ => Ev_if (fun _ => Ev_if (fun _ => Ev_if (fun _ => ?_) (fun h => by omega)) (fun h => by omega)) (fun h => by omega)) (fun h => by omega)
  refine Ev_bindS (l1Abs_eq a ⟨by omega, by omega⟩) (Ev_bindS (l1Abs_eq b ⟨by omega, by omega⟩) (Ev.bind hg ?_))
  rw [hge]
  have eu : wrap64 (Int.tdiv (absI b) g) = upI a b := by
    have : Int.tdiv (absI b) g = upI a b := by unfold upI; rw [hge]
    rw [this]; unfold wrap64; omega
  have ed : wrap64 (Int.tdiv a g) = Int.tdiv a g := by unfold wrap64; omega
  have edn : wrap64 (-(Int.tdiv a g)) = -(Int.tdiv a g) := by unfold wrap64; omega
  rw [eu, ed, edn]
  refine Ev_if (fun h => absurd h hg0) (fun _ => Ev_if (fun hneg => ?_) (fun hneg => ?_))
  · have e : -(Int.tdiv a g) = downI a b := by unfold downI; rw [if_pos hneg, hge]
    rw [e]; exact hj r hr
  · have e : Int.tdiv a g = downI a b := by unfold downI; rw [if_neg hneg, hge]
    rw [e]; exact hj r hr
def tailI (q : List Int) (b : Int) (N : List Int) (z : Nat) : Option (List Int × Bool) := (impl_stripped.f z N).bind fun t => (impl_divided.f z t).bind fun t => (slices_ContainsFunc_int_int__impl_remainder_1.f t).bind fun t' => if t' = true then some (([] : List Int), false) else impl_remainder.l0 z t q b
theorem rem_l2 (p q : List Int) (b down : Int) (X : List Int) (hX : X.length = p.length) (hp : p.length ≤ 1000000) (hq : q.length ≤ p.length) (n : Nat) : ∀ (i : Nat), i ≤ q.length → q.length - i = n →
    ∀ r, Ev (tailI q b (lessI X q down (p.length - q.length) q.length)) r → Ev (fun z => impl_remainder.l2 z p q b down (lessI X q down (p.length - q.length) i) q (q.length : Int) (i : Int)) r := by
  induction n with
  | zero =>
    intro i hi hn r hr
    have e : i = q.length := by omega
    subst e
    refine Ev.step (fun z => rfl) ?_
    simp only [impl_remainder.l2]
    exact Ev_if (fun h => by omega) (fun _ => hr)
  | succ n ih =>
    intro i hi hn r hr
    refine Ev.step (fun z => rfl) ?_
    simp only [impl_remainder.l2]
    rw [idx_eq p q hp hq i hi, wrap_next i (by omega), Int.toNat_natCast, Int.mul_comm down, lessI_set X q down _ i (by omega), lessI_length]
    exact Ev_if (fun _ => Ev_if (fun _ => Ev_if (fun _ => Ev_if (fun _ => Ev_if (fun _ => ih (i + 1) (by omega) (by omega) r hr) (fun h => by omega)) (fun h => by omega)) (fun h => by omega)) (fun h => by omega)) (fun h => by omega)
theorem mul_fill (p : List Int) (u : Int) (i : Nat) (h : i < p.length) : ((mulI p u).take i ++ List.replicate (p.length - i) 0).set i (wrap64 (u * rd p (i : Int))) = (mulI p u).take (i + 1) ++ List.replicate (p.length - (i + 1)) 0 := by
  have h1 : i < (mulI p u).length := by rw [mulI_length]; exact h
  have h2 : p.length - i = (p.length - (i + 1)) + 1 := by omega
  rw [Int.mul_comm u, ← mulI_rd p u i h, rd_getElem _ i h1, List.take_succ_eq_append_getElem h1, h2, List.replicate_succ, List.set_append_right _ _ (by simp; omega)]
  have h3 : i - ((mulI p u).take i).length = 0 := by simp; omega
  rw [h3, List.set_cons_zero, List.append_assoc]
  rfl
theorem rem_l1 (p q : List Int) (b up down : Int) (hp : p.length ≤ 1000000) (hq : q.length ≤ p.length) (n : Nat) : ∀ (i : Nat), i ≤ p.length → p.length - i = n →
    ∀ r, Ev (tailI q b (lessI (mulI p up) q down (p.length - q.length) q.length)) r → Ev (fun z => impl_remainder.l1 z p q b up down ((mulI p up).take i ++ List.replicate (p.length - i) 0) p (p.length : Int) (i : Int)) r := by
  induction n with
  | zero =>
    intro i hi hn r hr
    have e : i = p.length := by omega
    subst e
    refine Ev.step (fun z => rfl) ?_
    simp only [impl_remainder.l1]
    refine Ev_if (fun h => by omega) (fun _ => ?_)
    have h := rem_l2 p q b down (mulI p up) (mulI_length _ _) hp hq q.length 0 (by omega) (by omega) r hr
    rw [lessI_zero] at h
    rw [List.take_of_length_le (by rw [mulI_length]; omega), Nat.sub_self]
    simpa using h
  | succ n ih =>
    intro i hi hn r hr
    refine Ev.step (fun z => rfl) ?_
    simp only [impl_remainder.l1]
    rw [wrap_next i (by omega), Int.toNat_natCast, mul_fill p up i (by omega)]
    refine Ev_if (fun _ => Ev_if (fun _ => Ev_if (fun _ => Ev_if (fun _ => ih (i + 1) (by omega) (by omega) r hr) (fun h => absurd ?_ h)) (fun h => by omega)) (fun h => by omega)) (fun h => by omega)
    simp only [List.length_append, List.length_take, List.length_replicate, mulI_length]; omega
theorem rem_step (p q : List Int) (hp : p.length ≤ 1000000) (hq : q.length ≤ p.length) (hq0 : 0 < q.length) (hpb : boundB p 1000000000) (hqb : boundB q 1000000000) (hb : rd q ((q.length : Int) - 1) ≠ 0) :
    ∀ r, Ev (tailI q (rd q ((q.length : Int) - 1)) (nextI p q)) r → Ev (fun z => impl_remainder.l0 z p q (rd q ((q.length : Int) - 1))) r := by
  intro r hr
  have hw2 : wrap64 ((p.length : Int) - 1) = (p.length : Int) - 1 := by unfold wrap64; omega
  have ma : rd p ((p.length : Int) - 1) ∈ p := by
    have e : ((p.length : Int) - 1) = ((p.length - 1 : Nat) : Int) := by omega
    rw [e]; exact rd_mem p _ (by omega)
  have mb : rd q ((q.length : Int) - 1) ∈ q := by
    have e : ((q.length : Int) - 1) = ((q.length - 1 : Nat) : Int) := by omega
    rw [e]; exact rd_mem q _ (by omega)
  unfold nextI at hr
  obtain ⟨a, ha⟩ : ∃ a, rd p ((p.length : Int) - 1) = a := ⟨_, rfl⟩
  obtain ⟨b, hbe⟩ : ∃ b, rd q ((q.length : Int) - 1) = b := ⟨_, rfl⟩
  rw [ha] at ma hr
  rw [hbe] at mb hb hr ⊢
  have hab := hpb a ma
  have hbb := hqb b mb
  have hg := gcd_eq a b ⟨by omega, by omega⟩ ⟨by omega, by omega⟩
  obtain ⟨g, hge⟩ : ∃ g : Int, ((Int.gcd a b : Nat) : Int) = g := ⟨_, rfl⟩
  have hg0 : g ≠ 0 := by
    intro e
    have h2 : g ∣ b := by rw [← hge]; exact Int.gcd_dvd_right ..
    rw [e] at h2; exact hb (Int.zero_dvd.1 h2)
  have hgp : 0 < g := by omega
  have ub := up_bound a b hbb
  have db := down_bound a b hab
  have dt := tdiv_bound a g
  have hj : ∀ r, Ev (tailI q b (lessI (mulI p (upI a b)) q (downI a b) (p.length - q.length) q.length)) r → Ev (fun z => impl_remainder.j1 z p q b (upI a b) (downI a b)) r := by
    intro r hr
    refine Ev.step (fun z => rfl) ?_
    simp only [impl_remainder.j1]
    rw [Int.toNat_natCast]
    have h := rem_l1 p q b (upI a b) (downI a b) hp hq p.length 0 (by omega) (by omega) r hr
    refine Ev_if (fun _ => Ev_if (fun _ => ?_) (fun h => by omega)) (fun h => by omega)
    simpa using h
  refine Ev.step (fun z => rfl) ?_
  simp only [impl_remainder.l0]
  rw [hw2, ha]
  refine Ev_if (fun _ => Ev_if (fun _ => Ev_if (fun _ => Ev.bind hg ?_) (fun h => by omega)) (fun h => by omega)) (fun h => by omega)
  rw [hge]
  have eu : mx (wrap64 (Int.tdiv b g)) (wrap64 (Int.tdiv (wrap64 (-b)) g)) = upI a b := by
    rw [up_eq b g hbb hgp]; unfold upI; rw [hge]
  have ed : wrap64 (Int.tdiv a g) = Int.tdiv a g := by unfold wrap64; omega
  have edn : wrap64 (-(Int.tdiv a g)) = -(Int.tdiv a g) := by unfold wrap64; omega
  rw [eu, ed, edn]
  refine Ev_if (fun h => absurd h hg0) (fun _ => Ev_if (fun hneg => ?_) (fun hneg => ?_))
  · have e : -(Int.tdiv a g) = downI a b := by unfold downI; rw [if_pos hneg, hge]
    rw [e]; exact hj r hr
  · have e : Int.tdiv a g = downI a b := by unfold downI; rw [if_neg hneg, hge]
    rw [e]; exact hj r hr
theorem mul_bound (x y : Int) (hx : -1000000000 ≤ x ∧ x ≤ 1000000000) (hy : -1000000000 ≤ y ∧ y ≤ 1000000000) : -1000000000000000000 ≤ x * y ∧ x * y ≤ 1000000000000000000 := by
  have h1 : (x * y).natAbs ≤ 1000000000 * 1000000000 := by rw [Int.natAbs_mul]; exact Nat.mul_le_mul (by omega) (by omega)
  omega
/-- One step: its numbers are not too large, and its last one is 0. -/
theorem next_facts (p q : List Int) (hq : q.length ≤ p.length) (hq0 : 0 < q.length) (hpb : boundB p 1000000000) (hqb : boundB q 1000000000) (hb : rd q ((q.length : Int) - 1) ≠ 0) :
    boundB (nextI p q) 2000000000000000000 ∧ (trimI (nextI p q)).length < p.length := by
  have ma : rd p ((p.length : Int) - 1) ∈ p := by
    have e : ((p.length : Int) - 1) = ((p.length - 1 : Nat) : Int) := by omega
    rw [e]; exact rd_mem p _ (by omega)
  have mb : rd q ((q.length : Int) - 1) ∈ q := by
    have e : ((q.length : Int) - 1) = ((q.length - 1 : Nat) : Int) := by omega
    rw [e]; exact rd_mem q _ (by omega)
  have hl := nextI_length p q
  have hud := up_down (rd p ((p.length : Int) - 1)) (rd q ((q.length : Int) - 1)) hb
  have ub := up_bound (rd p ((p.length : Int) - 1)) (rd q ((q.length : Int) - 1)) (hqb _ mb)
  have db := down_bound (rd p ((p.length : Int) - 1)) (rd q ((q.length : Int) - 1)) (hpb _ ma)
  have key : ∀ j : Nat, j < p.length → rd (nextI p q) (j : Int) = rd p (j : Int) * upI (rd p ((p.length : Int) - 1)) (rd q ((q.length : Int) - 1)) - (if p.length - q.length ≤ j then rd q ((j - (p.length - q.length) : Nat) : Int) * downI (rd p ((p.length : Int) - 1)) (rd q ((q.length : Int) - 1)) else 0) ∧ -2000000000000000000 ≤ rd (nextI p q) (j : Int) ∧ rd (nextI p q) (j : Int) ≤ 2000000000000000000 := by
    intro j hj
    have h1 := mul_bound _ _ (hpb _ (rd_mem p j hj)) ub
    unfold nextI
    rw [lessI_rd _ _ _ _ _ j (by rw [mulI_length]; exact hj), mulI_rd p _ j hj]
    have e1 : wrap64 (rd p (j : Int) * upI (rd p ((p.length : Int) - 1)) (rd q ((q.length : Int) - 1))) = rd p (j : Int) * upI (rd p ((p.length : Int) - 1)) (rd q ((q.length : Int) - 1)) := by unfold wrap64; omega
    rw [e1]
    by_cases hs : p.length - q.length ≤ j
    · have hr := rd_mem q (j - (p.length - q.length)) (by omega)
      have h2 := mul_bound _ _ (hqb _ hr) db
      have e2 : wrap64 (rd q ((j - (p.length - q.length) : Nat) : Int) * downI (rd p ((p.length : Int) - 1)) (rd q ((q.length : Int) - 1))) = rd q ((j - (p.length - q.length) : Nat) : Int) * downI (rd p ((p.length : Int) - 1)) (rd q ((q.length : Int) - 1)) := by unfold wrap64; omega
      rw [if_pos (by omega), if_pos hs, e2]
      have e3 : wrap64 (rd p (j : Int) * upI (rd p ((p.length : Int) - 1)) (rd q ((q.length : Int) - 1)) - rd q ((j - (p.length - q.length) : Nat) : Int) * downI (rd p ((p.length : Int) - 1)) (rd q ((q.length : Int) - 1))) = rd p (j : Int) * upI (rd p ((p.length : Int) - 1)) (rd q ((q.length : Int) - 1)) - rd q ((j - (p.length - q.length) : Nat) : Int) * downI (rd p ((p.length : Int) - 1)) (rd q ((q.length : Int) - 1)) := by unfold wrap64; omega
      rw [e3]
      exact ⟨rfl, by omega, by omega⟩
    · rw [if_neg (by omega), if_neg hs]
      exact ⟨by omega, by omega, by omega⟩
  constructor
  · intro x hx
    obtain ⟨j, hj, rfl⟩ := List.getElem_of_mem hx
    have := (key j (by omega)).2
    rw [rd_getElem _ j hj] at this
    exact this
  · obtain ⟨N, a, hN⟩ := List_snoc (nextI p q) (by omega)
    have hlN : N.length = p.length - 1 := by
      have := congrArg List.length hN
      rw [hl] at this; simp at this; omega
    have ha : a = 0 := by
      have h := (key (p.length - 1) (by omega)).1
      have e1 : rd (nextI p q) ((p.length - 1 : Nat) : Int) = a := by rw [hN, ← hlN, rd_last]
      rw [e1, if_pos (by omega), show p.length - 1 - (p.length - q.length) = q.length - 1 by omega] at h
      have e2 : ((p.length - 1 : Nat) : Int) = (p.length : Int) - 1 := by omega
      have e3 : ((q.length - 1 : Nat) : Int) = (q.length : Int) - 1 := by omega
      rw [e2, e3, hud] at h
      omega
    rw [hN, ha, trimI_zero]
    have := trimI_length N
    omega
theorem cf_rem (l : List Int) : slices_ContainsFunc_int_int__impl_remainder_1.f l = some (!(l.all fun x => decide ((-1000000000) ≤ x ∧ x ≤ 1000000000))) := by
  induction l with
  | nil => rfl
  | cons x q ih =>
    simp only [slices_ContainsFunc_int_int__impl_remainder_1.f, impl_remainder_1.f, inside_eq, Option.bind_some, List.all_cons, ih]
    by_cases h : (-1000000000) ≤ x ∧ x ≤ 1000000000
    · rw [decide_eq_true h]; rfl
    · rw [decide_eq_false h]; rfl
/-- The loop of remainders, both sides: the same list, shorter than q, or both do not pass. -/
theorem rem_loop (q : List Int) (hq0 : 0 < q.length) (hqb : boundB q 1000000000) (hb : rd q ((q.length : Int) - 1) ≠ 0) (n : Nat) : ∀ (p : List Int), p.length ≤ n → p.length ≤ 1000000 → boundB p 1000000000 → tight p →
    ∃ r ok, Ev (fun z => spec_sgRemainder.l0 z p q) (r, ok) ∧ Ev (fun z => impl_remainder.l0 z p q (rd q ((q.length : Int) - 1))) (r, ok) ∧ (ok = true → r.length < q.length ∧ boundB r 1000000000 ∧ tight r) ∧ (ok = false → r = []) := by
  induction n with
  | zero =>
    intro p hpn hp hpb ht
    refine ⟨p, true, ?_, ?_, fun _ => ⟨by omega, hpb, ht⟩, fun h => by cases h⟩
    · refine Ev.step (fun z => rfl) ?_
      simp only [spec_sgRemainder.l0]
      exact Ev_if (fun h => by omega) (fun _ => Ev.now _)
    · refine Ev.step (fun z => rfl) ?_
      simp only [impl_remainder.l0]
      exact Ev_if (fun h => by omega) (fun _ => Ev.now _)
  | succ n ih =>
    intro p hpn hp hpb ht
    by_cases hlen : q.length ≤ p.length
    · obtain ⟨nb, nt⟩ := next_facts p q hlen hq0 hpb hqb hb
      have hTb : boundB (trimI (nextI p q)) 2000000000000000000 := fun x hx => nb x (trimI_sub _ x hx)
      have hTt := trimI_tight (nextI p q)
      have hTl : (trimI (nextI p q)).length ≤ 1000000 := by omega
      have hPl := part_length (trimI (nextI p q))
      have hPt := tight_part _ hTt
      have s1 := sgTrim_eq _ (nextI p q) rfl (by rw [nextI_length]; omega)
      have s2 := stripped_eq _ (nextI p q) rfl (by rw [nextI_length]; omega)
      have p1 := sgPart_ev _ hTl 2000000000000000000 ⟨by omega, by omega⟩ hTb hTt
      have p2 := divided_ev _ hTl 2000000000000000000 ⟨by omega, by omega⟩ hTb hTt
      obtain ⟨P, hPe⟩ : ∃ P, partI (trimI (nextI p q)) = P := ⟨_, rfl⟩
      rw [hPe] at hPl hPt p1 p2
      have a1 : Ev (fun z => spec_l1All.f z P (-1000000000) 1000000000) (P.all fun x => decide ((-1000000000) ≤ x ∧ x ≤ 1000000000)) := ⟨P.length + 1, fun k hk => l1All_eq P _ _ (by omega) k (by omega)⟩
      cases hall : (P.all fun x => decide ((-1000000000 : Int) ≤ x ∧ x ≤ 1000000000)) with
      | false =>
        rw [hall] at a1
        refine ⟨[], false, ?_, ?_, (fun h => by cases h), fun _ => rfl⟩
        · have hs := sgStep_ev p q hp hlen hq0 hpb hqb hb (P, false) (Ev.bind s1 (Ev.bind p1 (Ev.bind a1 (Ev.now _))))
          refine Ev.step (fun z => rfl) ?_
          simp only [spec_sgRemainder.l0]
          exact Ev_if (fun _ => Ev.bind hs (Ev_if (fun h => by cases h) (fun _ => Ev.now _))) (fun h => by omega)
        · refine rem_step p q hp hlen hq0 hpb hqb hb _ (Ev.bind s2 (Ev.bind p2 (Ev_bindS (cf_rem P) ?_)))
          rw [hall]
          exact Ev_if (fun _ => Ev.now _) (fun h => absurd rfl h)
      | true =>
        rw [hall] at a1
        have hPb : boundB P 1000000000 := by
          intro x hx
          have := List.all_eq_true.1 hall x hx
          simpa using this
        obtain ⟨r, ok, e1, e2, e3, e4⟩ := ih P (by omega) (by omega) hPb hPt
        refine ⟨r, ok, ?_, ?_, e3, e4⟩
        · have hs := sgStep_ev p q hp hlen hq0 hpb hqb hb (P, true) (Ev.bind s1 (Ev.bind p1 (Ev.bind a1 (Ev.now _))))
          refine Ev.step (fun z => rfl) ?_
          simp only [spec_sgRemainder.l0]
          exact Ev_if (fun _ => Ev.bind hs (Ev_if (fun _ => e1) (fun h => absurd rfl h))) (fun h => by omega)
        · refine rem_step p q hp hlen hq0 hpb hqb hb _ (Ev.bind s2 (Ev.bind p2 (Ev_bindS (cf_rem P) ?_)))
          rw [hall]
          exact Ev_if (fun h => by cases h) (fun _ => e2)
    · refine ⟨p, true, ?_, ?_, fun _ => ⟨by omega, hpb, ht⟩, fun h => by cases h⟩
      · refine Ev.step (fun z => rfl) ?_
        simp only [spec_sgRemainder.l0]
        exact Ev_if (fun h => by omega) (fun _ => Ev.now _)
      · refine Ev.step (fun z => rfl) ?_
        simp only [impl_remainder.l0]
        exact Ev_if (fun h => by omega) (fun _ => Ev.now _)
theorem rem_ev (p q : List Int) (hp : p.length ≤ 1000000) (hq : q.length ≤ 1000000) (hq0 : 0 < q.length) (hpb : boundB p 1000000000) (hpt : tight p) (hqb : boundB q 1000000000) (hqt : tight q) :
    ∃ r ok, Ev (fun z => spec_sgRemainder.f z p q) (r, ok) ∧ Ev (fun z => impl_remainder.f z p q) (r, ok) ∧ (ok = true → r.length < q.length ∧ boundB r 1000000000 ∧ tight r) ∧ (ok = false → r = []) := by
  have hPb := part_bound p 1000000000 hpb
  have hPt := tight_part p hpt
  have hPl := part_length p
  obtain ⟨r, ok, e1, e2, e3, e4⟩ := rem_loop q hq0 hqb (hqt hq0) (partI p).length (partI p) (Nat.le_refl _) (by omega) hPb hPt
  refine ⟨r, ok, ?_, ?_, e3, e4⟩
  · exact Ev.bind (sgPart_ev p hp 1000000000 ⟨by omega, by omega⟩ hpb hpt) e1
  · refine Ev.bind (divided_ev p hp 1000000000 ⟨by omega, by omega⟩ hpb hpt) ?_
    rw [show wrap64 ((q.length : Int) - 1) = (q.length : Int) - 1 by unfold wrap64; omega]
    exact Ev_if (fun _ => Ev_if (fun _ => e2) (fun h => by omega)) (fun h => by omega)
theorem good_tight (l : List Int) (h : goodB l = true) : tight l := good_last l h
theorem good_bound9 (l : List Int) (h : goodB l = true) : boundB l 1000000000 := fun x hx => by have := good_bound l h x hx; omega
/-- A list with the other sign. -/
def negI (l : List Int) : List Int := l.map fun x => wrap64 (-x)
theorem negI_length (l : List Int) : (negI l).length = l.length := by simp [negI]
theorem negI_rd (l : List Int) (j : Nat) (h : j < l.length) : rd (negI l) (j : Int) = wrap64 (-(rd l (j : Int))) := by
  rw [rd_getElem _ j (by rw [negI_length]; exact h), rd_getElem l j h]; simp [negI]
theorem negated_l0 (l : List Int) (hl : l.length ≤ 1000000) (n : Nat) : ∀ (i : Nat), i ≤ l.length → l.length - i = n → Ev (fun z => impl_negated.l0 z ((negI l).take i) l (l.length : Int) (i : Int)) (negI l) := by
  induction n with
  | zero =>
    intro i hi hn
    refine Ev.step (fun z => rfl) ?_
    simp only [impl_negated.l0]
    refine Ev_if (fun h => by omega) (fun _ => ?_)
    rw [List.take_of_length_le (by rw [negI_length]; omega)]
    exact Ev.now _
  | succ n ih =>
    intro i hi hn
    refine Ev.step (fun z => rfl) ?_
    simp only [impl_negated.l0]
    have e : (negI l).take i ++ [wrap64 (-(rd l (i : Int)))] = (negI l).take (i + 1) := by
      have h1 : i < (negI l).length := by rw [negI_length]; omega
      rw [← negI_rd l i (by omega), rd_getElem _ i h1, List.take_succ_eq_append_getElem h1]
    rw [wrap_next i (by omega), e]
    exact Ev_if (fun _ => Ev_if (fun _ => Ev_if (fun _ => Ev_if (fun _ => ih (i + 1) (by omega) (by omega)) (fun h => absurd (by simp; omega) h)) (fun h => by omega)) (fun h => by omega)) (fun h => by omega)
theorem negated_ev (l : List Int) (hl : l.length ≤ 1000000) : Ev (fun z => impl_negated.f z l) (negI l) := by
  have h := negated_l0 l hl l.length 0 (by omega) (by omega)
  unfold impl_negated.f
  simpa using h
theorem sgUp_l0 (l : List Int) (hl : l.length ≤ 1000000) (n : Nat) : ∀ (i : Nat), i ≤ l.length → l.length - i = n → Ev (fun z => spec_sgUp.l0 z ((negI l).take i ++ l.drop i) (l.length : Int) (i : Int)) (negI l) := by
  induction n with
  | zero =>
    intro i hi hn
    refine Ev.step (fun z => rfl) ?_
    simp only [spec_sgUp.l0]
    refine Ev_if (fun h => by omega) (fun _ => ?_)
    rw [List.take_of_length_le (by rw [negI_length]; omega), List.drop_eq_nil_of_le (by omega), List.append_nil]
    exact Ev.now _
  | succ n ih =>
    intro i hi hn
    refine Ev.step (fun z => rfl) ?_
    simp only [spec_sgUp.l0]
    have hlen : ((negI l).take i ++ l.drop i).length = l.length := by simp [negI_length]; omega
    have er : rd ((negI l).take i ++ l.drop i) (i : Int) = rd l (i : Int) := by
      rw [rd_getElem _ i (by rw [hlen]; omega), rd_getElem l i (by omega), List.getElem_append_right (by simp; omega)]
      simp [negI_length, Nat.min_eq_left (by omega : i ≤ l.length)]
    have e : ((negI l).take i ++ l.drop i).set i (wrap64 (-(rd l (i : Int)))) = (negI l).take (i + 1) ++ l.drop (i + 1) := by
      have h1 : i < (negI l).length := by rw [negI_length]; omega
      rw [List.set_append_right _ _ (by simp; omega)]
      have h3 : i - ((negI l).take i).length = 0 := by simp [negI_length]; omega
      rw [h3, drop_rd l i (by omega), List.set_cons_zero, List.take_succ_eq_append_getElem h1, ← negI_rd l i (by omega), rd_getElem _ i h1, List.append_assoc]
      rfl
    rw [wrap_next i (by omega), er, Int.toNat_natCast, e, hlen]
    exact Ev_if (fun _ => Ev_if (fun _ => Ev_if (fun _ => ih (i + 1) (by omega) (by omega)) (fun h => by omega)) (fun h => by omega)) (fun h => by omega)
theorem sgUp_neg (l : List Int) (hl : l.length ≤ 1000000) : Ev (fun z => spec_sgUp.l0 z l (l.length : Int) 0) (negI l) := by
  have h := sgUp_l0 l hl l.length 0 (by omega) (by omega)
  simpa using h
/-- A list with the sign by which its last coefficient is greater than 0. -/
def signI (l : List Int) : List Int := if l.length = 0 then l else if rd l ((l.length : Int) - 1) < 0 then negI l else l
theorem signI_length (l : List Int) : (signI l).length = l.length := by
  unfold signI; split
  · rfl
  · split
    · exact negI_length l
    · rfl
theorem withSign_ev (l : List Int) (hl : l.length ≤ 1000000) : Ev (fun z => impl_withSign.f z l) (signI l) := by
  unfold impl_withSign.f signI
  rw [show wrap64 ((l.length : Int) - 1) = (l.length : Int) - 1 by unfold wrap64; omega]
  refine Ev_if (fun h0 => Ev_if (fun _ => Ev_if (fun _ => Ev_if (fun h => ?_) (fun h => ?_)) (fun h => by omega)) (fun h => by omega)) (fun h0 => ?_)
  · rw [if_neg (by omega), if_pos h]
    exact Ev.bind (negated_ev l hl) (Ev.now _)
  · rw [if_neg (by omega), if_neg h]; exact Ev.now _
  · rw [if_pos (by omega)]; exact Ev.now _
theorem sgUp_ev (l : List Int) (hl : l.length ≤ 1000000) (m : Int) (hm : 0 ≤ m ∧ m ≤ 4611686018427387904) (hb : boundB l m) (ht : tight l) : Ev (fun z => spec_sgUp.f z l) (signI (partI l)) := by
  unfold spec_sgUp.f
  refine Ev.bind (sgPart_ev l hl m hm hb ht) ?_
  have hP := part_length l
  obtain ⟨P, hPe⟩ : ∃ P, partI l = P := ⟨_, rfl⟩
  rw [hPe] at hP ⊢
  unfold signI
  rw [show wrap64 ((P.length : Int) - 1) = (P.length : Int) - 1 by unfold wrap64; omega]
  refine Ev_if (fun h0 => Ev_if (fun _ => Ev_if (fun _ => ?_) (fun h => by omega)) (fun h => by omega)) (fun h0 => ?_)
  · rw [if_neg (by omega)]
    by_cases hs : rd P ((P.length : Int) - 1) < 0
    · rw [if_pos hs, decide_eq_true hs]
      refine Ev.step (fun z => rfl) ?_
      simp only [spec_sgUp.j0]
      exact Ev_if (fun _ => sgUp_neg P (by omega)) (fun h => absurd trivial h)
    · rw [if_neg hs, decide_eq_false hs]
      refine Ev.step (fun z => rfl) ?_
      simp only [spec_sgUp.j0]
      exact Ev_if (fun h => by cases h) (fun _ => Ev.now _)
  · rw [if_pos (by omega)]
    refine Ev.step (fun z => rfl) ?_
    simp only [spec_sgUp.j0]
    exact Ev_if (fun h => by cases h) (fun _ => Ev.now _)
/-- The common divisor, both sides: the same list, or both do not pass. -/
theorem common_loop (n : Nat) : ∀ (p q : List Int), q.length ≤ n → p.length ≤ 1000000 → q.length ≤ 1000000 → boundB p 1000000000 → tight p → boundB q 1000000000 → tight q →
    ∃ r ok, Ev (fun z => spec_sgCommon.l0 z p q) (r, ok) ∧ Ev (fun z => impl_commonDivisor.l0 z p q) (r, ok) ∧ (ok = true → r.length ≤ 1000000) ∧ (ok = false → r = []) := by
  induction n with
  | zero =>
    intro p q hn hp hq hpb hpt hqb hqt
    refine ⟨signI (partI p), true, ?_, ?_, fun _ => by rw [signI_length, part_length]; exact hp, fun h => by cases h⟩
    · refine Ev.step (fun z => rfl) ?_
      simp only [spec_sgCommon.l0]
      exact Ev_if (fun h => by omega) (fun _ => Ev.bind (sgUp_ev p hp 1000000000 ⟨by omega, by omega⟩ hpb hpt) (Ev.now _))
    · refine Ev.step (fun z => rfl) ?_
      simp only [impl_commonDivisor.l0]
      exact Ev_if (fun h => by omega) (fun _ => Ev.bind (divided_ev p hp 1000000000 ⟨by omega, by omega⟩ hpb hpt) (Ev.bind (withSign_ev _ (by rw [part_length]; exact hp)) (Ev.now _)))
  | succ n ih =>
    intro p q hn hp hq hpb hpt hqb hqt
    by_cases h0 : 0 < q.length
    · obtain ⟨r, ok, e1, e2, e3, e4⟩ := rem_ev p q hp hq h0 hpb hpt hqb hqt
      cases ok with
      | false =>
        refine ⟨[], false, ?_, ?_, (fun h => by cases h), fun _ => rfl⟩
        · refine Ev.step (fun z => rfl) ?_
          simp only [spec_sgCommon.l0]
          exact Ev_if (fun _ => Ev.bind e1 (Ev_if (fun h => by cases h) (fun _ => Ev.now _))) (fun h => by omega)
        · refine Ev.step (fun z => rfl) ?_
          simp only [impl_commonDivisor.l0]
          exact Ev_if (fun _ => Ev.bind e2 (Ev_if (fun h => by cases h) (fun _ => Ev.now _))) (fun h => by omega)
      | true =>
        obtain ⟨hl, hb, ht⟩ := e3 rfl
        obtain ⟨r', ok', f1, f2, f3, f4⟩ := ih q r (by omega) hq (by omega) hqb hqt hb ht
        refine ⟨r', ok', ?_, ?_, f3, f4⟩
        · refine Ev.step (fun z => rfl) ?_
          simp only [spec_sgCommon.l0]
          exact Ev_if (fun _ => Ev.bind e1 (Ev_if (fun _ => f1) (fun h => absurd rfl h))) (fun h => by omega)
        · refine Ev.step (fun z => rfl) ?_
          simp only [impl_commonDivisor.l0]
          exact Ev_if (fun _ => Ev.bind e2 (Ev_if (fun _ => f2) (fun h => absurd rfl h))) (fun h => by omega)
    · refine ⟨signI (partI p), true, ?_, ?_, fun _ => by rw [signI_length, part_length]; exact hp, fun h => by cases h⟩
      · refine Ev.step (fun z => rfl) ?_
        simp only [spec_sgCommon.l0]
        exact Ev_if (fun h => by omega) (fun _ => Ev.bind (sgUp_ev p hp 1000000000 ⟨by omega, by omega⟩ hpb hpt) (Ev.now _))
      · refine Ev.step (fun z => rfl) ?_
        simp only [impl_commonDivisor.l0]
        exact Ev_if (fun h => by omega) (fun _ => Ev.bind (divided_ev p hp 1000000000 ⟨by omega, by omega⟩ hpb hpt) (Ev.bind (withSign_ev _ (by rw [part_length]; exact hp)) (Ev.now _)))
theorem common_key (p q : List Int) (hgp : goodB p = true) (hgq : goodB q = true) :
    ∃ r1 r2, Ev (fun z => (spec_sgCommon.f z p q).bind fun bt => if bt.2 = true then (spec_sgGood.f z bt.1).bind fun t => if t = true then some (bt.1, true) else some (([] : List Int), false) else some (([] : List Int), false)) (r1, r2) ∧
      Ev (fun z => (impl_commonDivisor.f z p q).bind fun bt => (impl_singleResult.f z bt.1 bt.2).bind fun bt => some (bt.1, bt.2)) (r1, r2) ∧ r1.length ≤ 1000000 := by
  have hp9 := good_length p hgp
  have hq9 := good_length q hgq
  obtain ⟨r, ok, e1, e2, e3, e4⟩ := common_loop q.length p q (Nat.le_refl _) (by omega) (by omega) (good_bound9 p hgp) (good_tight p hgp) (good_bound9 q hgq) (good_tight q hgq)
  replace e1 : Ev (fun z => spec_sgCommon.f z p q) (r, ok) := e1
  replace e2 : Ev (fun z => impl_commonDivisor.f z p q) (r, ok) := e2
  cases ok with
  | false =>
    obtain rfl := e4 rfl
    refine ⟨[], false, Ev.bind e1 (Ev_if (fun h => by cases h) (fun _ => Ev.now _)), Ev.bind e2 (Ev.bind (a := ([], false)) ?_ (Ev.now _)), by simp⟩
    exact Ev_if (fun h => by cases h) (fun _ => Ev.now _)
  | true =>
    have hl := e3 rfl
    cases hg : goodB r with
    | true =>
      refine ⟨r, true, Ev.bind e1 (Ev_if (fun _ => Ev.bind (sgGood_ev r (by omega)) ?_) (fun h => absurd rfl h)), Ev.bind e2 (Ev.bind (a := (r, true)) ?_ (Ev.now _)), by omega⟩
      · rw [hg]; exact Ev.now _
      · refine Ev_if (fun _ => Ev.bind (isSingle_ev r (by omega)) ?_) (fun h => absurd rfl h)
        rw [hg]; exact Ev.now _
    | false =>
      refine ⟨[], false, Ev.bind e1 (Ev_if (fun _ => Ev.bind (sgGood_ev r (by omega)) ?_) (fun h => absurd rfl h)), Ev.bind e2 (Ev.bind (a := ([], false)) ?_ (Ev.now _)), by simp⟩
      · rw [hg]; exact Ev.now _
      · refine Ev_if (fun _ => Ev.bind (isSingle_ev r (by omega)) ?_) (fun h => absurd rfl h)
        rw [hg]; exact Ev.now _
theorem Pure_holds : Pure := by
  intro p q hp _ hq _ _
  have key : ∃ r1 r2, Ev (fun k => spec_CommonDivisor.f k p q) (r1, r2) ∧ Ev (fun k => impl_CommonDivisor.f k p q) (r1, r2) ∧ r1.length ≤ 1000000 := by
    have hj0 : ∀ z, spec_CommonDivisor.j0 (z + 1) p q true = some ([], false) := fun z => rfl
    have hj1 : ∀ z, impl_CommonDivisor.j0 (z + 1) p q true = some ([], false) := fun z => rfl
    cases hgp : goodB p with
    | false =>
      refine ⟨[], false, ?_, ?_, by simp⟩
      · refine Ev.bind (sgGood_ev p hp) ?_; rw [hgp]
        exact Ev_if (fun h => by cases h) (fun _ => Ev.step hj0 (Ev.now _))
      · refine Ev.bind (isSingle_ev p hp) ?_; rw [hgp]
        exact Ev_if (fun h => by cases h) (fun _ => Ev.step hj1 (Ev.now _))
    | true =>
      cases hgq : goodB q with
      | false =>
        refine ⟨[], false, ?_, ?_, by simp⟩
        · refine Ev.bind (sgGood_ev p hp) ?_; rw [hgp]
          refine Ev_if (fun _ => Ev.bind (sgGood_ev q hq) ?_) (fun h => absurd rfl h); rw [hgq]
          exact Ev_if (fun h => by cases h) (fun _ => Ev.step hj0 (Ev.now _))
        · refine Ev.bind (isSingle_ev p hp) ?_; rw [hgp]
          refine Ev_if (fun _ => Ev.bind (isSingle_ev q hq) ?_) (fun h => absurd rfl h); rw [hgq]
          exact Ev_if (fun h => by cases h) (fun _ => Ev.step hj1 (Ev.now _))
      | true =>
        have ew : wrap64 ((p.length : Int) + (q.length : Int)) = (p.length : Int) + (q.length : Int) := by unfold wrap64; omega
        by_cases hq0 : p.length + q.length = 0
        · have e : (wrap64 ((p.length : Int) + (q.length : Int)) == 0) = true := by rw [ew]; simp only [beq_iff_eq]; omega
          refine ⟨[], false, ?_, ?_, by simp⟩
          · refine Ev.bind (sgGood_ev p hp) ?_; rw [hgp]
            refine Ev_if (fun _ => Ev.bind (sgGood_ev q hq) ?_) (fun h => absurd rfl h); rw [hgq, e]
            exact Ev_if (fun _ => Ev.step hj0 (Ev.now _)) (fun h => absurd rfl h)
          · refine Ev.bind (isSingle_ev p hp) ?_; rw [hgp]
            refine Ev_if (fun _ => Ev.bind (isSingle_ev q hq) ?_) (fun h => absurd rfl h); rw [hgq, e]
            exact Ev_if (fun _ => Ev.step hj1 (Ev.now _)) (fun h => absurd rfl h)
        · have e : (wrap64 ((p.length : Int) + (q.length : Int)) == 0) = false := by rw [ew]; simp only [beq_eq_false_iff_ne]; omega
          obtain ⟨r1, r2, h1, h2, h3⟩ := common_key p q hgp hgq
          refine ⟨r1, r2, ?_, ?_, h3⟩
          · refine Ev.bind (sgGood_ev p hp) ?_; rw [hgp]
            refine Ev_if (fun _ => Ev.bind (sgGood_ev q hq) ?_) (fun h => absurd rfl h); rw [hgq, e]
            refine Ev_if (fun _ => ?_) (fun h => absurd rfl h)
            refine Ev.step (fun z => rfl) ?_
            simp only [spec_CommonDivisor.j0]
            exact Ev_if (fun h => by cases h) (fun _ => h1)
          · refine Ev.bind (isSingle_ev p hp) ?_; rw [hgp]
            refine Ev_if (fun _ => Ev.bind (isSingle_ev q hq) ?_) (fun h => absurd rfl h); rw [hgq, e]
            refine Ev_if (fun _ => ?_) (fun h => absurd rfl h)
            refine Ev.step (fun z => rfl) ?_
            simp only [impl_CommonDivisor.j0]
            exact Ev_if (fun h => by cases h) (fun _ => h2)
  obtain ⟨r1, r2, h1, h2, h3⟩ := key
  obtain ⟨ks, ki, h, h'⟩ := Ev_both h1 h2
  exact ⟨ks, ki, r1, r2, h, h', h3⟩
end Go.Proofs.Ytcgcgifndkeeoaa.QCommonDivisor
