import Derived.Test.YtcgcgifndkeeoaaZSturmChainLSturmChain
namespace Go.Proofs.Ytcgcgifndkeeoaa.QStu
open Go.RowKit Go.Proofs.YtcgcgifndkeeoaaW.PrintWords Go.Proofs.YtcgcgifndkeeoaaW.PrintLast Go.Proofs.YtcgcgifndkeeoaaW.PrintMore
set_option linter.unusedVariables false
set_option linter.unusedSimpArgs false
theorem Ev_if {α : Type} {c : Prop} [Decidable c] {g f : Nat → Option α} {r : α} (hp : c → Ev g r) (hn : ¬ c → Ev f r) : Ev (fun k => if c then g k else f k) r := by
  by_cases h : c
  · simp only [if_pos h]; exact hp h
  · simp only [if_neg h]; exact hn h
theorem Ev_bindS {α β : Type} {a : Option α} {x : α} {f : Nat → α → Option β} {r : β} (h : a = some x) (k : Ev (fun n => f n x) r) : Ev (fun n => a.bind (f n)) r := by
  subst h; simpa only [Option.bind_some] using k
theorem Ev_eq {α : Type} {g : Nat → Option α} {r r' : α} (h : Ev g r) (e : r = r') : Ev g r' := e ▸ h
theorem Ev_both {α β : Type} {g : Nat → Option α} {f : Nat → Option β} {r : α} {q : β} (h : Ev g r) (h' : Ev f q) : ∃ ks ki, g ks = some r ∧ f ki = some q := by
  obtain ⟨a, ha⟩ := h.rounds
  obtain ⟨b, hb⟩ := h'.rounds
  exact ⟨a, b, ha, hb⟩
theorem l1In_eq (a b c : Int) : spec_l1In.f a b c = some (decide (b ≤ a ∧ a ≤ c)) := by
  unfold spec_l1In.f; by_cases h : b ≤ a <;> simp [h]
theorem inside_eq (a b c : Int) : impl_inside.f a b c = some (decide (b ≤ a ∧ a ≤ c)) := by
  unfold impl_inside.f; by_cases h : b ≤ a <;> simp [h]
theorem rd_getElem (l : List Int) (i : Nat) (h : i < l.length) : rd l (i : Int) = l[i] := by simp [rd, h]
theorem wrap_next (i : Nat) (h : i < 9223372036854775807) : wrap64 ((i : Int) + 1) = ((i + 1 : Nat) : Int) := by unfold wrap64; omega
theorem all_drop (l : List Int) (p : Int → Bool) (i : Nat) (h : i < l.length) : (l.drop i).all p = (p (rd l (i : Int)) && (l.drop (i + 1)).all p) := by
  rw [List.drop_eq_getElem_cons h, List.all_cons, rd_getElem l i h]
theorem rd_mem (l : List Int) (i : Nat) (h : i < l.length) : rd l (i : Int) ∈ l := by rw [rd_getElem l i h]; exact List.getElem_mem h
theorem drop_rd (l : List Int) (i : Nat) (h : i < l.length) : l.drop i = rd l (i : Int) :: l.drop (i + 1) := by rw [rd_getElem l i h]; exact List.drop_eq_getElem_cons h
theorem wrap_sum (i k : Nat) (h : i + k ≤ 4000000000000) : wrap64 ((i : Int) + (k : Int)) = ((i + k : Nat) : Int) := by unfold wrap64; omega
theorem l1All_l0 (l : List Int) (lo hi : Int) (hl : l.length ≤ 1000000) (d : Nat) : ∀ (k i : Nat), i ≤ l.length → l.length - i = d → d < k → spec_l1All.l0 k lo hi l (l.length : Int) (i : Int) = some ((l.drop i).all fun x => decide (lo ≤ x ∧ x ≤ hi)) := by
  induction d with
  | zero =>
    intro k i h1 hd hk
    obtain ⟨k, rfl⟩ : ∃ m, k = m + 1 := ⟨k - 1, by omega⟩
    simp only [spec_l1All.l0]; rw [if_neg (by omega), List.drop_eq_nil_of_le (by omega)]; rfl
  | succ d ih =>
    intro k i h1 hd hk
    obtain ⟨k, rfl⟩ : ∃ m, k = m + 1 := ⟨k - 1, by omega⟩
    simp only [spec_l1All.l0]
    rw [if_pos (by omega), if_pos (by omega), if_pos (by omega), l1In_eq, Option.bind_some, wrap_next i (by omega), all_drop l _ i (by omega)]
    by_cases hp : lo ≤ rd l (i : Int) ∧ rd l (i : Int) ≤ hi
    · rw [if_pos (decide_eq_true hp), decide_eq_true hp, ih k (i + 1) (by omega) (by omega) (by omega)]; rfl
    · rw [if_neg (by rw [decide_eq_false hp]; decide), decide_eq_false hp]; rfl
theorem l1All_eq (l : List Int) (lo hi : Int) (hl : l.length ≤ 1000000) (k : Nat) (hk : l.length < k) : spec_l1All.f k l lo hi = some (l.all fun x => decide (lo ≤ x ∧ x ≤ hi)) := by
  unfold spec_l1All.f
  have h := l1All_l0 l lo hi hl l.length k 0 (by omega) (by omega) hk
  simpa using h
def smallB (l : List Int) : Bool := l.all fun x => decide ((-1000000) ≤ x ∧ x ≤ 1000000)
def lastB (l : List Int) : Bool := if l.length = 0 then true else (rd l ((l.length : Int) - 1) != 0)
def goodB (l : List Int) : Bool := decide (l.length ≤ 9) && (smallB l && lastB l)
theorem sgGood_eq (l : List Int) (hl : l.length ≤ 1000000) (k : Nat) (hk : l.length < k) : spec_sgGood.f k l = some (goodB l) := by
  unfold spec_sgGood.f goodB
  by_cases h9 : l.length ≤ 9
  · rw [if_neg (by omega), l1All_eq l _ _ hl k hk, Option.bind_some, decide_eq_true h9, Bool.true_and]
    change (if smallB l = true then _ else _) = _
    cases hs : smallB l with
    | false => rfl
    | true =>
      rw [if_pos rfl, Bool.true_and]
      unfold lastB
      by_cases h0 : l.length = 0
      · rw [if_pos (by omega), if_pos h0]
      · rw [if_neg (by omega), if_neg h0, show wrap64 ((l.length : Int) - 1) = (l.length : Int) - 1 by unfold wrap64; omega, if_pos (by omega), if_pos (by omega)]
  · rw [if_pos (by omega), decide_eq_false h9]; rfl
theorem isSingle_l0 (l : List Int) (hl : l.length ≤ 1000000) (d : Nat) : ∀ (k i : Nat), i ≤ l.length → l.length - i = d → d < k → impl_isSingle.l0 k l l (l.length : Int) (i : Int) = some (((l.drop i).all fun x => decide ((-1000000) ≤ x ∧ x ≤ 1000000)) && (if l.length = 0 then true else decide (l.length ≤ 9) && (rd l ((l.length : Int) - 1) != 0))) := by
  induction d with
  | zero =>
    intro k i h1 hd hk
    obtain ⟨k, rfl⟩ : ∃ m, k = m + 1 := ⟨k - 1, by omega⟩
    simp only [impl_isSingle.l0]; rw [if_neg (by omega), List.drop_eq_nil_of_le (by omega)]
    by_cases h0 : l.length = 0
    · rw [if_pos (by omega), if_pos h0]; rfl
    · rw [if_neg (by omega), if_neg h0]
      by_cases h9 : l.length ≤ 9
      · rw [if_pos (by omega), show wrap64 ((l.length : Int) - 1) = (l.length : Int) - 1 by unfold wrap64; omega, if_pos (by omega), if_pos (by omega), decide_eq_true h9]; rfl
      · rw [if_neg (by omega), decide_eq_false h9]; rfl
  | succ d ih =>
    intro k i h1 hd hk
    obtain ⟨k, rfl⟩ : ∃ m, k = m + 1 := ⟨k - 1, by omega⟩
    simp only [impl_isSingle.l0]
    rw [if_pos (by omega), if_pos (by omega), if_pos (by omega), inside_eq, Option.bind_some, wrap_next i (by omega), all_drop l _ i (by omega)]
    by_cases hp : (-1000000) ≤ rd l (i : Int) ∧ rd l (i : Int) ≤ 1000000
    · rw [if_pos (decide_eq_true hp), decide_eq_true hp, ih k (i + 1) (by omega) (by omega) (by omega)]; rfl
    · rw [if_neg (by rw [decide_eq_false hp]; decide), decide_eq_false hp]; rfl
theorem isSingle_eq (l : List Int) (hl : l.length ≤ 1000000) (k : Nat) (hk : l.length < k) : impl_isSingle.f k l = some (goodB l) := by
  unfold impl_isSingle.f
  have h := isSingle_l0 l hl l.length k 0 (by omega) (by omega) hk
  simp only [List.drop_zero] at h
  rw [show ((0 : Nat) : Int) = 0 from rfl] at h
  rw [h]
  congr 1
  unfold goodB lastB
  change (smallB l && _) = _
  cases smallB l <;> by_cases h0 : l.length = 0 <;> simp [h0]
theorem sgGood_ev (l : List Int) (hl : l.length ≤ 1000000) : Ev (fun k => spec_sgGood.f k l) (goodB l) := ⟨l.length + 1, fun k hk => sgGood_eq l hl k (by omega)⟩
theorem isSingle_ev (l : List Int) (hl : l.length ≤ 1000000) : Ev (fun k => impl_isSingle.f k l) (goodB l) := ⟨l.length + 1, fun k hk => isSingle_eq l hl k (by omega)⟩
theorem good_bound (l : List Int) (h : goodB l = true) : ∀ x ∈ l, (-1000000 : Int) ≤ x ∧ x ≤ 1000000 := by
  unfold goodB smallB at h
  simp only [Bool.and_eq_true, List.all_eq_true, decide_eq_true_eq] at h
  exact h.2.1
theorem good_length (l : List Int) (h : goodB l = true) : l.length ≤ 9 := by
  unfold goodB at h
  simp only [Bool.and_eq_true, decide_eq_true_eq] at h
  exact h.1
theorem good_last (l : List Int) (h : goodB l = true) (h0 : 0 < l.length) : rd l ((l.length : Int) - 1) ≠ 0 := by
  unfold goodB lastB at h
  simp only [Bool.and_eq_true] at h
  have := h.2.2
  rw [if_neg (by omega)] at this
  simpa using this
def absI (x : Int) : Int := (x.natAbs : Int)
theorem l1Abs_eq (x : Int) (h : -4611686018427387904 ≤ x ∧ x ≤ 4611686018427387904) : spec_l1Abs.f x = some (absI x) := by
  unfold spec_l1Abs.f spec_l1Most.f absI
  have : wrap64 (-x) = -x := by unfold wrap64; omega
  rw [this]
  by_cases hx : x > -x
  · rw [if_pos hx]; simp only [Option.bind_some]; congr 1; omega
  · rw [if_neg hx]; simp only [Option.bind_some]; congr 1; omega
theorem mxAbs_eq (x : Int) (h : -4611686018427387904 ≤ x ∧ x ≤ 4611686018427387904) : mx x (wrap64 (-x)) = absI x := by
  have : wrap64 (-x) = -x := by unfold wrap64; omega
  rw [this]; unfold mx absI; split <;> omega
theorem gcd_tmod (a b : Int) : Int.gcd b (Int.tmod a b) = Int.gcd a b := by
  have h : Int.tmod a b = a - b * Int.tdiv a b := by have := Int.mul_tdiv_add_tmod a b; omega
  rw [h, Int.gcd_comm, show a - b * Int.tdiv a b = a + b * (-(Int.tdiv a b)) by rw [Int.mul_neg]; omega, Int.gcd_add_mul_left_left]
theorem sgGcd_l0 (n : Nat) : ∀ (a b : Int), 0 ≤ a → 0 ≤ b → b.natAbs < n → Ev (fun k => spec_sgGcd.l0 k a b) ((Int.gcd a b : Nat) : Int) := by
  induction n with
  | zero => intro a b _ _ h; omega
  | succ n ih =>
    intro a b ha hb hn
    refine Ev.step (fun k => rfl) ?_
    refine Ev_if (fun h => Ev_if (fun h2 => by omega) (fun h2 => ?_)) (fun h => ?_)
    · have e : Int.tmod a b = a % b := Int.tmod_eq_emod_of_nonneg ha
      have h0 := Int.emod_nonneg a (show b ≠ 0 by omega)
      have h1 := Int.emod_lt_of_pos a (show 0 < b by omega)
      rw [e]
      refine Ev_eq (ih b (a % b) hb h0 (by omega)) ?_
      rw [← e, gcd_tmod]
    · have : b = 0 := by omega
      subst this
      refine Ev_eq (Ev.now _) ?_
      simp; omega
theorem tmod_lt (a b : Int) (hb : b ≠ 0) : (Int.tmod a b).natAbs < b.natAbs := by
  rw [Int.natAbs_tmod]; exact Nat.mod_lt _ (by omega)
theorem gcd_l0 (n : Nat) : ∀ (a b : Int), -4611686018427387904 ≤ a ∧ a ≤ 4611686018427387904 → -4611686018427387904 ≤ b ∧ b ≤ 4611686018427387904 → b.natAbs < n → Ev (fun k => impl_gcd.l0 k a b) ((Int.gcd a b : Nat) : Int) := by
  induction n with
  | zero => intro a b _ _ h; omega
  | succ n ih =>
    intro a b ha hb hn
    refine Ev.step (fun k => rfl) ?_
    refine Ev_if (fun h => ?_) (fun h => ?_)
    · subst h
      refine Ev_eq (Ev.now _) ?_
      rw [mxAbs_eq a ha]; simp [absI]
    · have h1 := tmod_lt a b h
      refine Ev_eq (ih b (Int.tmod a b) hb ⟨by omega, by omega⟩ (by omega)) ?_
      rw [gcd_tmod]
theorem sgGcd_eq (a b : Int) (ha : 0 ≤ a) (hb : 0 ≤ b) : Ev (fun k => spec_sgGcd.f k a b) ((Int.gcd a b : Nat) : Int) := sgGcd_l0 (b.natAbs + 1) a b ha hb (by omega)
theorem gcd_eq (a b : Int) (ha : -4611686018427387904 ≤ a ∧ a ≤ 4611686018427387904) (hb : -4611686018427387904 ≤ b ∧ b ≤ 4611686018427387904) : Ev (fun k => impl_gcd.f k a b) ((Int.gcd a b : Nat) : Int) := gcd_l0 (b.natAbs + 1) a b ha hb (by omega)
def boundB (l : List Int) (m : Int) : Prop := ∀ x ∈ l, -m ≤ x ∧ x ≤ m
def contentI (d : Int) (l : List Int) : Int := l.foldl (fun d c => ((Int.gcd d c : Nat) : Int)) d
theorem gcd_bound (d c m : Int) (hd : 0 ≤ d ∧ d ≤ m) (hc : -m ≤ c ∧ c ≤ m) : 0 ≤ ((Int.gcd d c : Nat) : Int) ∧ ((Int.gcd d c : Nat) : Int) ≤ m := by
  refine ⟨by omega, ?_⟩
  by_cases h : c = 0
  · subst h; simp; omega
  · have h1 := Nat.le_of_dvd (show 0 < c.natAbs by omega) (Int.gcd_dvd_natAbs_right d c)
    omega
theorem sgContent_l0 (l : List Int) (hl : l.length ≤ 1000000) (m : Int) (hm : 0 ≤ m ∧ m ≤ 4611686018427387904) (hb : boundB l m) (n : Nat) : ∀ (i : Nat) (d : Int), i ≤ l.length → l.length - i = n → 0 ≤ d ∧ d ≤ m → Ev (fun k => spec_sgContent.l0 k d l (l.length : Int) (i : Int)) (contentI d (l.drop i)) := by
  induction n with
  | zero =>
    intro i d hi hn hd
    refine Ev.step (fun k => rfl) ?_
    refine Ev_if (fun h => by omega) (fun h => ?_)
    rw [List.drop_eq_nil_of_le (by omega)]; exact Ev.now _
  | succ n ih =>
    intro i d hi hn hd
    have hr := hb _ (rd_mem l i (by omega))
    refine Ev.step (fun k => rfl) ?_
    refine Ev_if (fun h => Ev_if (fun h2 => Ev_if (fun h3 => ?_) (fun h3 => by omega)) (fun h2 => by omega)) (fun h => by omega)
    refine Ev_bindS (l1Abs_eq _ ⟨by omega, by omega⟩) ?_
    refine Ev.bind (sgGcd_eq d _ hd.1 (by unfold absI; omega)) ?_
    rw [wrap_next i (by omega), drop_rd l i (by omega)]
    have e : ((Int.gcd d (absI (rd l (i : Int))) : Nat) : Int) = ((Int.gcd d (rd l (i : Int)) : Nat) : Int) := by unfold absI; simp [Int.gcd]
    rw [e]
    exact ih (i + 1) _ (by omega) (by omega) (gcd_bound d _ m hd hr)
theorem sgContent_eq (l : List Int) (hl : l.length ≤ 1000000) (m : Int) (hm : 0 ≤ m ∧ m ≤ 4611686018427387904) (hb : boundB l m) : Ev (fun k => spec_sgContent.f k l) (contentI 0 l) := by
  have h := sgContent_l0 l hl m hm hb l.length 0 0 (by omega) (by omega) ⟨by omega, by omega⟩
  simpa [spec_sgContent.f] using h
theorem contentOf_l0 (l : List Int) (hl : l.length ≤ 1000000) (m : Int) (hm : 0 ≤ m ∧ m ≤ 4611686018427387904) (hb : boundB l m) (n : Nat) : ∀ (i : Nat) (d : Int), i ≤ l.length → l.length - i = n → 0 ≤ d ∧ d ≤ m → Ev (fun k => impl_contentOf.l0 k d l (l.length : Int) (i : Int)) (contentI d (l.drop i)) := by
  induction n with
  | zero =>
    intro i d hi hn hd
    refine Ev.step (fun k => rfl) ?_
    refine Ev_if (fun h => by omega) (fun h => ?_)
    rw [List.drop_eq_nil_of_le (by omega)]; exact Ev.now _
  | succ n ih =>
    intro i d hi hn hd
    have hr := hb _ (rd_mem l i (by omega))
    refine Ev.step (fun k => rfl) ?_
    refine Ev_if (fun h => Ev_if (fun h2 => Ev_if (fun h3 => ?_) (fun h3 => by omega)) (fun h2 => by omega)) (fun h => by omega)
    refine Ev.bind (gcd_eq d _ ⟨by omega, by omega⟩ ⟨by omega, by omega⟩) ?_
    rw [wrap_next i (by omega), drop_rd l i (by omega)]
    exact ih (i + 1) _ (by omega) (by omega) (gcd_bound d _ m hd hr)
theorem contentOf_eq (l : List Int) (hl : l.length ≤ 1000000) (m : Int) (hm : 0 ≤ m ∧ m ≤ 4611686018427387904) (hb : boundB l m) : Ev (fun k => impl_contentOf.f k l) (contentI 0 l) := by
  have h := contentOf_l0 l hl m hm hb l.length 0 0 (by omega) (by omega) ⟨by omega, by omega⟩
  simpa [impl_contentOf.f] using h
theorem own_eq (l : List Int) (h : l.length ≤ 1000000) : spec_l1Own.f l = some l := by
  unfold spec_l1Own.f; simp only [Option.bind_some, List.length_nil, List.nil_append]; rw [if_pos (by omega)]
theorem List_snoc (l : List Int) (h : 0 < l.length) : ∃ q a, l = q ++ [a] := by
  rcases List.eq_nil_or_concat l with e | ⟨q, a, e⟩
  · simp [e] at h
  · exact ⟨q, a, by rw [e, List.concat_eq_append]⟩
def trimI (l : List Int) : List Int := (l.reverse.dropWhile (fun x => x == 0)).reverse
theorem trimI_zero (q : List Int) : trimI (q ++ [0]) = trimI q := by simp [trimI]
theorem trimI_last (q : List Int) (a : Int) (h : a ≠ 0) : trimI (q ++ [a]) = q ++ [a] := by simp [trimI, h]
theorem trimI_length (l : List Int) : (trimI l).length ≤ l.length := by
  unfold trimI; rw [List.length_reverse]; exact Nat.le_trans (List.dropWhile_sublist _).length_le (by simp)
theorem clone_eq (l : List Int) (h : l.length ≤ 1000000) : slices_Clone_int_int.f l = some l := by
  unfold slices_Clone_int_int.f; rw [if_pos (by omega)]
theorem rd_last (q : List Int) (a : Int) : rd (q ++ [a]) (q.length : Int) = a := by simp [rd]
theorem stripped_eq (n : Nat) : ∀ l : List Int, l.length = n → l.length ≤ 1000000 → Ev (fun k => impl_stripped.f k l) (trimI l) := by
  induction n with
  | zero =>
    intro l hn hl
    obtain rfl := List.eq_nil_of_length_eq_zero hn
    refine Ev.step (fun k => rfl) ?_
    simp only [impl_stripped.f, impl_stripped.l0]
    exact Ev_if (fun h => by simp at h) (fun _ => Ev_bindS (clone_eq [] (by simp)) (Ev.now _))
  | succ n ih =>
    intro l hn hl
    obtain ⟨q, a, rfl⟩ : ∃ q a, l = q ++ [a] := List_snoc l (by omega)
    have hq : q.length = n := by simpa using hn
    have e1 : wrap64 (((q ++ [a]).length : Int) - 1) = (q.length : Int) := by simp only [List.length_append, List.length_singleton] at hl ⊢; unfold wrap64; omega
    have e2 : (q ++ [a]).take ((q.length : Int)).toNat = q := by simp
    refine Ev.step (fun k => rfl) ?_
    simp only [impl_stripped.f, impl_stripped.l0]
    rw [e1, rd_last, e2]
    simp only [List.length_append, List.length_singleton] at hl ⊢
    refine Ev_if (fun _ => Ev_if (fun _ => Ev_if (fun _ => Ev_if (fun h => Ev_if (fun _ => ?_) (fun h => by omega)) (fun h => ?_)) (fun h => by omega)) (fun h => by omega)) (fun h => by omega)
    · subst h; rw [trimI_zero]; exact ih q hq (by omega)
    · rw [trimI_last q a h]; exact Ev_bindS (clone_eq _ (by simp; omega)) (Ev.now _)
theorem sgTrim_eq (n : Nat) : ∀ l : List Int, l.length = n → l.length ≤ 1000000 → Ev (fun k => spec_sgTrim.f k l) (trimI l) := by
  induction n with
  | zero =>
    intro l hn hl
    obtain rfl := List.eq_nil_of_length_eq_zero hn
    refine Ev.step (fun k => rfl) ?_
    simp only [spec_sgTrim.f, spec_sgTrim.l0]
    exact Ev_if (fun h => by simp at h) (fun _ => Ev_bindS (own_eq [] (by simp)) (Ev.now _))
  | succ n ih =>
    intro l hn hl
    obtain ⟨q, a, rfl⟩ : ∃ q a, l = q ++ [a] := List_snoc l (by omega)
    have hq : q.length = n := by simpa using hn
    have e1 : wrap64 (((q ++ [a]).length : Int) - 1) = (q.length : Int) := by simp only [List.length_append, List.length_singleton] at hl ⊢; unfold wrap64; omega
    have e2 : (q ++ [a]).take ((q.length : Int)).toNat = q := by simp
    refine Ev.step (fun k => rfl) ?_
    simp only [spec_sgTrim.f, spec_sgTrim.l0]
    rw [e1, rd_last, e2]
    simp only [List.length_append, List.length_singleton] at hl ⊢
    refine Ev_if (fun _ => Ev_if (fun _ => Ev_if (fun _ => Ev_if (fun h => Ev_if (fun _ => ?_) (fun h => by omega)) (fun h => ?_)) (fun h => by omega)) (fun h => by omega)) (fun h => by omega)
    · subst h; rw [trimI_zero]; exact ih q hq (by omega)
    · rw [trimI_last q a h]; exact Ev_bindS (own_eq _ (by simp; omega)) (Ev.now _)
theorem contentI_dvd (l : List Int) : ∀ d, contentI d l ∣ d ∧ ∀ x ∈ l, contentI d l ∣ x := by
  induction l with
  | nil => intro d; exact ⟨Int.dvd_refl _, fun x hx => by cases hx⟩
  | cons a l ih =>
    intro d
    obtain ⟨h1, h2⟩ := ih ((Int.gcd d a : Nat) : Int)
    refine ⟨Int.dvd_trans h1 (Int.gcd_dvd_left ..), fun x hx => ?_⟩
    rcases List.mem_cons.1 hx with e | hx
    · subst e; exact Int.dvd_trans h1 (Int.gcd_dvd_right ..)
    · exact h2 x hx
theorem contentI_range (l : List Int) (m : Int) (hm : 0 ≤ m) (hb : boundB l m) : ∀ d, 0 ≤ d ∧ d ≤ m → 0 ≤ contentI d l ∧ contentI d l ≤ m := by
  induction l with
  | nil => intro d hd; exact hd
  | cons a l ih =>
    intro d hd
    exact ih (fun x hx => hb x (List.mem_cons_of_mem _ hx)) _ (gcd_bound d a m hd (hb a List.mem_cons_self))
theorem contentI_pos (l : List Int) (x : Int) (hx : x ∈ l) (h : x ≠ 0) : contentI 0 l ≠ 0 := by
  intro e
  have := (contentI_dvd l 0).2 x hx
  rw [e] at this
  exact h (Int.zero_dvd.1 this)
def partI (l : List Int) : List Int := l.map fun x => Int.tdiv x (contentI 0 l)
theorem tdiv_bound (x d : Int) : -((x.natAbs : Nat) : Int) ≤ Int.tdiv x d ∧ Int.tdiv x d ≤ ((x.natAbs : Nat) : Int) := by
  have h : (Int.tdiv x d).natAbs ≤ x.natAbs := by rw [Int.natAbs_tdiv]; exact Nat.div_le_self _ _
  omega
theorem part_bound (l : List Int) (m : Int) (hb : boundB l m) : boundB (partI l) m := by
  intro y hy
  obtain ⟨x, hx, rfl⟩ := List.mem_map.1 hy
  have h1 := tdiv_bound x (contentI 0 l)
  have h2 := hb x hx
  omega
theorem part_length (l : List Int) : (partI l).length = l.length := by simp [partI]
theorem rd_part (l : List Int) (i : Nat) (h : i < l.length) : rd (partI l) (i : Int) = Int.tdiv (rd l (i : Int)) (contentI 0 l) := by
  rw [rd_getElem _ i (by rw [part_length]; exact h), rd_getElem l i h]; simp [partI]
theorem tdiv_ne_zero (x d : Int) (hd : d ∣ x) (hx : x ≠ 0) : Int.tdiv x d ≠ 0 := by
  intro h
  have := Int.tdiv_mul_cancel hd
  rw [h] at this; simp at this; exact hx this.symm
theorem sgPart_l0 (l : List Int) (hl : l.length ≤ 1000000) (d : Int) (hd : d ≠ 0) (m : Int) (hm : 0 ≤ m ∧ m ≤ 4611686018427387904) (hb : boundB l m) (n : Nat) : ∀ (i : Nat) (acc : List Int), i ≤ l.length → l.length - i = n → acc.length ≤ i → Ev (fun k => spec_sgPart.l0 k d acc l (l.length : Int) (i : Int)) (acc ++ (l.drop i).map fun x => Int.tdiv x d) := by
  induction n with
  | zero =>
    intro i acc hi hn ha
    refine Ev.step (fun k => rfl) ?_
    simp only [spec_sgPart.l0]
    refine Ev_if (fun h => by omega) (fun _ => ?_)
    rw [List.drop_eq_nil_of_le (by omega)]; exact Ev_eq (Ev.now _) (by simp)
  | succ n ih =>
    intro i acc hi hn ha
    have h1 := hb _ (rd_mem l i (by omega))
    have h2 := tdiv_bound (rd l (i : Int)) d
    refine Ev.step (fun k => rfl) ?_
    simp only [spec_sgPart.l0]
    rw [wrap_next i (by omega), show wrap64 (Int.tdiv (rd l (i : Int)) d) = Int.tdiv (rd l (i : Int)) d by unfold wrap64; omega, drop_rd l i (by omega)]
    refine Ev_if (fun _ => Ev_if (fun _ => Ev_if (fun _ => Ev_if (fun h => absurd h hd) (fun _ => Ev_if (fun _ => ?_) (fun h => by omega))) (fun h => by omega)) (fun h => by omega)) (fun h => by omega)
    exact Ev_eq (ih (i + 1) _ (by omega) (by omega) (by simp; omega)) (by simp)
theorem divided_l0 (l : List Int) (hl : l.length ≤ 1000000) (d : Int) (hd : d ≠ 0) (m : Int) (hm : 0 ≤ m ∧ m ≤ 4611686018427387904) (hb : boundB l m) (n : Nat) : ∀ (i : Nat) (acc : List Int), i ≤ l.length → l.length - i = n → acc.length ≤ i → Ev (fun k => impl_divided.l0 k d acc l (l.length : Int) (i : Int)) (acc ++ (l.drop i).map fun x => Int.tdiv x d) := by
  induction n with
  | zero =>
    intro i acc hi hn ha
    refine Ev.step (fun k => rfl) ?_
    simp only [impl_divided.l0]
    refine Ev_if (fun h => by omega) (fun _ => ?_)
    rw [List.drop_eq_nil_of_le (by omega)]; exact Ev_eq (Ev.now _) (by simp)
  | succ n ih =>
    intro i acc hi hn ha
    have h1 := hb _ (rd_mem l i (by omega))
    have h2 := tdiv_bound (rd l (i : Int)) d
    refine Ev.step (fun k => rfl) ?_
    simp only [impl_divided.l0]
    rw [wrap_next i (by omega), show wrap64 (Int.tdiv (rd l (i : Int)) d) = Int.tdiv (rd l (i : Int)) d by unfold wrap64; omega, drop_rd l i (by omega)]
    refine Ev_if (fun _ => Ev_if (fun _ => Ev_if (fun _ => Ev_if (fun h => absurd h hd) (fun _ => Ev_if (fun _ => ?_) (fun h => by omega))) (fun h => by omega)) (fun h => by omega)) (fun h => by omega)
    exact Ev_eq (ih (i + 1) _ (by omega) (by omega) (by simp; omega)) (by simp)
def tight (l : List Int) : Prop := 0 < l.length → rd l ((l.length : Int) - 1) ≠ 0
theorem tight_pos (l : List Int) (h : tight l) (h0 : 0 < l.length) : contentI 0 l ≠ 0 := by
  have e : ((l.length : Int) - 1) = ((l.length - 1 : Nat) : Int) := by omega
  have h1 := h h0
  rw [e] at h1
  exact contentI_pos l _ (rd_mem l (l.length - 1) (by omega)) h1
theorem tight_part (l : List Int) (h : tight l) : tight (partI l) := by
  intro h0
  rw [part_length] at h0 ⊢
  have e : ((l.length : Int) - 1) = ((l.length - 1 : Nat) : Int) := by omega
  have h1 := h h0
  rw [e] at h1 ⊢
  rw [rd_part l _ (by omega)]
  exact tdiv_ne_zero _ _ ((contentI_dvd l 0).2 _ (rd_mem l _ (by omega))) h1
theorem sgPart_ev (l : List Int) (hl : l.length ≤ 1000000) (m : Int) (hm : 0 ≤ m ∧ m ≤ 4611686018427387904) (hb : boundB l m) (ht : tight l) : Ev (fun k => spec_sgPart.f k l) (partI l) := by
  refine Ev.bind (sgContent_eq l hl m hm hb) ?_
  by_cases h0 : l.length = 0
  · have := List.eq_nil_of_length_eq_zero h0
    subst this
    exact Ev.step (f := fun _ => some []) (fun z => rfl) (Ev.now _)
  · have h := sgPart_l0 l hl (contentI 0 l) (tight_pos l ht (by omega)) m hm hb l.length 0 [] (by omega) (by omega) (by simp)
    simpa [partI] using h
theorem divided_ev (l : List Int) (hl : l.length ≤ 1000000) (m : Int) (hm : 0 ≤ m ∧ m ≤ 4611686018427387904) (hb : boundB l m) (ht : tight l) : Ev (fun k => impl_divided.f k l) (partI l) := by
  refine Ev.bind (contentOf_eq l hl m hm hb) ?_
  by_cases h0 : l.length = 0
  · have := List.eq_nil_of_length_eq_zero h0
    subst this
    exact Ev.step (f := fun _ => some []) (fun z => rfl) (Ev.now _)
  · have hp := tight_pos l ht (by omega)
    have hr := contentI_range l m hm.1 hb 0 ⟨by omega, by omega⟩
    have h := divided_l0 l hl (contentI 0 l) hp m hm hb l.length 0 [] (by omega) (by omega) (by simp)
    rw [show mx (contentI 0 l) 1 = contentI 0 l by unfold mx; split <;> omega]
    simpa [partI] using h
theorem trimI_tight (l : List Int) : tight (trimI l) := by
  generalize hn : l.length = n
  induction n generalizing l with
  | zero => have := List.eq_nil_of_length_eq_zero hn; subst this; intro h; simp [trimI] at h
  | succ n ih =>
    obtain ⟨q, a, rfl⟩ := List_snoc l (by omega)
    by_cases ha : a = 0
    · subst ha; rw [trimI_zero]; exact ih q (by simpa using hn)
    · rw [trimI_last q a ha]
      intro _
      have e : (((q ++ [a]).length : Int) - 1) = (q.length : Int) := by simp
      rw [e, rd_last]; exact ha
theorem trimI_sub (l : List Int) : ∀ x ∈ trimI l, x ∈ l := by
  intro x hx
  unfold trimI at hx
  have := (List.dropWhile_sublist (fun x => x == 0) (l := l.reverse)).subset (by simpa using hx)
  simpa using this
theorem gcd_exact (a b : Int) (hb : b ≠ 0) : a * Int.tdiv (absI b) ((Int.gcd a b : Nat) : Int) = absI b * Int.tdiv a ((Int.gcd a b : Nat) : Int) := by
  obtain ⟨g, hg⟩ : ∃ g : Int, ((Int.gcd a b : Nat) : Int) = g := ⟨_, rfl⟩
  have h1 : g ∣ a := by rw [← hg]; exact Int.gcd_dvd_left ..
  have h2 : g ∣ b := by rw [← hg]; exact Int.gcd_dvd_right ..
  have h3 : g ∣ absI b := by unfold absI; exact Int.dvd_natAbs.2 h2
  have hg0 : g ≠ 0 := by
    intro e; rw [e] at h2; exact hb (Int.zero_dvd.1 h2)
  rw [hg]
  obtain ⟨u, hu⟩ := h1
  obtain ⟨v, hv⟩ := h3
  rw [hv, Int.mul_tdiv_cancel_left _ hg0]
  rw [hu, Int.mul_tdiv_cancel_left _ hg0]
  rw [Int.mul_assoc, Int.mul_assoc, Int.mul_comm u v]
theorem up_eq (b g : Int) (hb : -1000000000 ≤ b ∧ b ≤ 1000000000) (hg : 0 < g) : mx (wrap64 (Int.tdiv b g)) (wrap64 (Int.tdiv (wrap64 (-b)) g)) = Int.tdiv (absI b) g := by
  have h1 := tdiv_bound b g
  rw [show wrap64 (-b) = -b by unfold wrap64; omega, Int.neg_tdiv, show wrap64 (Int.tdiv b g) = Int.tdiv b g by unfold wrap64; omega, show wrap64 (-Int.tdiv b g) = -Int.tdiv b g by unfold wrap64; omega]
  unfold absI mx
  by_cases h : 0 ≤ b
  · have h2 := Int.tdiv_nonneg h (by omega : 0 ≤ g)
    rw [if_neg (by omega), show ((b.natAbs : Nat) : Int) = b by omega]
  · have h2 := Int.tdiv_nonneg (show 0 ≤ -b by omega) (by omega : 0 ≤ g)
    rw [Int.neg_tdiv] at h2
    rw [show ((b.natAbs : Nat) : Int) = -b by omega, Int.neg_tdiv]
    split <;> omega
def downI (a b : Int) : Int := if b < 0 then -(Int.tdiv a ((Int.gcd a b : Nat) : Int)) else Int.tdiv a ((Int.gcd a b : Nat) : Int)
def upI (a b : Int) : Int := Int.tdiv (absI b) ((Int.gcd a b : Nat) : Int)
theorem up_down (a b : Int) (hb : b ≠ 0) : a * upI a b = b * downI a b := by
  unfold upI downI
  rw [gcd_exact a b hb]
  unfold absI
  split
  · rw [show ((b.natAbs : Nat) : Int) = -b by omega, Int.mul_neg, Int.neg_mul]
  · rw [show ((b.natAbs : Nat) : Int) = b by omega]
theorem up_bound (a b : Int) (hb : -1000000000 ≤ b ∧ b ≤ 1000000000) : -1000000000 ≤ upI a b ∧ upI a b ≤ 1000000000 := by
  have := tdiv_bound (absI b) ((Int.gcd a b : Nat) : Int)
  unfold upI
  unfold absI at this ⊢
  omega
theorem down_bound (a b : Int) (ha : -1000000000 ≤ a ∧ a ≤ 1000000000) : -1000000000 ≤ downI a b ∧ downI a b ≤ 1000000000 := by
  have := tdiv_bound a ((Int.gcd a b : Nat) : Int)
  unfold downI
  split <;> omega
def lessI (X q : List Int) (down : Int) (s i : Nat) : List Int := (List.range X.length).map fun j => if s ≤ j ∧ j < s + i then wrap64 (rd X (j : Int) - wrap64 (rd q ((j - s : Nat) : Int) * down)) else rd X (j : Int)
theorem lessI_length (X q : List Int) (down : Int) (s i : Nat) : (lessI X q down s i).length = X.length := by simp [lessI]
theorem lessI_rd (X q : List Int) (down : Int) (s i j : Nat) (h : j < X.length) : rd (lessI X q down s i) (j : Int) = if s ≤ j ∧ j < s + i then wrap64 (rd X (j : Int) - wrap64 (rd q ((j - s : Nat) : Int) * down)) else rd X (j : Int) := by
  rw [rd_getElem _ j (by rw [lessI_length]; exact h)]; simp [lessI]
theorem lessI_zero (X q : List Int) (down : Int) (s : Nat) : lessI X q down s 0 = X := by
  apply List.ext_getElem (by rw [lessI_length])
  intro j h1 h2
  have h3 := lessI_rd X q down s 0 j h2
  rw [rd_getElem _ j h1, rd_getElem X j h2, if_neg (by omega)] at h3
  exact h3
theorem lessI_set (X q : List Int) (down : Int) (s i : Nat) (h : s + i < X.length) : (lessI X q down s i).set (s + i) (wrap64 (rd (lessI X q down s i) ((s + i : Nat) : Int) - wrap64 (rd q (i : Int) * down))) = lessI X q down s (i + 1) := by
  apply List.ext_getElem (by rw [List.length_set, lessI_length, lessI_length])
  intro j h1 h2
  have hj : j < X.length := by rw [lessI_length] at h2; exact h2
  have e2 := lessI_rd X q down s (i + 1) j hj
  rw [rd_getElem _ j h2] at e2
  rw [e2, List.getElem_set]
  by_cases e : s + i = j
  · subst e
    rw [if_pos rfl, if_pos (by omega), lessI_rd X q down s i _ h, if_neg (by omega), show s + i - s = i by omega]
  · rw [if_neg e]
    have e1 := lessI_rd X q down s i j hj
    rw [rd_getElem _ j (by rw [lessI_length]; exact hj)] at e1
    rw [e1]
    by_cases hc : s ≤ j ∧ j < s + i
    · rw [if_pos hc, if_pos (by omega)]
    · rw [if_neg hc, if_neg (by omega)]
def mulI (p : List Int) (u : Int) : List Int := p.map fun x => wrap64 (x * u)
theorem mulI_length (p : List Int) (u : Int) : (mulI p u).length = p.length := by simp [mulI]
theorem mulI_rd (p : List Int) (u : Int) (j : Nat) (h : j < p.length) : rd (mulI p u) (j : Int) = wrap64 (rd p (j : Int) * u) := by
  rw [rd_getElem _ j (by rw [mulI_length]; exact h), rd_getElem p j h]; simp [mulI]
theorem idx_eq (p q : List Int) (hp : p.length ≤ 1000000) (hq : q.length ≤ p.length) (i : Nat) (hi : i ≤ q.length) : wrap64 (wrap64 ((i : Int) + (p.length : Int)) - (q.length : Int)) = ((p.length - q.length + i : Nat) : Int) := by unfold wrap64; omega
def nextI (p q : List Int) : List Int := lessI (mulI p (upI (rd p ((p.length : Int) - 1)) (rd q ((q.length : Int) - 1)))) q (downI (rd p ((p.length : Int) - 1)) (rd q ((q.length : Int) - 1))) (p.length - q.length) q.length
theorem nextI_length (p q : List Int) : (nextI p q).length = p.length := by unfold nextI; rw [lessI_length, mulI_length]
def tail1 (N : List Int) (z : Nat) : Option (List Int × Bool) := (spec_sgTrim.f z N).bind fun t => (spec_sgPart.f z t).bind fun t => (spec_l1All.f z t (-1000000000) 1000000000).bind fun t' => some (t, t')
theorem step_l1 (p q : List Int) (down : Int) (X : List Int) (hX : X.length = p.length) (hp : p.length ≤ 1000000) (hq : q.length ≤ p.length) (n : Nat) : ∀ (i : Nat), i ≤ q.length → q.length - i = n →
    ∀ r, Ev (tail1 (lessI X q down (p.length - q.length) q.length)) r → Ev (fun z => spec_sgStep.l1 z p q down (lessI X q down (p.length - q.length) i) q (q.length : Int) (i : Int)) r := by
  induction n with
  | zero =>
    intro i hi hn r hr
    have e : i = q.length := by omega
    subst e
    refine Ev.step (fun z => rfl) ?_
    simp only [spec_sgStep.l1]
    exact Ev_if (fun h => by omega) (fun _ => hr)
  | succ n ih =>
    intro i hi hn r hr
    refine Ev.step (fun z => rfl) ?_
    simp only [spec_sgStep.l1]
    rw [idx_eq p q hp hq i hi, wrap_next i (by omega), Int.toNat_natCast, lessI_set X q down _ i (by omega), lessI_length]
    exact Ev_if (fun _ => Ev_if (fun _ => Ev_if (fun _ => Ev_if (fun _ => Ev_if (fun _ => ih (i + 1) (by omega) (by omega) r hr) (fun h => by omega)) (fun h => by omega)) (fun h => by omega)) (fun h => by omega)) (fun h => by omega)
theorem step_l0 (p q : List Int) (up down : Int) (hp : p.length ≤ 1000000) (hq : q.length ≤ p.length) (n : Nat) : ∀ (i : Nat), i ≤ p.length → p.length - i = n →
    ∀ r, Ev (tail1 (lessI (mulI p up) q down (p.length - q.length) q.length)) r → Ev (fun z => spec_sgStep.l0 z p q up down ((mulI p up).take i) p (p.length : Int) (i : Int)) r := by
  induction n with
  | zero =>
    intro i hi hn r hr
    refine Ev.step (fun z => rfl) ?_
    simp only [spec_sgStep.l0]
    refine Ev_if (fun h => by omega) (fun _ => ?_)
    rw [List.take_of_length_le (by rw [mulI_length]; omega)]
    have h := step_l1 p q down (mulI p up) (mulI_length _ _) hp hq q.length 0 (by omega) (by omega) r hr
    rw [lessI_zero] at h
    exact h
  | succ n ih =>
    intro i hi hn r hr
    refine Ev.step (fun z => rfl) ?_
    simp only [spec_sgStep.l0]
    have e : (mulI p up).take i ++ [wrap64 (rd p (i : Int) * up)] = (mulI p up).take (i + 1) := by
      have h1 : i < (mulI p up).length := by rw [mulI_length]; omega
      rw [← mulI_rd p up i (by omega), rd_getElem _ i h1, List.take_succ_eq_append_getElem h1]
    rw [wrap_next i (by omega), e]
    exact Ev_if (fun _ => Ev_if (fun _ => Ev_if (fun _ => Ev_if (fun _ => ih (i + 1) (by omega) (by omega) r hr) (fun h => absurd (by simp; omega) h)) (fun h => by omega)) (fun h => by omega)) (fun h => by omega)
theorem gcd_abs2 (a b : Int) : Int.gcd (absI a) (absI b) = Int.gcd a b := by unfold absI; simp [Int.gcd]
theorem sgStep_ev (p q : List Int) (hp : p.length ≤ 1000000) (hq : q.length ≤ p.length) (hq0 : 0 < q.length) (hpb : boundB p 1000000000) (hqb : boundB q 1000000000) (hb : rd q ((q.length : Int) - 1) ≠ 0) :
    ∀ r, Ev (tail1 (nextI p q)) r → Ev (fun z => spec_sgStep.f z p q) r := by
  intro r hr
  have hw1 : wrap64 ((q.length : Int) - 1) = (q.length : Int) - 1 := by unfold wrap64; omega
  have hw2 : wrap64 ((p.length : Int) - 1) = (p.length : Int) - 1 := by unfold wrap64; omega
  have ma : rd p ((p.length : Int) - 1) ∈ p := by
    have e : ((p.length : Int) - 1) = ((p.length - 1 : Nat) : Int) := by omega
    rw [e]; exact rd_mem p _ (by omega)
  have mb : rd q ((q.length : Int) - 1) ∈ q := by
    have e : ((q.length : Int) - 1) = ((q.length - 1 : Nat) : Int) := by omega
    rw [e]; exact rd_mem q _ (by omega)
  unfold nextI at hr
  obtain ⟨a, ha⟩ : ∃ a, rd p ((p.length : Int) - 1) = a := ⟨_, rfl⟩
  obtain ⟨b, hbe⟩ : ∃ b, rd q ((q.length : Int) - 1) = b := ⟨_, rfl⟩
  rw [ha] at ma hr
  rw [hbe] at mb hb hr
  have hab := hpb a ma
  have hbb := hqb b mb
  have hg := sgGcd_eq (absI a) (absI b) (by unfold absI; omega) (by unfold absI; omega)
  rw [gcd_abs2] at hg
  obtain ⟨g, hge⟩ : ∃ g : Int, ((Int.gcd a b : Nat) : Int) = g := ⟨_, rfl⟩
  have hg0 : g ≠ 0 := by
    intro e
    have h2 : g ∣ b := by rw [← hge]; exact Int.gcd_dvd_right ..
    rw [e] at h2; exact hb (Int.zero_dvd.1 h2)
  have ub := up_bound a b hbb
  have db := down_bound a b hab
  have dt := tdiv_bound a g
  have hj : ∀ r, Ev (tail1 (lessI (mulI p (upI a b)) q (downI a b) (p.length - q.length) q.length)) r → Ev (fun z => spec_sgStep.j0 z p q (upI a b) (downI a b)) r := by
    intro r hr
    refine Ev.step (fun z => rfl) ?_
    simp only [spec_sgStep.j0]
    have h := step_l0 p q (upI a b) (downI a b) hp hq p.length 0 (by omega) (by omega) r hr
    simpa using h
  unfold spec_sgStep.f
  rw [hw1, hw2, ha, hbe]
  refine Ev_if (fun _ => Ev_if (fun _ => Ev_if (fun _ => Ev_if (fun _ => ?_) (fun h => by omega)) (fun h => by omega)) (fun h => by omega)) (fun h => by omega)
  refine Ev_bindS (l1Abs_eq a ⟨by omega, by omega⟩) (Ev_bindS (l1Abs_eq b ⟨by omega, by omega⟩) (Ev.bind hg ?_))
  rw [hge]
  have eu : wrap64 (Int.tdiv (absI b) g) = upI a b := by
    have : Int.tdiv (absI b) g = upI a b := by unfold upI; rw [hge]
    rw [this]; unfold wrap64; omega
  have ed : wrap64 (Int.tdiv a g) = Int.tdiv a g := by unfold wrap64; omega
  have edn : wrap64 (-(Int.tdiv a g)) = -(Int.tdiv a g) := by unfold wrap64; omega
  rw [eu, ed, edn]
  refine Ev_if (fun h => absurd h hg0) (fun _ => Ev_if (fun hneg => ?_) (fun hneg => ?_))
  · have e : -(Int.tdiv a g) = downI a b := by unfold downI; rw [if_pos hneg, hge]
    rw [e]; exact hj r hr
  · have e : Int.tdiv a g = downI a b := by unfold downI; rw [if_neg hneg, hge]
    rw [e]; exact hj r hr
def tailI (q : List Int) (b : Int) (N : List Int) (z : Nat) : Option (List Int × Bool) := (impl_stripped.f z N).bind fun t => (impl_divided.f z t).bind fun t => (slices_ContainsFunc_int_int__impl_remainder_1.f t).bind fun t' => if t' = true then some (([] : List Int), false) else impl_remainder.l0 z t q b
theorem rem_l2 (p q : List Int) (b down : Int) (X : List Int) (hX : X.length = p.length) (hp : p.length ≤ 1000000) (hq : q.length ≤ p.length) (n : Nat) : ∀ (i : Nat), i ≤ q.length → q.length - i = n →
    ∀ r, Ev (tailI q b (lessI X q down (p.length - q.length) q.length)) r → Ev (fun z => impl_remainder.l2 z p q b down (lessI X q down (p.length - q.length) i) q (q.length : Int) (i : Int)) r := by
  induction n with
  | zero =>
    intro i hi hn r hr
    have e : i = q.length := by omega
    subst e
    refine Ev.step (fun z => rfl) ?_
    simp only [impl_remainder.l2]
    exact Ev_if (fun h => by omega) (fun _ => hr)
  | succ n ih =>
    intro i hi hn r hr
    refine Ev.step (fun z => rfl) ?_
    simp only [impl_remainder.l2]
    rw [idx_eq p q hp hq i hi, wrap_next i (by omega), Int.toNat_natCast, Int.mul_comm down, lessI_set X q down _ i (by omega), lessI_length]
    exact Ev_if (fun _ => Ev_if (fun _ => Ev_if (fun _ => Ev_if (fun _ => Ev_if (fun _ => ih (i + 1) (by omega) (by omega) r hr) (fun h => by omega)) (fun h => by omega)) (fun h => by omega)) (fun h => by omega)) (fun h => by omega)
theorem mul_fill (p : List Int) (u : Int) (i : Nat) (h : i < p.length) : ((mulI p u).take i ++ List.replicate (p.length - i) 0).set i (wrap64 (u * rd p (i : Int))) = (mulI p u).take (i + 1) ++ List.replicate (p.length - (i + 1)) 0 := by
  have h1 : i < (mulI p u).length := by rw [mulI_length]; exact h
  have h2 : p.length - i = (p.length - (i + 1)) + 1 := by omega
  rw [Int.mul_comm u, ← mulI_rd p u i h, rd_getElem _ i h1, List.take_succ_eq_append_getElem h1, h2, List.replicate_succ, List.set_append_right _ _ (by simp; omega)]
  have h3 : i - ((mulI p u).take i).length = 0 := by simp; omega
  rw [h3, List.set_cons_zero, List.append_assoc]
  rfl
theorem rem_l1 (p q : List Int) (b up down : Int) (hp : p.length ≤ 1000000) (hq : q.length ≤ p.length) (n : Nat) : ∀ (i : Nat), i ≤ p.length → p.length - i = n →
    ∀ r, Ev (tailI q b (lessI (mulI p up) q down (p.length - q.length) q.length)) r → Ev (fun z => impl_remainder.l1 z p q b up down ((mulI p up).take i ++ List.replicate (p.length - i) 0) p (p.length : Int) (i : Int)) r := by
  induction n with
  | zero =>
    intro i hi hn r hr
    have e : i = p.length := by omega
    subst e
    refine Ev.step (fun z => rfl) ?_
    simp only [impl_remainder.l1]
    refine Ev_if (fun h => by omega) (fun _ => ?_)
    have h := rem_l2 p q b down (mulI p up) (mulI_length _ _) hp hq q.length 0 (by omega) (by omega) r hr
    rw [lessI_zero] at h
    rw [List.take_of_length_le (by rw [mulI_length]; omega), Nat.sub_self]
    simpa using h
  | succ n ih =>
    intro i hi hn r hr
    refine Ev.step (fun z => rfl) ?_
    simp only [impl_remainder.l1]
    rw [wrap_next i (by omega), Int.toNat_natCast, mul_fill p up i (by omega)]
    refine Ev_if (fun _ => Ev_if (fun _ => Ev_if (fun _ => Ev_if (fun _ => ih (i + 1) (by omega) (by omega) r hr) (fun h => absurd ?_ h)) (fun h => by omega)) (fun h => by omega)) (fun h => by omega)
    simp only [List.length_append, List.length_take, List.length_replicate, mulI_length]; omega
theorem rem_step (p q : List Int) (hp : p.length ≤ 1000000) (hq : q.length ≤ p.length) (hq0 : 0 < q.length) (hpb : boundB p 1000000000) (hqb : boundB q 1000000000) (hb : rd q ((q.length : Int) - 1) ≠ 0) :
    ∀ r, Ev (tailI q (rd q ((q.length : Int) - 1)) (nextI p q)) r → Ev (fun z => impl_remainder.l0 z p q (rd q ((q.length : Int) - 1))) r := by
  intro r hr
  have hw2 : wrap64 ((p.length : Int) - 1) = (p.length : Int) - 1 := by unfold wrap64; omega
  have ma : rd p ((p.length : Int) - 1) ∈ p := by
    have e : ((p.length : Int) - 1) = ((p.length - 1 : Nat) : Int) := by omega
    rw [e]; exact rd_mem p _ (by omega)
  have mb : rd q ((q.length : Int) - 1) ∈ q := by
    have e : ((q.length : Int) - 1) = ((q.length - 1 : Nat) : Int) := by omega
    rw [e]; exact rd_mem q _ (by omega)
  unfold nextI at hr
  obtain ⟨a, ha⟩ : ∃ a, rd p ((p.length : Int) - 1) = a := ⟨_, rfl⟩
  obtain ⟨b, hbe⟩ : ∃ b, rd q ((q.length : Int) - 1) = b := ⟨_, rfl⟩
  rw [ha] at ma hr
  rw [hbe] at mb hb hr ⊢
  have hab := hpb a ma
  have hbb := hqb b mb
  have hg := gcd_eq a b ⟨by omega, by omega⟩ ⟨by omega, by omega⟩
  obtain ⟨g, hge⟩ : ∃ g : Int, ((Int.gcd a b : Nat) : Int) = g := ⟨_, rfl⟩
  have hg0 : g ≠ 0 := by
    intro e
    have h2 : g ∣ b := by rw [← hge]; exact Int.gcd_dvd_right ..
    rw [e] at h2; exact hb (Int.zero_dvd.1 h2)
  have hgp : 0 < g := by omega
  have ub := up_bound a b hbb
  have db := down_bound a b hab
  have dt := tdiv_bound a g
  have hj : ∀ r, Ev (tailI q b (lessI (mulI p (upI a b)) q (downI a b) (p.length - q.length) q.length)) r → Ev (fun z => impl_remainder.j1 z p q b (upI a b) (downI a b)) r := by
    intro r hr
    refine Ev.step (fun z => rfl) ?_
    simp only [impl_remainder.j1]
    rw [Int.toNat_natCast]
    have h := rem_l1 p q b (upI a b) (downI a b) hp hq p.length 0 (by omega) (by omega) r hr
    refine Ev_if (fun _ => Ev_if (fun _ => ?_) (fun h => by omega)) (fun h => by omega)
    simpa using h
  refine Ev.step (fun z => rfl) ?_
  simp only [impl_remainder.l0]
  rw [hw2, ha]
  refine Ev_if (fun _ => Ev_if (fun _ => Ev_if (fun _ => Ev.bind hg ?_) (fun h => by omega)) (fun h => by omega)) (fun h => by omega)
  rw [hge]
  have eu : mx (wrap64 (Int.tdiv b g)) (wrap64 (Int.tdiv (wrap64 (-b)) g)) = upI a b := by
    rw [up_eq b g hbb hgp]; unfold upI; rw [hge]
  have ed : wrap64 (Int.tdiv a g) = Int.tdiv a g := by unfold wrap64; omega
  have edn : wrap64 (-(Int.tdiv a g)) = -(Int.tdiv a g) := by unfold wrap64; omega
  rw [eu, ed, edn]
  refine Ev_if (fun h => absurd h hg0) (fun _ => Ev_if (fun hneg => ?_) (fun hneg => ?_))
  · have e : -(Int.tdiv a g) = downI a b := by unfold downI; rw [if_pos hneg, hge]
    rw [e]; exact hj r hr
  · have e : Int.tdiv a g = downI a b := by unfold downI; rw [if_neg hneg, hge]
    rw [e]; exact hj r hr
theorem mul_bound (x y : Int) (hx : -1000000000 ≤ x ∧ x ≤ 1000000000) (hy : -1000000000 ≤ y ∧ y ≤ 1000000000) : -1000000000000000000 ≤ x * y ∧ x * y ≤ 1000000000000000000 := by
  have h1 : (x * y).natAbs ≤ 1000000000 * 1000000000 := by rw [Int.natAbs_mul]; exact Nat.mul_le_mul (by omega) (by omega)
  omega
theorem next_facts (p q : List Int) (hq : q.length ≤ p.length) (hq0 : 0 < q.length) (hpb : boundB p 1000000000) (hqb : boundB q 1000000000) (hb : rd q ((q.length : Int) - 1) ≠ 0) :
    boundB (nextI p q) 2000000000000000000 ∧ (trimI (nextI p q)).length < p.length := by
  have ma : rd p ((p.length : Int) - 1) ∈ p := by
    have e : ((p.length : Int) - 1) = ((p.length - 1 : Nat) : Int) := by omega
    rw [e]; exact rd_mem p _ (by omega)
  have mb : rd q ((q.length : Int) - 1) ∈ q := by
    have e : ((q.length : Int) - 1) = ((q.length - 1 : Nat) : Int) := by omega
    rw [e]; exact rd_mem q _ (by omega)
  have hl := nextI_length p q
  have hud := up_down (rd p ((p.length : Int) - 1)) (rd q ((q.length : Int) - 1)) hb
  have ub := up_bound (rd p ((p.length : Int) - 1)) (rd q ((q.length : Int) - 1)) (hqb _ mb)
  have db := down_bound (rd p ((p.length : Int) - 1)) (rd q ((q.length : Int) - 1)) (hpb _ ma)
  have key : ∀ j : Nat, j < p.length → rd (nextI p q) (j : Int) = rd p (j : Int) * upI (rd p ((p.length : Int) - 1)) (rd q ((q.length : Int) - 1)) - (if p.length - q.length ≤ j then rd q ((j - (p.length - q.length) : Nat) : Int) * downI (rd p ((p.length : Int) - 1)) (rd q ((q.length : Int) - 1)) else 0) ∧ -2000000000000000000 ≤ rd (nextI p q) (j : Int) ∧ rd (nextI p q) (j : Int) ≤ 2000000000000000000 := by
    intro j hj
    have h1 := mul_bound _ _ (hpb _ (rd_mem p j hj)) ub
    unfold nextI
    rw [lessI_rd _ _ _ _ _ j (by rw [mulI_length]; exact hj), mulI_rd p _ j hj]
    have e1 : wrap64 (rd p (j : Int) * upI (rd p ((p.length : Int) - 1)) (rd q ((q.length : Int) - 1))) = rd p (j : Int) * upI (rd p ((p.length : Int) - 1)) (rd q ((q.length : Int) - 1)) := by unfold wrap64; omega
    rw [e1]
    by_cases hs : p.length - q.length ≤ j
    · have hr := rd_mem q (j - (p.length - q.length)) (by omega)
      have h2 := mul_bound _ _ (hqb _ hr) db
      have e2 : wrap64 (rd q ((j - (p.length - q.length) : Nat) : Int) * downI (rd p ((p.length : Int) - 1)) (rd q ((q.length : Int) - 1))) = rd q ((j - (p.length - q.length) : Nat) : Int) * downI (rd p ((p.length : Int) - 1)) (rd q ((q.length : Int) - 1)) := by unfold wrap64; omega
      rw [if_pos (by omega), if_pos hs, e2]
      have e3 : wrap64 (rd p (j : Int) * upI (rd p ((p.length : Int) - 1)) (rd q ((q.length : Int) - 1)) - rd q ((j - (p.length - q.length) : Nat) : Int) * downI (rd p ((p.length : Int) - 1)) (rd q ((q.length : Int) - 1))) = rd p (j : Int) * upI (rd p ((p.length : Int) - 1)) (rd q ((q.length : Int) - 1)) - rd q ((j - (p.length - q.length) : Nat) : Int) * downI (rd p ((p.length : Int) - 1)) (rd q ((q.length : Int) - 1)) := by unfold wrap64; omega
      rw [e3]
      exact ⟨rfl, by omega, by omega⟩
    · rw [if_neg (by omega), if_neg hs]
      exact ⟨by omega, by omega, by omega⟩
  constructor
  · intro x hx
    obtain ⟨j, hj, rfl⟩ := List.getElem_of_mem hx
    have := (key j (by omega)).2
    rw [rd_getElem _ j hj] at this
    exact this
  · obtain ⟨N, a, hN⟩ := List_snoc (nextI p q) (by omega)
    have hlN : N.length = p.length - 1 := by
      have := congrArg List.length hN
      rw [hl] at this; simp at this; omega
    have ha : a = 0 := by
      have h := (key (p.length - 1) (by omega)).1
      have e1 : rd (nextI p q) ((p.length - 1 : Nat) : Int) = a := by rw [hN, ← hlN, rd_last]
      rw [e1, if_pos (by omega), show p.length - 1 - (p.length - q.length) = q.length - 1 by omega] at h
      have e2 : ((p.length - 1 : Nat) : Int) = (p.length : Int) - 1 := by omega
      have e3 : ((q.length - 1 : Nat) : Int) = (q.length : Int) - 1 := by omega
      rw [e2, e3, hud] at h
      omega
    rw [hN, ha, trimI_zero]
    have := trimI_length N
    omega
theorem cf_rem (l : List Int) : slices_ContainsFunc_int_int__impl_remainder_1.f l = some (!(l.all fun x => decide ((-1000000000) ≤ x ∧ x ≤ 1000000000))) := by
  induction l with
  | nil => rfl
  | cons x q ih =>
    simp only [slices_ContainsFunc_int_int__impl_remainder_1.f, impl_remainder_1.f, inside_eq, Option.bind_some, List.all_cons, ih]
    by_cases h : (-1000000000) ≤ x ∧ x ≤ 1000000000
    · rw [decide_eq_true h]; rfl
    · rw [decide_eq_false h]; rfl
theorem good_tight (l : List Int) (h : goodB l = true) : tight l := good_last l h
def negI (l : List Int) : List Int := l.map fun x => wrap64 (-x)
theorem negI_length (l : List Int) : (negI l).length = l.length := by simp [negI]
theorem negI_rd (l : List Int) (j : Nat) (h : j < l.length) : rd (negI l) (j : Int) = wrap64 (-(rd l (j : Int))) := by
  rw [rd_getElem _ j (by rw [negI_length]; exact h), rd_getElem l j h]; simp [negI]
theorem negated_l0 (l : List Int) (hl : l.length ≤ 1000000) (n : Nat) : ∀ (i : Nat), i ≤ l.length → l.length - i = n → Ev (fun z => impl_negated.l0 z ((negI l).take i) l (l.length : Int) (i : Int)) (negI l) := by
  induction n with
  | zero =>
    intro i hi hn
    refine Ev.step (fun z => rfl) ?_
    simp only [impl_negated.l0]
    refine Ev_if (fun h => by omega) (fun _ => ?_)
    rw [List.take_of_length_le (by rw [negI_length]; omega)]
    exact Ev.now _
  | succ n ih =>
    intro i hi hn
    refine Ev.step (fun z => rfl) ?_
    simp only [impl_negated.l0]
    have e : (negI l).take i ++ [wrap64 (-(rd l (i : Int)))] = (negI l).take (i + 1) := by
      have h1 : i < (negI l).length := by rw [negI_length]; omega
      rw [← negI_rd l i (by omega), rd_getElem _ i h1, List.take_succ_eq_append_getElem h1]
    rw [wrap_next i (by omega), e]
    exact Ev_if (fun _ => Ev_if (fun _ => Ev_if (fun _ => Ev_if (fun _ => ih (i + 1) (by omega) (by omega)) (fun h => absurd (by simp; omega) h)) (fun h => by omega)) (fun h => by omega)) (fun h => by omega)
theorem negated_ev (l : List Int) (hl : l.length ≤ 1000000) : Ev (fun z => impl_negated.f z l) (negI l) := by
  have h := negated_l0 l hl l.length 0 (by omega) (by omega)
  unfold impl_negated.f
  simpa using h
theorem sgUp_l0 (l : List Int) (hl : l.length ≤ 1000000) (n : Nat) : ∀ (i : Nat), i ≤ l.length → l.length - i = n → Ev (fun z => spec_sgUp.l0 z ((negI l).take i ++ l.drop i) (l.length : Int) (i : Int)) (negI l) := by
  induction n with
  | zero =>
    intro i hi hn
    refine Ev.step (fun z => rfl) ?_
    simp only [spec_sgUp.l0]
    refine Ev_if (fun h => by omega) (fun _ => ?_)
    rw [List.take_of_length_le (by rw [negI_length]; omega), List.drop_eq_nil_of_le (by omega), List.append_nil]
    exact Ev.now _
  | succ n ih =>
    intro i hi hn
    refine Ev.step (fun z => rfl) ?_
    simp only [spec_sgUp.l0]
    have hlen : ((negI l).take i ++ l.drop i).length = l.length := by simp [negI_length]; omega
    have er : rd ((negI l).take i ++ l.drop i) (i : Int) = rd l (i : Int) := by
      rw [rd_getElem _ i (by rw [hlen]; omega), rd_getElem l i (by omega), List.getElem_append_right (by simp; omega)]
      simp [negI_length, Nat.min_eq_left (by omega : i ≤ l.length)]
    have e : ((negI l).take i ++ l.drop i).set i (wrap64 (-(rd l (i : Int)))) = (negI l).take (i + 1) ++ l.drop (i + 1) := by
      have h1 : i < (negI l).length := by rw [negI_length]; omega
      rw [List.set_append_right _ _ (by simp; omega)]
      have h3 : i - ((negI l).take i).length = 0 := by simp [negI_length]; omega
      rw [h3, drop_rd l i (by omega), List.set_cons_zero, List.take_succ_eq_append_getElem h1, ← negI_rd l i (by omega), rd_getElem _ i h1, List.append_assoc]
      rfl
    rw [wrap_next i (by omega), er, Int.toNat_natCast, e, hlen]
    exact Ev_if (fun _ => Ev_if (fun _ => Ev_if (fun _ => ih (i + 1) (by omega) (by omega)) (fun h => by omega)) (fun h => by omega)) (fun h => by omega)
theorem sgUp_neg (l : List Int) (hl : l.length ≤ 1000000) : Ev (fun z => spec_sgUp.l0 z l (l.length : Int) 0) (negI l) := by
  have h := sgUp_l0 l hl l.length 0 (by omega) (by omega)
  simpa using h
def signI (l : List Int) : List Int := if l.length = 0 then l else if rd l ((l.length : Int) - 1) < 0 then negI l else l
theorem signI_length (l : List Int) : (signI l).length = l.length := by
  unfold signI; split
  · rfl
  · split
    · exact negI_length l
    · rfl
theorem withSign_ev (l : List Int) (hl : l.length ≤ 1000000) : Ev (fun z => impl_withSign.f z l) (signI l) := by
  unfold impl_withSign.f signI
  rw [show wrap64 ((l.length : Int) - 1) = (l.length : Int) - 1 by unfold wrap64; omega]
  refine Ev_if (fun h0 => Ev_if (fun _ => Ev_if (fun _ => Ev_if (fun h => ?_) (fun h => ?_)) (fun h => by omega)) (fun h => by omega)) (fun h0 => ?_)
  · rw [if_neg (by omega), if_pos h]
    exact Ev.bind (negated_ev l hl) (Ev.now _)
  · rw [if_neg (by omega), if_neg h]; exact Ev.now _
  · rw [if_pos (by omega)]; exact Ev.now _
theorem sgUp_ev (l : List Int) (hl : l.length ≤ 1000000) (m : Int) (hm : 0 ≤ m ∧ m ≤ 4611686018427387904) (hb : boundB l m) (ht : tight l) : Ev (fun z => spec_sgUp.f z l) (signI (partI l)) := by
  unfold spec_sgUp.f
  refine Ev.bind (sgPart_ev l hl m hm hb ht) ?_
  have hP := part_length l
  obtain ⟨P, hPe⟩ : ∃ P, partI l = P := ⟨_, rfl⟩
  rw [hPe] at hP ⊢
  unfold signI
  rw [show wrap64 ((P.length : Int) - 1) = (P.length : Int) - 1 by unfold wrap64; omega]
  refine Ev_if (fun h0 => Ev_if (fun _ => Ev_if (fun _ => ?_) (fun h => by omega)) (fun h => by omega)) (fun h0 => ?_)
  · rw [if_neg (by omega)]
    by_cases hs : rd P ((P.length : Int) - 1) < 0
    · rw [if_pos hs, decide_eq_true hs]
      refine Ev.step (fun z => rfl) ?_
      simp only [spec_sgUp.j0]
      exact Ev_if (fun _ => sgUp_neg P (by omega)) (fun h => absurd trivial h)
    · rw [if_neg hs, decide_eq_false hs]
      refine Ev.step (fun z => rfl) ?_
      simp only [spec_sgUp.j0]
      exact Ev_if (fun h => by cases h) (fun _ => Ev.now _)
  · rw [if_pos (by omega)]
    refine Ev.step (fun z => rfl) ?_
    simp only [spec_sgUp.j0]
    exact Ev_if (fun h => by cases h) (fun _ => Ev.now _)
def stepI (p q : List Int) : List Int := partI (trimI (nextI p q))
def okB (l : List Int) : Bool := l.all fun x => decide ((-1000000000) ≤ x ∧ x ≤ 1000000000)
theorem okB_bound (l : List Int) (h : okB l = true) : boundB l 1000000000 := by
  intro x hx
  have := List.all_eq_true.1 h x hx
  simpa using this
def remL : Nat → List Int → List Int → List Int × Bool
  | 0, p, _ => (p, true)
  | n + 1, p, q => if q.length ≤ p.length then (if okB (stepI p q) = true then remL n (stepI p q) q else ([], false)) else (p, true)
theorem remL_ev (q : List Int) (hq0 : 0 < q.length) (hqb : boundB q 1000000000) (hb : rd q ((q.length : Int) - 1) ≠ 0) (n : Nat) : ∀ (p : List Int), p.length ≤ n → p.length ≤ 1000000 → boundB p 1000000000 → tight p →
    Ev (fun z => spec_sgRemainder.l0 z p q) (remL n p q) ∧ Ev (fun z => impl_remainder.l0 z p q (rd q ((q.length : Int) - 1))) (remL n p q) ∧ ((remL n p q).2 = true → (remL n p q).1.length < q.length ∧ boundB (remL n p q).1 1000000000 ∧ tight (remL n p q).1) ∧ ((remL n p q).2 = false → (remL n p q).1 = []) := by
  induction n with
  | zero =>
    intro p hpn hp hpb ht
    refine ⟨?_, ?_, fun _ => ⟨by simp only [remL]; omega, hpb, ht⟩, fun h => by cases h⟩
    · refine Ev.step (fun z => rfl) ?_
      simp only [spec_sgRemainder.l0]
      exact Ev_if (fun h => by omega) (fun _ => Ev.now _)
    · refine Ev.step (fun z => rfl) ?_
      simp only [impl_remainder.l0]
      exact Ev_if (fun h => by omega) (fun _ => Ev.now _)
  | succ n ih =>
    intro p hpn hp hpb ht
    by_cases hlen : q.length ≤ p.length
    · obtain ⟨nb, nt⟩ := next_facts p q hlen hq0 hpb hqb hb
      have hTb : boundB (trimI (nextI p q)) 2000000000000000000 := fun x hx => nb x (trimI_sub _ x hx)
      have hTt := trimI_tight (nextI p q)
      have hTl : (trimI (nextI p q)).length ≤ 1000000 := by omega
      have hPl := part_length (trimI (nextI p q))
      have hPt := tight_part _ hTt
      have s1 := sgTrim_eq _ (nextI p q) rfl (by rw [nextI_length]; omega)
      have s2 := stripped_eq _ (nextI p q) rfl (by rw [nextI_length]; omega)
      have p1 := sgPart_ev _ hTl 2000000000000000000 ⟨by omega, by omega⟩ hTb hTt
      have p2 := divided_ev _ hTl 2000000000000000000 ⟨by omega, by omega⟩ hTb hTt
      simp only [remL]
      rw [if_pos hlen]
      change Ev (fun z => spec_sgPart.f z (trimI (nextI p q))) (stepI p q) at p1
      change Ev (fun z => impl_divided.f z (trimI (nextI p q))) (stepI p q) at p2
      change (stepI p q).length = _ at hPl
      change tight (stepI p q) at hPt
      obtain ⟨P, hPe⟩ : ∃ P, stepI p q = P := ⟨_, rfl⟩
      rw [hPe] at hPl hPt p1 p2 ⊢
      have a1 : Ev (fun z => spec_l1All.f z P (-1000000000) 1000000000) (okB P) := ⟨P.length + 1, fun k hk => l1All_eq P _ _ (by omega) k (by omega)⟩
      cases hall : okB P with
      | false =>
        rw [hall] at a1
        simp only [Bool.false_eq_true, if_false]
        refine ⟨?_, ?_, (fun h => by cases h), fun _ => trivial⟩
        · have hs := sgStep_ev p q hp hlen hq0 hpb hqb hb (P, false) (Ev.bind s1 (Ev.bind p1 (Ev.bind a1 (Ev.now _))))
          refine Ev.step (fun z => rfl) ?_
          simp only [spec_sgRemainder.l0]
          exact Ev_if (fun _ => Ev.bind hs (Ev_if (fun h => by cases h) (fun _ => Ev.now _))) (fun h => by omega)
        · refine rem_step p q hp hlen hq0 hpb hqb hb _ (Ev.bind s2 (Ev.bind p2 (Ev_bindS (cf_rem P) ?_)))
          rw [show (P.all fun x => decide ((-1000000000) ≤ x ∧ x ≤ 1000000000)) = false from hall]
          exact Ev_if (fun _ => Ev.now _) (fun h => absurd rfl h)
      | true =>
        rw [hall] at a1
        rw [if_pos rfl]
        obtain ⟨e1, e2, e3, e4⟩ := ih P (by omega) (by omega) (okB_bound P hall) hPt
        refine ⟨?_, ?_, e3, e4⟩
        · have hs := sgStep_ev p q hp hlen hq0 hpb hqb hb (P, true) (Ev.bind s1 (Ev.bind p1 (Ev.bind a1 (Ev.now _))))
          refine Ev.step (fun z => rfl) ?_
          simp only [spec_sgRemainder.l0]
          exact Ev_if (fun _ => Ev.bind hs (Ev_if (fun _ => e1) (fun h => absurd rfl h))) (fun h => by omega)
        · refine rem_step p q hp hlen hq0 hpb hqb hb _ (Ev.bind s2 (Ev.bind p2 (Ev_bindS (cf_rem P) ?_)))
          rw [show (P.all fun x => decide ((-1000000000) ≤ x ∧ x ≤ 1000000000)) = true from hall]
          exact Ev_if (fun h => by cases h) (fun _ => e2)
    · simp only [remL]
      rw [if_neg hlen]
      refine ⟨?_, ?_, fun _ => ⟨by show p.length < q.length; omega, hpb, ht⟩, fun h => by cases h⟩
      · refine Ev.step (fun z => rfl) ?_
        simp only [spec_sgRemainder.l0]
        exact Ev_if (fun h => by omega) (fun _ => Ev.now _)
      · refine Ev.step (fun z => rfl) ?_
        simp only [impl_remainder.l0]
        exact Ev_if (fun h => by omega) (fun _ => Ev.now _)
def remF (p q : List Int) : List Int × Bool := remL (partI p).length (partI p) q
theorem remF_ev (p q : List Int) (hp : p.length ≤ 1000000) (hq : q.length ≤ 1000000) (hq0 : 0 < q.length) (hpb : boundB p 1000000000) (hpt : tight p) (hqb : boundB q 1000000000) (hqt : tight q) :
    Ev (fun z => spec_sgRemainder.f z p q) (remF p q) ∧ Ev (fun z => impl_remainder.f z p q) (remF p q) ∧ ((remF p q).2 = true → (remF p q).1.length < q.length ∧ boundB (remF p q).1 1000000000 ∧ tight (remF p q).1) ∧ ((remF p q).2 = false → (remF p q).1 = []) := by
  have hPb := part_bound p 1000000000 hpb
  have hPt := tight_part p hpt
  have hPl := part_length p
  obtain ⟨e1, e2, e3, e4⟩ := remL_ev q hq0 hqb (hqt hq0) (partI p).length (partI p) (Nat.le_refl _) (by omega) hPb hPt
  refine ⟨?_, ?_, e3, e4⟩
  · exact Ev.bind (sgPart_ev p hp 1000000000 ⟨by omega, by omega⟩ hpb hpt) e1
  · refine Ev.bind (divided_ev p hp 1000000000 ⟨by omega, by omega⟩ hpb hpt) ?_
    rw [show wrap64 ((q.length : Int) - 1) = (q.length : Int) - 1 by unfold wrap64; omega]
    exact Ev_if (fun _ => Ev_if (fun _ => e2) (fun h => by omega)) (fun h => by omega)
theorem next_val (p q : List Int) (hq : q.length ≤ p.length) (hq0 : 0 < q.length) (hpb : boundB p 1000000000) (hqb : boundB q 1000000000) (hb : rd q ((q.length : Int) - 1) ≠ 0) (j : Nat) (hj : j < p.length) :
    rd (nextI p q) (j : Int) = rd p (j : Int) * upI (rd p ((p.length : Int) - 1)) (rd q ((q.length : Int) - 1)) - (if p.length - q.length ≤ j then rd q ((j - (p.length - q.length) : Nat) : Int) * downI (rd p ((p.length : Int) - 1)) (rd q ((q.length : Int) - 1)) else 0) := by
  have ma : rd p ((p.length : Int) - 1) ∈ p := by
    have e : ((p.length : Int) - 1) = ((p.length - 1 : Nat) : Int) := by omega
    rw [e]; exact rd_mem p _ (by omega)
  have mb : rd q ((q.length : Int) - 1) ∈ q := by
    have e : ((q.length : Int) - 1) = ((q.length - 1 : Nat) : Int) := by omega
    rw [e]; exact rd_mem q _ (by omega)
  have ub := up_bound (rd p ((p.length : Int) - 1)) (rd q ((q.length : Int) - 1)) (hqb _ mb)
  have db := down_bound (rd p ((p.length : Int) - 1)) (rd q ((q.length : Int) - 1)) (hpb _ ma)
  have h1 := mul_bound _ _ (hpb _ (rd_mem p j hj)) ub
  unfold nextI
  rw [lessI_rd _ _ _ _ _ j (by rw [mulI_length]; exact hj), mulI_rd p _ j hj]
  have e1 : wrap64 (rd p (j : Int) * upI (rd p ((p.length : Int) - 1)) (rd q ((q.length : Int) - 1))) = rd p (j : Int) * upI (rd p ((p.length : Int) - 1)) (rd q ((q.length : Int) - 1)) := by unfold wrap64; omega
  rw [e1]
  by_cases hs : p.length - q.length ≤ j
  · have hr := rd_mem q (j - (p.length - q.length)) (by omega)
    have h2 := mul_bound _ _ (hqb _ hr) db
    have e2 : wrap64 (rd q ((j - (p.length - q.length) : Nat) : Int) * downI (rd p ((p.length : Int) - 1)) (rd q ((q.length : Int) - 1))) = rd q ((j - (p.length - q.length) : Nat) : Int) * downI (rd p ((p.length : Int) - 1)) (rd q ((q.length : Int) - 1)) := by unfold wrap64; omega
    rw [if_pos (by omega), if_pos hs, e2]
    unfold wrap64; omega
  · rw [if_neg (by omega), if_neg hs]
    omega
theorem gcd_up (a b : Int) : ((Int.gcd a b : Nat) : Int) * upI a b = absI b := by
  unfold upI
  apply Int.mul_tdiv_cancel'
  unfold absI
  exact Int.dvd_natAbs.2 (Int.gcd_dvd_right ..)
theorem gcd_down (a b : Int) : ((Int.gcd a b : Nat) : Int) * downI a b = if b < 0 then -a else a := by
  have h : ((Int.gcd a b : Nat) : Int) * Int.tdiv a ((Int.gcd a b : Nat) : Int) = a := Int.mul_tdiv_cancel' (Int.gcd_dvd_left ..)
  unfold downI
  split
  · rw [Int.mul_neg, h]
  · exact h
def scl (c : Int) (l : List Int) : List Int := l.map fun x => c * x
theorem scl_length (c : Int) (l : List Int) : (scl c l).length = l.length := by simp [scl]
theorem scl_rd (c : Int) (l : List Int) (j : Nat) (h : j < l.length) : rd (scl c l) (j : Int) = c * rd l (j : Int) := by
  rw [rd_getElem _ j (by rw [scl_length]; exact h), rd_getElem l j h]; simp [scl]
theorem scl_last (c : Int) (l : List Int) (h : 0 < l.length) : rd (scl c l) (((scl c l).length : Int) - 1) = c * rd l ((l.length : Int) - 1) := by
  rw [scl_length]
  have e : ((l.length : Int) - 1) = ((l.length - 1 : Nat) : Int) := by omega
  rw [e]; exact scl_rd c l _ (by omega)
theorem scl_trim (c : Int) (hc : c ≠ 0) (n : Nat) : ∀ (l : List Int), l.length = n → trimI (scl c l) = scl c (trimI l) := by
  induction n with
  | zero => intro l h; rw [List.eq_nil_of_length_eq_zero h]; rfl
  | succ n ih =>
    intro l h
    obtain ⟨q, a, rfl⟩ := List_snoc l (by omega)
    have e : scl c (q ++ [a]) = scl c q ++ [c * a] := by simp [scl]
    by_cases ha : a = 0
    · subst ha
      rw [e, Int.mul_zero, trimI_zero, trimI_zero]
      exact ih q (by simp at h; omega)
    · rw [e, trimI_last _ _ ha, trimI_last _ _ (Int.mul_ne_zero hc ha), e]
theorem scl_content (c : Int) (hc : 0 < c) (l : List Int) : ∀ (d : Int), 0 ≤ d → contentI (c * d) (scl c l) = c * contentI d l := by
  induction l with
  | nil => intro d _; rfl
  | cons x q ih =>
    intro d hd
    have e : contentI (c * d) (scl c (x :: q)) = contentI (((Int.gcd (c * d) (c * x) : Nat) : Int)) (scl c q) := rfl
    rw [e, Int.gcd_mul_left, Int.natCast_mul, show ((c.natAbs : Nat) : Int) = c by omega, ih _ (by omega)]
    rfl
theorem scl_part (c : Int) (hc : 0 < c) (l : List Int) : partI (scl c l) = partI l := by
  unfold partI
  have h := scl_content c hc l 0 (by omega)
  rw [Int.mul_zero] at h
  rw [h]
  unfold scl
  rw [List.map_map]
  apply List.map_congr_left
  intro x _
  show Int.tdiv (c * x) (c * contentI 0 l) = _
  exact Int.mul_tdiv_mul_of_pos x _ hc
theorem abs_scl (c b : Int) (hc : 0 < c) : absI (c * b) = c * absI b := by
  unfold absI
  rw [Int.natAbs_mul, Int.natCast_mul, show ((c.natAbs : Nat) : Int) = c by omega]
theorem step_scale (c : Int) (hc : 0 < c) (p q : List Int) (hq : q.length ≤ p.length) (hq0 : 0 < q.length) (hpb : boundB p 1000000000) (hqb : boundB q 1000000000) (hqb' : boundB (scl c q) 1000000000) (hb : rd q ((q.length : Int) - 1) ≠ 0) : stepI p (scl c q) = stepI p q := by
  have hl := scl_last c q hq0
  have hll := scl_length c q
  obtain ⟨a, ha⟩ : ∃ a, rd p ((p.length : Int) - 1) = a := ⟨_, rfl⟩
  obtain ⟨b, hbe⟩ : ∃ b, rd q ((q.length : Int) - 1) = b := ⟨_, rfl⟩
  have hbc : c * b ≠ 0 := Int.mul_ne_zero (by omega) (by rw [← hbe]; exact hb)
  have hb0 : b ≠ 0 := by rw [← hbe]; exact hb
  obtain ⟨g', hg'⟩ : ∃ g : Int, ((Int.gcd a (c * b) : Nat) : Int) = g := ⟨_, rfl⟩
  obtain ⟨g, hg⟩ : ∃ g : Int, ((Int.gcd a b : Nat) : Int) = g := ⟨_, rfl⟩
  have gp' : 0 < g' := by
    have : g' ≠ 0 := by
      intro e
      have h2 : g' ∣ c * b := by rw [← hg']; exact Int.gcd_dvd_right ..
      rw [e] at h2; exact hbc (Int.zero_dvd.1 h2)
    omega
  have gp : 0 < g := by
    have : g ≠ 0 := by
      intro e
      have h2 : g ∣ b := by rw [← hg]; exact Int.gcd_dvd_right ..
      rw [e] at h2; exact hb0 (Int.zero_dvd.1 h2)
    omega
  have key : scl g' (nextI p (scl c q)) = scl (c * g) (nextI p q) := by
    apply List.ext_getElem (by simp [scl_length, nextI_length])
    intro j h1 h2
    have hj : j < p.length := by rw [scl_length, nextI_length] at h1; exact h1
    have v1 := next_val p (scl c q) (by omega) (by omega) hpb hqb' (by rw [hl, hbe]; exact hbc) j hj
    have v2 := next_val p q hq hq0 hpb hqb hb j hj
    have r1 := scl_rd g' (nextI p (scl c q)) j (by rw [nextI_length]; exact hj)
    have r2 := scl_rd (c * g) (nextI p q) j (by rw [nextI_length]; exact hj)
    rw [rd_getElem _ j h1] at r1
    rw [rd_getElem _ j h2] at r2
    rw [r1, r2, v1, v2, hl, ha, hbe, hll]
    have u1 := gcd_up a (c * b)
    have u2 := gcd_up a b
    have d1 := gcd_down a (c * b)
    have d2 := gcd_down a b
    rw [hg'] at u1 d1; rw [hg] at u2 d2
    rw [abs_scl c b hc] at u1
    have ds : (if c * b < 0 then -a else a) = (if b < 0 then -a else a) := by
      by_cases hs : b < 0
      · rw [if_pos hs, if_pos (Int.mul_neg_of_pos_of_neg hc hs)]
      · rw [if_neg hs, if_neg (by have := Int.mul_nonneg (show 0 ≤ c by omega) (show 0 ≤ b by omega); omega)]
    rw [ds, ← d2] at d1
    rw [← u2] at u1
    generalize upI a (c * b) = U' at u1 ⊢
    generalize upI a b = U at u1 u2 ⊢
    generalize downI a (c * b) = W' at d1 ⊢
    generalize downI a b = W at d1 d2 ⊢
    by_cases hs : p.length - q.length ≤ j
    · rw [if_pos hs, if_pos hs, scl_rd c q _ (by omega)]
      generalize rd q ((j - (p.length - q.length) : Nat) : Int) = y
      generalize rd p (j : Int) = x
      grind
    · rw [if_neg hs, if_neg hs]
      generalize rd p (j : Int) = x
      grind
  unfold stepI
  have h1 := scl_trim g' (by omega) _ (nextI p (scl c q)) rfl
  have hcg : 0 < c * g := Int.mul_pos hc gp
  have h2 := scl_trim (c * g) (by omega) _ (nextI p q) rfl
  rw [key, h2] at h1
  have h3 := congrArg partI h1
  rw [scl_part _ hcg, scl_part _ gp'] at h3
  exact h3.symm
theorem remL_scale (c : Int) (hc : 0 < c) (q : List Int) (hq0 : 0 < q.length) (hqb : boundB q 1000000000) (hqb' : boundB (scl c q) 1000000000) (hb : rd q ((q.length : Int) - 1) ≠ 0) (n : Nat) : ∀ (p : List Int), boundB p 1000000000 → remL n p (scl c q) = remL n p q := by
  induction n with
  | zero => intro p _; rfl
  | succ n ih =>
    intro p hpb
    simp only [remL]
    rw [scl_length]
    by_cases hlen : q.length ≤ p.length
    · rw [if_pos hlen, if_pos hlen, step_scale c hc p q hlen hq0 hpb hqb hqb' hb]
      by_cases h : okB (stepI p q) = true
      · rw [if_pos h, if_pos h]; exact ih _ (okB_bound _ h)
      · rw [if_neg h, if_neg h]
    · rw [if_neg hlen, if_neg hlen]
def comL : Nat → List Int → List Int → List Int × Bool
  | 0, p, _ => (signI (partI p), true)
  | n + 1, p, q => if 0 < q.length then (if (remF p q).2 = true then comL n q (remF p q).1 else ([], false)) else (signI (partI p), true)
theorem comL_ev (n : Nat) : ∀ (p q : List Int), q.length ≤ n → p.length ≤ 1000000 → q.length ≤ 1000000 → boundB p 1000000000 → tight p → boundB q 1000000000 → tight q →
    Ev (fun z => spec_sgCommon.l0 z p q) (comL n p q) ∧ Ev (fun z => impl_commonDivisor.l0 z p q) (comL n p q) := by
  have fin : ∀ (p q : List Int), q.length = 0 → p.length ≤ 1000000 → boundB p 1000000000 → tight p → Ev (fun z => spec_sgCommon.l0 z p q) (signI (partI p), true) ∧ Ev (fun z => impl_commonDivisor.l0 z p q) (signI (partI p), true) := by
    intro p q hq hp hpb hpt
    refine ⟨?_, ?_⟩
    · refine Ev.step (fun z => rfl) ?_
      simp only [spec_sgCommon.l0]
      exact Ev_if (fun h => by omega) (fun _ => Ev.bind (sgUp_ev p hp 1000000000 ⟨by omega, by omega⟩ hpb hpt) (Ev.now _))
    · refine Ev.step (fun z => rfl) ?_
      simp only [impl_commonDivisor.l0]
      exact Ev_if (fun h => by omega) (fun _ => Ev.bind (divided_ev p hp 1000000000 ⟨by omega, by omega⟩ hpb hpt) (Ev.bind (withSign_ev _ (by rw [part_length]; exact hp)) (Ev.now _)))
  induction n with
  | zero => intro p q hn hp hq hpb hpt _ _; exact fin p q (by omega) hp hpb hpt
  | succ n ih =>
    intro p q hn hp hq hpb hpt hqb hqt
    simp only [comL]
    by_cases h0 : 0 < q.length
    · rw [if_pos h0]
      obtain ⟨e1, e2, e3, e4⟩ := remF_ev p q hp hq h0 hpb hpt hqb hqt
      obtain ⟨⟨r, ok⟩, hr⟩ : ∃ x, remF p q = x := ⟨_, rfl⟩
      rw [hr] at e1 e2 e3 e4 ⊢
      cases ok with
      | false =>
        rw [if_neg (by simp)]
        refine ⟨?_, ?_⟩
        · refine Ev.step (fun z => rfl) ?_
          simp only [spec_sgCommon.l0]
          exact Ev_if (fun _ => Ev.bind e1 (Ev_if (fun h => by cases h) (fun _ => Ev.now _))) (fun h => by omega)
        · refine Ev.step (fun z => rfl) ?_
          simp only [impl_commonDivisor.l0]
          exact Ev_if (fun _ => Ev.bind e2 (Ev_if (fun h => by cases h) (fun _ => Ev.now _))) (fun h => by omega)
      | true =>
        rw [if_pos rfl]
        obtain ⟨hl, hb, ht⟩ := e3 rfl
        obtain ⟨f1, f2⟩ := ih q r (by simp only at hl; omega) hq (by simp only at hl; omega) hqb hqt hb ht
        refine ⟨?_, ?_⟩
        · refine Ev.step (fun z => rfl) ?_
          simp only [spec_sgCommon.l0]
          exact Ev_if (fun _ => Ev.bind e1 (Ev_if (fun _ => f1) (fun h => absurd rfl h))) (fun h => by omega)
        · refine Ev.step (fun z => rfl) ?_
          simp only [impl_commonDivisor.l0]
          exact Ev_if (fun _ => Ev.bind e2 (Ev_if (fun _ => f2) (fun h => absurd rfl h))) (fun h => by omega)
    · rw [if_neg h0]; exact fin p q (by omega) hp hpb hpt
theorem remF_scale_left (c : Int) (hc : 0 < c) (p q : List Int) : remF (scl c p) q = remF p q := by unfold remF; rw [scl_part c hc]
theorem comL_scale_left (c : Int) (hc : 0 < c) (n : Nat) (p q : List Int) : comL n (scl c p) q = comL n p q := by
  cases n with
  | zero => simp only [comL]; rw [scl_part c hc]
  | succ n => simp only [comL]; rw [scl_part c hc, remF_scale_left c hc]
theorem comL_scale (c : Int) (hc : 0 < c) (n : Nat) (p q : List Int) (hpb : boundB p 1000000000) (hqb : boundB q 1000000000) (hqb' : boundB (scl c q) 1000000000) (hqt : tight q) : comL n (scl c p) (scl c q) = comL n p q := by
  rw [comL_scale_left c hc]
  cases n with
  | zero => rfl
  | succ n =>
    simp only [comL]
    rw [scl_length]
    by_cases h0 : 0 < q.length
    · have e : remF p (scl c q) = remF p q := remL_scale c hc q h0 hqb hqb' (hqt h0) _ _ (part_bound p _ hpb)
      rw [if_pos h0, if_pos h0, e, comL_scale_left c hc]
    · rw [if_neg h0, if_neg h0]
def sm (n : Nat) (f : Nat → Int) : Int := match n with
  | 0 => 0
  | n + 1 => sm n f + f n
theorem sm_congr (n : Nat) (f g : Nat → Int) (h : ∀ i, i < n → f i = g i) : sm n f = sm n g := by
  induction n with
  | zero => rfl
  | succ n ih => simp only [sm]; rw [ih (fun i hi => h i (by omega)), h n (by omega)]
theorem sm_add (n : Nat) (f g : Nat → Int) : sm n (fun i => f i + g i) = sm n f + sm n g := by
  induction n with
  | zero => rfl
  | succ n ih => simp only [sm]; rw [ih]; omega
theorem sm_mul (n : Nat) (c : Int) (f : Nat → Int) : sm n (fun i => c * f i) = c * sm n f := by
  induction n with
  | zero => simp [sm]
  | succ n ih => simp only [sm]; rw [ih, Int.mul_add]
theorem sm_head (n : Nat) (f : Nat → Int) : sm (n + 1) f = f 0 + sm n (fun i => f (i + 1)) := by
  induction n with
  | zero => simp [sm]
  | succ n ih => rw [sm, ih]; simp only [sm]; omega
theorem sm_nonneg (n : Nat) (f : Nat → Int) (h : ∀ i, i < n → 0 ≤ f i) : 0 ≤ sm n f := by
  induction n with
  | zero => simp [sm]
  | succ n ih => have h1 := ih (fun i hi => h i (by omega)); have h2 := h n (by omega); simp only [sm]; omega
theorem sm_term (n : Nat) (f : Nat → Int) (h : ∀ i, i < n → 0 ≤ f i) (j : Nat) (hj : j < n) : f j ≤ sm n f := by
  induction n with
  | zero => omega
  | succ n ih =>
    have h1 := sm_nonneg n f (fun i hi => h i (by omega))
    have h2 := h n (by omega)
    simp only [sm]
    by_cases e : j = n
    · subst e; omega
    · have := ih (fun i hi => h i (by omega)) (by omega); omega
theorem sq_nonneg (x : Int) : 0 ≤ x * x := by
  rcases Int.le_total 0 x with h | h
  · exact Int.mul_nonneg h h
  · exact Int.mul_nonneg_of_nonpos_of_nonpos h h
def fac : Nat → Int
  | 0 => 1
  | n + 1 => (n + 1 : Int) * fac n
theorem fac_pos (n : Nat) : 1 ≤ fac n := by
  induction n with
  | zero => simp [fac]
  | succ n ih =>
    simp only [fac]
    have := Int.mul_le_mul (show (1 : Int) ≤ (n : Int) + 1 by omega) ih (by omega) (by omega)
    omega
def ip (N : Nat) (f g : Nat → Int) : Int := sm N (fun k => fac k * (f k * g k))
def sX (f : Nat → Int) : Nat → Int
  | 0 => 0
  | k + 1 => f k
def sA (f : Nat → Int) (k : Nat) : Int := ((k : Int) + 1) * f (k + 1)
def Sup (N : Nat) (f : Nat → Int) : Prop := ∀ k, N ≤ k → f k = 0
theorem ip_comm (N : Nat) (f g : Nat → Int) : ip N f g = ip N g f := by
  unfold ip; exact sm_congr _ _ _ (fun i _ => by rw [Int.mul_comm (f i)])
theorem ip_addl (N : Nat) (f f' g : Nat → Int) : ip N (fun k => f k + f' k) g = ip N f g + ip N f' g := by
  unfold ip; rw [← sm_add]; exact sm_congr _ _ _ (fun i _ => by grind)
theorem ip_mull (N : Nat) (c : Int) (f g : Nat → Int) : ip N (fun k => c * f k) g = c * ip N f g := by
  unfold ip; rw [← sm_mul]; exact sm_congr _ _ _ (fun i _ => by grind)
theorem ip_addr (N : Nat) (f g g' : Nat → Int) : ip N f (fun k => g k + g' k) = ip N f g + ip N f g' := by
  rw [ip_comm, ip_addl, ip_comm, ip_comm N g']
theorem ip_mulr (N : Nat) (c : Int) (f g : Nat → Int) : ip N f (fun k => c * g k) = c * ip N f g := by
  rw [ip_comm, ip_mull, ip_comm]
theorem ip_X (N : Nat) (f g : Nat → Int) (hg : Sup N g) : ip N (sX f) g = ip N f (sA g) := by
  cases N with
  | zero => rfl
  | succ N =>
    unfold ip
    rw [sm_head]
    have h1 : sm N (fun i => fac (i + 1) * (sX f (i + 1) * g (i + 1))) = sm N (fun k => fac k * (f k * sA g k)) := by
      apply sm_congr
      intro i _
      simp only [sX, sA, fac]
      grind
    rw [h1]
    simp only [sm, sX, sA]
    rw [hg (N + 1) (by omega)]
    simp
def pmul : List Int → (Nat → Int) → Nat → Int
  | [], _ => fun _ => 0
  | c :: P, g => fun k => c * g k + sX (pmul P g) k
def pU : Nat → List Int → (Nat → Int) → Nat → Int
  | _, [], _ => fun _ => 0
  | 0, c :: P, h => fun k => c * h k + pU 0 P (sA h) k
  | r + 1, _ :: P, h => fun k => pU (r + 1) P (sA h) k + pU r P h k
def padd : List Int → List Int → List Int
  | [], Q => Q
  | P, [] => P
  | a :: P, b :: Q => (a + b) :: padd P Q
def pder : List Int → List Int
  | [] => []
  | _ :: P => padd P (0 :: pder P)
theorem pmul_add (P : List Int) : ∀ (Q : List Int) (g : Nat → Int) (k : Nat), pmul (padd P Q) g k = pmul P g k + pmul Q g k := by
  induction P with
  | nil => intro Q g k; simp [padd, pmul]
  | cons a P ih =>
    intro Q g k
    cases Q with
    | nil => simp [padd, pmul]
    | cons b Q =>
      simp only [padd, pmul]
      cases k with
      | zero => simp only [sX]; grind
      | succ k => simp only [sX]; rw [ih]; grind
theorem pU_add (P : List Int) : ∀ (Q : List Int) (r : Nat) (h : Nat → Int) (k : Nat), pU r (padd P Q) h k = pU r P h k + pU r Q h k := by
  induction P with
  | nil => intro Q r h k; simp [padd]; cases r <;> simp [pU]
  | cons a P ih =>
    intro Q r h k
    cases Q with
    | nil => simp [padd]; cases r <;> simp [pU]
    | cons b Q =>
      simp only [padd]
      cases r with
      | zero => simp only [pU]; rw [ih]; grind
      | succ r => simp only [pU]; rw [ih, ih]; omega
theorem sA_lin (c : Int) (f g : Nat → Int) (k : Nat) : sA (fun k => c * f k + g k) k = c * sA f k + sA g k := by simp only [sA]; grind
theorem sA_X (f : Nat → Int) (k : Nat) : sA (sX f) k = f k + sX (sA f) k := by
  cases k with
  | zero => simp [sA, sX]
  | succ k => simp only [sA, sX]; push_cast; grind
theorem sX_congr (f g : Nat → Int) (h : ∀ k, f k = g k) (k : Nat) : sX f k = sX g k := by
  cases k with
  | zero => rfl
  | succ k => exact h k
theorem sX_add (f g : Nat → Int) (k : Nat) : sX (fun k => f k + g k) k = sX f k + sX g k := by cases k <;> simp [sX]
theorem sA_pmul (Q : List Int) : ∀ (h : Nat → Int) (k : Nat), sA (pmul Q h) k = pmul Q (sA h) k + pmul (pder Q) h k := by
  induction Q with
  | nil => intro h k; simp [pmul, pder, sA]
  | cons c Q ih =>
    intro h k
    have e : sA (pmul (c :: Q) h) k = c * sA h k + sA (sX (pmul Q h)) k := by
      show sA (fun k => c * h k + sX (pmul Q h) k) k = _
      exact sA_lin c h _ k
    rw [e, sA_X, sX_congr _ _ (ih h) k, sX_add]
    simp only [pder]
    rw [pmul_add]
    simp only [pmul]
    omega
theorem pU_der (Q : List Int) : ∀ (r : Nat) (h : Nat → Int) (k : Nat), pU r (pder Q) h k = ((r : Int) + 1) * pU (r + 1) Q h k := by
  induction Q with
  | nil => intro r h k; cases r <;> simp [pder, pU]
  | cons c Q ih =>
    intro r h k
    simp only [pder]
    rw [pU_add]
    cases r with
    | zero => simp only [pU]; rw [ih]; simp; omega
    | succ r => simp only [pU]; rw [ih, ih]; push_cast; grind
theorem pU_far (P : List Int) : ∀ (r : Nat) (h : Nat → Int) (k : Nat), P.length ≤ r → pU r P h k = 0 := by
  induction P with
  | nil => intro r h k _; cases r <;> simp [pU]
  | cons c P ih =>
    intro r h k hr
    simp only [List.length_cons] at hr
    cases r with
    | zero => omega
    | succ r => simp only [pU]; rw [ih _ _ _ (by omega), ih _ _ _ (by omega)]; rfl
theorem Sup_A (N : Nat) (f : Nat → Int) (h : Sup N f) : Sup N (sA f) := fun k hk => by simp only [sA]; rw [h (k + 1) (by omega)]; simp
theorem Sup_pmul (Q : List Int) : ∀ (M : Nat) (h : Nat → Int), Sup M h → Sup (M + Q.length) (pmul Q h) := by
  induction Q with
  | nil => intro M h _ k _; rfl
  | cons c Q ih =>
    intro M h hs k hk
    simp only [List.length_cons] at hk
    simp only [pmul]
    rw [hs k (by omega)]
    cases k with
    | zero => simp [sX]
    | succ k => simp only [sX]; rw [ih M h hs k (by omega)]; simp
theorem padd_length (P Q : List Int) : (padd P Q).length = if P.length < Q.length then Q.length else P.length := by
  induction P generalizing Q with
  | nil => cases Q <;> simp [padd]
  | cons a P ih =>
    cases Q with
    | nil => simp [padd]
    | cons b Q => simp only [padd, List.length_cons, ih]; split <;> split <;> omega
theorem pder_length (Q : List Int) : (pder Q).length ≤ Q.length := by
  induction Q with
  | nil => simp [pder]
  | cons c Q ih => simp only [pder, padd_length, List.length_cons]; split <;> omega
theorem ip_congrl (N : Nat) (f f' g : Nat → Int) (h : ∀ k, f k = f' k) : ip N f g = ip N f' g := by unfold ip; exact sm_congr _ _ _ (fun i _ => by rw [h i])
theorem ip_congrr (N : Nat) (f g g' : Nat → Int) (h : ∀ k, g k = g' k) : ip N f g = ip N f g' := by unfold ip; exact sm_congr _ _ _ (fun i _ => by rw [h i])
theorem ip_app (N : Nat) (Q : List Int) : ∀ (f g : Nat → Int), Sup N g → ip N (pmul Q f) g = ip N f (pU 0 Q g) := by
  induction Q with
  | nil => intro f g _; rw [ip_comm]; simp only [pmul, pU]; unfold ip; exact sm_congr _ _ _ (fun i _ => by simp)
  | cons c Q ih =>
    intro f g hg
    show ip N (fun k => c * f k + sX (pmul Q f) k) g = ip N f (fun k => c * g k + pU 0 Q (sA g) k)
    rw [ip_addl, ip_mull, ip_X N _ _ hg, ih _ _ (Sup_A N g hg), ip_addr, ip_mulr]
theorem fischer (N M : Nat) (P : List Int) : ∀ (Q : List Int) (g h : Nat → Int) (R : Nat), Sup N g → Sup M h → M + Q.length ≤ N → P.length ≤ R → ip N (pmul P g) (pmul Q h) = sm R (fun r => fac r * ip N (pU r Q g) (pU r P h)) := by
  induction P with
  | nil =>
    intro Q g h R _ _ _ _
    have e1 : ip N (pmul [] g) (pmul Q h) = 0 := by
      rw [show pmul [] g = fun k => 0 * (0 : Int) by funext k; simp [pmul], ip_mull N 0 (fun _ => 0)]; simp
    have e2 : sm R (fun r => fac r * ip N (pU r Q g) (pU r [] h)) = sm R (fun r => 0 * 0) := by
      apply sm_congr
      intro r _
      rw [show pU r [] h = fun k => 0 * (0 : Int) by funext k; cases r <;> simp [pU], ip_mulr N 0 _ (fun _ => 0)]; simp
    rw [e1, e2, sm_mul]; simp
  | cons c P ih =>
    intro Q g h R hg hh hM hR
    obtain ⟨R, rfl⟩ : ∃ q, R = q + 1 := ⟨R - 1, by simp only [List.length_cons] at hR; omega⟩
    simp only [List.length_cons] at hR
    have hs : Sup N (pmul Q h) := fun k hk => Sup_pmul Q M h hh k (by omega)
    have hd := pder_length Q
    have l1 : ip N (pmul (c :: P) g) (pmul Q h) = c * ip N g (pmul Q h) + (ip N (pmul P g) (pmul Q (sA h)) + ip N (pmul P g) (pmul (pder Q) h)) := by
      show ip N (fun k => c * g k + sX (pmul P g) k) (pmul Q h) = _
      rw [ip_addl, ip_mull, ip_X N _ _ hs, ip_congrr N _ _ _ (sA_pmul Q h), ip_addr]
    rw [l1, ih Q g (sA h) (R + 1) hg (Sup_A M h hh) hM (by omega), ih (pder Q) g h R hg hh (by omega) (by omega)]
    have l2 : ip N g (pmul Q h) = ip N (pU 0 Q g) h := by rw [ip_comm, ip_app N Q h g hg, ip_comm]
    rw [l2, sm_head, sm_head]
    have l3 : sm R (fun r => fac r * ip N (pU r (pder Q) g) (pU r P h)) = sm R (fun r => fac (r + 1) * ip N (pU (r + 1) Q g) (pU r P h)) := by
      apply sm_congr
      intro r _
      rw [ip_congrl N _ _ _ (pU_der Q r g), ip_mull]
      simp only [fac]
      grind
    have l4 : sm R (fun i => fac (i + 1) * ip N (pU (i + 1) Q g) (pU (i + 1) (c :: P) h)) = sm R (fun i => fac (i + 1) * ip N (pU (i + 1) Q g) (pU (i + 1) P (sA h))) + sm R (fun r => fac (r + 1) * ip N (pU (r + 1) Q g) (pU r P h)) := by
      rw [← sm_add]
      apply sm_congr
      intro r _
      show _ * ip N _ (fun k => pU (r + 1) P (sA h) k + pU r P h k) = _
      rw [ip_addr, Int.mul_add]
    have l5 : ip N (pU 0 Q g) (pU 0 (c :: P) h) = c * ip N (pU 0 Q g) h + ip N (pU 0 Q g) (pU 0 P (sA h)) := by
      show ip N _ (fun k => c * h k + pU 0 P (sA h) k) = _
      rw [ip_addr, ip_mulr]
    rw [l3, l4, l5]
    simp only [fac]
    omega
theorem pU_top (P : List Int) : ∀ (c : Int) (h : Nat → Int) (k : Nat), pU P.length (P ++ [c]) h k = c * h k := by
  induction P with
  | nil => intro c h k; simp [pU]
  | cons a P ih =>
    intro c h k
    simp only [List.length_cons, List.cons_append, pU]
    rw [ih, pU_far _ _ _ _ (by simp)]
    omega
theorem fischer_le (P : List Int) (c : Int) (g : Nat → Int) (M N : Nat) (hg : Sup M g) (hN : M + P.length + 1 ≤ N) : fac P.length * (c * c) * ip N g g ≤ ip N (pmul (P ++ [c]) g) (pmul (P ++ [c]) g) := by
  have hgN : Sup N g := fun k hk => hg k (by omega)
  rw [fischer N M (P ++ [c]) (P ++ [c]) g g (P.length + 1) hgN hg (by simp; omega) (by simp)]
  have hn : ∀ i, i < P.length + 1 → 0 ≤ fac i * ip N (pU i (P ++ [c]) g) (pU i (P ++ [c]) g) := by
    intro i _
    apply Int.mul_nonneg (by have := fac_pos i; omega)
    unfold ip
    apply sm_nonneg
    intro j _
    exact Int.mul_nonneg (by have := fac_pos j; omega) (sq_nonneg _)
  have ht := sm_term _ _ hn P.length (by omega)
  have e : ip N (pU P.length (P ++ [c]) g) (pU P.length (P ++ [c]) g) = c * (c * ip N g g) := by
    rw [show pU P.length (P ++ [c]) g = fun k => c * g k by funext k; exact pU_top P c g k, ip_mull, ip_mulr]
  rw [e] at ht
  rw [show fac P.length * (c * c) * ip N g g = fac P.length * (c * (c * ip N g g)) by grind]
  exact ht
def co (l : List Int) (i : Nat) : Int := if i < l.length then rd l (i : Int) else 0
theorem co_cons_zero (c : Int) (P : List Int) : co (c :: P) 0 = c := by unfold co; rw [if_pos (by simp), rd_getElem (c :: P) 0 (by simp)]; rfl
theorem co_cons_succ (c : Int) (P : List Int) (i : Nat) : co (c :: P) (i + 1) = co P i := by
  unfold co
  by_cases h : i < P.length
  · rw [if_pos (by simp; omega), if_pos h]
    have h1 : i + 1 < (c :: P).length := by simp; omega
    rw [rd_getElem (c :: P) (i + 1) h1, rd_getElem P i h]; rfl
  · rw [if_neg (by simp; omega), if_neg h]
theorem co_Sup (l : List Int) : Sup l.length (co l) := fun k hk => by unfold co; rw [if_neg (by omega)]
theorem pmul_conv (P : List Int) : ∀ (u : Nat → Int) (k : Nat), pmul P u k = sm P.length (fun i => if i ≤ k then co P i * u (k - i) else 0) := by
  induction P with
  | nil => intro u k; rfl
  | cons c P ih =>
    intro u k
    simp only [List.length_cons, pmul]
    rw [sm_head, co_cons_zero, if_pos (by omega), Nat.sub_zero]
    congr 1
    cases k with
    | zero =>
      simp only [sX]
      rw [sm_congr _ _ (fun _ => 0 * 0) (fun i _ => by rw [if_neg (by omega)]; rfl), sm_mul]; simp
    | succ k =>
      simp only [sX]
      rw [ih]
      apply sm_congr
      intro i _
      rw [co_cons_succ]
      by_cases h : i ≤ k
      · rw [if_pos h, if_pos (by omega), show k + 1 - (i + 1) = k - i by omega]
      · rw [if_neg h, if_neg (by omega)]
theorem sm_dvd (M : Int) (n : Nat) (f : Nat → Int) (h : ∀ i, i < n → M ∣ f i) : M ∣ sm n f := by
  induction n with
  | zero => exact Int.dvd_zero M
  | succ n ih => exact Int.dvd_add (ih (fun i hi => h i (by omega))) (h n (by omega))
theorem sm_dvd_one (M : Int) (n : Nat) (f : Nat → Int) (j : Nat) (hj : j < n) (h : ∀ i, i < n → i ≠ j → M ∣ f i) (hs : M ∣ sm n f) : M ∣ f j := by
  induction n with
  | zero => omega
  | succ n ih =>
    simp only [sm] at hs
    by_cases e : j = n
    · subst e
      have h1 := sm_dvd M j f (fun i hi => h i (by omega) (by omega))
      have := Int.dvd_sub hs h1
      rwa [show sm j f + f j - sm j f = f j by omega] at this
    · have h1 := h n (by omega) (by omega)
      have := Int.dvd_sub hs h1
      rw [show sm n f + f n - f n = sm n f by omega] at this
      exact ih (by omega) (fun i hi hne => h i (by omega) hne) this
theorem mccoy (M : Int) (d : List Int) (hp : ∀ x, (∀ i, M ∣ co d i * x) → M ∣ x) (n : Nat) : ∀ (u : Nat → Int), Sup n u → (∀ k, M ∣ pmul d u k) → ∀ j, M ∣ u j := by
  induction n with
  | zero => intro u hu _ j; rw [hu j (by omega)]; exact Int.dvd_zero M
  | succ n ih =>
    intro u hu hk
    have key : ∀ t i, d.length - i = t → i ≤ d.length → ∀ i', i ≤ i' → ∀ j, M ∣ co d i' * u j := by
      intro t
      induction t with
      | zero =>
        intro i ht hi i' hi' j
        rw [show co d i' = 0 from co_Sup d i' (by omega)]; simp
      | succ t iht =>
        intro i ht hi i' hi' j
        have above := iht (i + 1) (by omega) (by omega)
        by_cases e : i' = i
        · subst e
          -- the top coefficient
          have htop : M ∣ co d i' * u n := by
            have h1 := hk (i' + n)
            rw [pmul_conv] at h1
            have h2 := sm_dvd_one M d.length _ i' (by omega) (by
              intro m hm hne
              by_cases hmi : m < i'
              · show M ∣ (if m ≤ i' + n then co d m * u (i' + n - m) else 0)
                rw [if_pos (by omega), hu (i' + n - m) (by omega)]; simp
              · show M ∣ (if m ≤ i' + n then co d m * u (i' + n - m) else 0)
                split
                · exact above m (by omega) _
                · exact Int.dvd_zero M) h1
            have h3 : M ∣ (if i' ≤ i' + n then co d i' * u (i' + n - i') else 0) := h2
            rw [if_pos (by omega), show i' + n - i' = n by omega] at h3
            exact h3
          -- the rest, by the shorter case
          have hrest := ih (fun m => if m < n then co d i' * u m else 0) (fun m hm => if_neg (by omega)) (by
            intro k
            rw [pmul_conv]
            have h1 : M ∣ co d i' * pmul d u k := Int.dvd_mul_of_dvd_right (hk k)
            rw [pmul_conv, ← sm_mul] at h1
            have h2 : M ∣ sm d.length (fun m => co d i' * (if m ≤ k then co d m * u (k - m) else 0) - (if m ≤ k then co d m * (if k - m < n then co d i' * u (k - m) else 0) else 0)) := by
              apply sm_dvd
              intro m _
              show M ∣ co d i' * (if m ≤ k then co d m * u (k - m) else 0) - (if m ≤ k then co d m * (if k - m < n then co d i' * u (k - m) else 0) else 0)
              by_cases hm : m ≤ k
              · rw [if_pos hm, if_pos hm]
                by_cases hmn : k - m < n
                · rw [if_pos hmn, show co d i' * (co d m * u (k - m)) - co d m * (co d i' * u (k - m)) = 0 by grind]
                  exact Int.dvd_zero M
                · rw [if_neg hmn]
                  by_cases hn : k - m = n
                  · rw [hn, show co d i' * (co d m * u n) - co d m * 0 = co d m * (co d i' * u n) by grind]
                    exact Int.dvd_mul_of_dvd_right htop
                  · rw [hu (k - m) (by omega)]; simp
              · rw [if_neg hm, if_neg hm]; simp
            have h3 := Int.dvd_sub h1 h2
            rw [show sm d.length (fun i => co d i' * (if i ≤ k then co d i * u (k - i) else 0)) - sm d.length (fun m => co d i' * (if m ≤ k then co d m * u (k - m) else 0) - (if m ≤ k then co d m * (if k - m < n then co d i' * u (k - m) else 0) else 0)) = sm d.length (fun i => if i ≤ k then co d i * (if k - i < n then co d i' * u (k - i) else 0) else 0) by
              have hh := sm_add d.length (fun m => co d i' * (if m ≤ k then co d m * u (k - m) else 0) - (if m ≤ k then co d m * (if k - m < n then co d i' * u (k - m) else 0) else 0)) (fun i => if i ≤ k then co d i * (if k - i < n then co d i' * u (k - i) else 0) else 0)
              have h4 : sm d.length (fun i => co d i' * (if i ≤ k then co d i * u (k - i) else 0)) = sm d.length (fun i => (co d i' * (if i ≤ k then co d i * u (k - i) else 0) - (if i ≤ k then co d i * (if k - i < n then co d i' * u (k - i) else 0) else 0)) + (if i ≤ k then co d i * (if k - i < n then co d i' * u (k - i) else 0) else 0)) := by
                apply sm_congr; intro i _; omega
              rw [h4, hh]; omega] at h3
            exact h3)
          by_cases hj : j < n
          · have := hrest j
            rw [if_pos hj] at this
            exact this
          · by_cases hjn : j = n
            · rw [hjn]; exact htop
            · rw [hu j (by omega)]; simp
        · exact above i' (by omega) j
    intro j
    exact hp _ (fun i => key d.length 0 (by omega) (by omega) i (by omega) j)
structure Cl (D : (Nat → Int) → Prop) : Prop where
  add : ∀ f g, D f → D g → D (fun k => f k + g k)
  mul : ∀ c f, D f → D (fun k => c * f k)
  shift : ∀ f, D f → D (sX f)
  cancel : ∀ c f, c ≠ 0 → D (fun k => c * f k) → D f
def Mult (d : List Int) (f : Nat → Int) : Prop := ∃ (M : Int) (n : Nat) (u : Nat → Int), M ≠ 0 ∧ Sup n u ∧ ∀ k, M * f k = pmul d u k
theorem pmul_lin (d : List Int) (a b : Int) : ∀ (u v : Nat → Int) (k : Nat), pmul d (fun k => a * u k + b * v k) k = a * pmul d u k + b * pmul d v k := by
  induction d with
  | nil => intro u v k; simp [pmul]
  | cons c P ih =>
    intro u v k
    simp only [pmul]
    cases k with
    | zero => simp only [sX]; grind
    | succ k => simp only [sX]; rw [ih]; grind
theorem pmul_sX (d : List Int) : ∀ (u : Nat → Int) (k : Nat), pmul d (sX u) k = sX (pmul d u) k := by
  induction d with
  | nil => intro u k; cases k <;> simp [pmul, sX]
  | cons c P ih =>
    intro u k
    cases k with
    | zero => simp [pmul, sX]
    | succ k =>
      show c * u k + pmul P (sX u) k = c * u k + sX (pmul P u) k
      rw [ih u k]
theorem Mult_cl (d : List Int) : Cl (Mult d) where
  add := by
    rintro f g ⟨M, n, u, hM, hu, h⟩ ⟨M', n', u', hM', hu', h'⟩
    refine ⟨M * M', n + n', fun k => M' * u k + M * u' k, Int.mul_ne_zero hM hM', fun k hk => by show M' * u k + M * u' k = 0; rw [hu k (by omega), hu' k (by omega)]; simp, fun k => ?_⟩
    rw [pmul_lin, ← h, ← h']; grind
  mul := by
    rintro c f ⟨M, n, u, hM, hu, h⟩
    refine ⟨M, n, fun k => c * u k + 0 * u k, hM, fun k hk => by show c * u k + 0 * u k = 0; rw [hu k hk]; simp, fun k => ?_⟩
    rw [pmul_lin, ← h]; grind
  shift := by
    rintro f ⟨M, n, u, hM, hu, h⟩
    refine ⟨M, n + 1, sX u, hM, fun k hk => ?_, fun k => ?_⟩
    · cases k with
      | zero => rfl
      | succ k => exact hu k (by omega)
    · rw [pmul_sX]
      cases k with
      | zero => simp [sX]
      | succ k => exact h k
  cancel := by
    rintro c f hc ⟨M, n, u, hM, hu, h⟩
    exact ⟨M * c, n, u, Int.mul_ne_zero hM hc, hu, fun k => by rw [← h]; grind⟩
theorem Mult_exact (d : List Int) (hp : ∀ M x, (∀ i, M ∣ co d i * x) → M ∣ x) (f : Nat → Int) (h : Mult d f) : ∃ n w, Sup n w ∧ ∀ k, f k = pmul d w k := by
  obtain ⟨M, n, u, hM, hu, hk⟩ := h
  have hd := mccoy M d (hp M) n u hu (fun k => by rw [← hk]; exact Int.dvd_mul_right ..)
  refine ⟨n, fun j => u j / M, fun j hj => by show u j / M = 0; rw [hu j hj]; simp, fun k => ?_⟩
  have e : (fun j => M * (u j / M) + 0 * (u j)) = u := by funext j; rw [Int.mul_ediv_cancel' (hd j)]; omega
  have h1 : pmul d u k = M * pmul d (fun j => u j / M) k + 0 * pmul d u k := by
    have := pmul_lin d M 0 (fun j => u j / M) u k
    rw [e] at this; exact this
  have h2 := hk k
  rw [h1] at h2
  exact Int.eq_of_mul_eq_mul_left hM (by omega)
theorem sm_far (n k : Nat) (f : Nat → Int) (h : ∀ i, n ≤ i → f i = 0) : sm (n + k) f = sm n f := by
  induction k with
  | zero => rfl
  | succ k ih => rw [← Nat.add_assoc]; simp only [sm]; rw [ih, h _ (by omega)]; omega
theorem factor_bound (d : List Int) (c : Int) (hc : c ≠ 0) (w f : Nat → Int) (M : Nat) (hw : Sup M w) (hf9 : Sup 9 f) (hf : ∀ k, -1000000 ≤ f k ∧ f k ≤ 1000000) (h : ∀ k, f k = pmul (d ++ [c]) w k) (j : Nat) : (-1000000000 ≤ w j ∧ w j ≤ 1000000000) ∧ (j < 9 → -1000000000 ≤ (j : Int) * w j ∧ (j : Int) * w j ≤ 1000000000) := by
  obtain ⟨N, hN⟩ : ∃ N, N = 9 + (M + d.length + 1) := ⟨_, rfl⟩
  have h1 := fischer_le d c w M N hw (by omega)
  rw [← ip_congrl N f _ _ h, ip_comm N f, ← ip_congrl N f _ _ h] at h1
  have hff : ip N f f ≤ 46234000000000000 := by
    unfold ip
    rw [hN, sm_far 9 _ _ (fun i hi => by rw [hf9 i hi]; simp)]
    have hsq : ∀ k, f k * f k ≤ 1000000000000 := by
      intro k
      have hk := hf k
      have h2 : ((f k * f k).natAbs : Int) ≤ 1000000 * 1000000 := by
        rw [Int.natAbs_mul, Int.natCast_mul]
        exact Int.mul_le_mul (by omega) (by omega) (by omega) (by omega)
      omega
    have s0 := hsq 0; have s1 := hsq 1; have s2 := hsq 2; have s3 := hsq 3; have s4 := hsq 4
    have s5 := hsq 5; have s6 := hsq 6; have s7 := hsq 7; have s8 := hsq 8
    simp only [sm, fac]
    simp
    omega
  by_cases hj : j < N
  · have hn : ∀ i, i < N → 0 ≤ fac i * (w i * w i) := fun i _ => Int.mul_nonneg (by have := fac_pos i; omega) (sq_nonneg _)
    have ht : fac j * (w j * w j) ≤ ip N w w := sm_term N _ hn j hj
    have hww : w j * w j ≤ ip N w w := by
      have h2 : 1 * (w j * w j) ≤ fac j * (w j * w j) := Int.mul_le_mul_of_nonneg_right (fac_pos j) (sq_nonneg _)
      omega
    have hwp : 0 ≤ ip N w w := by have := sq_nonneg (w j); omega
    have hcc : 1 ≤ c * c := by
      have h2 : (c * c).natAbs ≠ 0 := by rw [Int.natAbs_mul]; exact Nat.mul_ne_zero (by omega) (by omega)
      have h3 := sq_nonneg c
      omega
    have hfc : 1 ≤ fac d.length * (c * c) := by
      have := Int.mul_le_mul (fac_pos d.length) hcc (by omega) (by have := fac_pos d.length; omega)
      omega
    have h4 : 1 * ip N w w ≤ fac d.length * (c * c) * ip N w w := Int.mul_le_mul_of_nonneg_right hfc hwp
    have h5 : w j * w j ≤ 46234000000000000 := by omega
    have hsm : ∀ x : Int, x * x ≤ 92468000000000000 → -1000000000 ≤ x ∧ x ≤ 1000000000 := by
      intro x hx
      by_cases hb : -1000000000 ≤ x ∧ x ≤ 1000000000
      · exact hb
      · exfalso
        have h6 : (1000000000 : Int) * 1000000000 ≤ ((x * x).natAbs : Int) := by
          rw [Int.natAbs_mul, Int.natCast_mul]
          exact Int.mul_le_mul (by omega) (by omega) (by omega) (by omega)
        have := sq_nonneg x
        omega
    refine ⟨hsm _ (by omega), fun h9 => hsm _ ?_⟩
    have h7 : (j : Int) * (j : Int) ≤ 2 * fac j := by
      have : ∀ i : Fin 9, ((i.val : Nat) : Int) * ((i.val : Nat) : Int) ≤ 2 * fac i.val := by decide
      exact this ⟨j, h9⟩
    have h8 : (j : Int) * (j : Int) * (w j * w j) ≤ 2 * fac j * (w j * w j) := Int.mul_le_mul_of_nonneg_right h7 (sq_nonneg _)
    have e1 : (j : Int) * w j * ((j : Int) * w j) = (j : Int) * (j : Int) * (w j * w j) := by grind
    have e2 : 2 * fac j * (w j * w j) = 2 * (fac j * (w j * w j)) := by grind
    omega
  · rw [hw j (by omega)]; omega
theorem co_snoc (q : List Int) (a : Int) (k : Nat) : co (q ++ [a]) k = if k = q.length then a else co q k := by
  unfold co
  by_cases h : k = q.length
  · subst h
    rw [if_pos (by simp), if_pos rfl, rd_getElem _ _ (by simp)]; simp
  · rw [if_neg h]
    by_cases h2 : k < q.length
    · rw [if_pos (by simp; omega), if_pos h2, rd_getElem _ k (by simp; omega), rd_getElem q k h2, List.getElem_append_left h2]
    · rw [if_neg (by simp; omega), if_neg h2]
theorem co_trim (n : Nat) : ∀ (l : List Int), l.length = n → ∀ k, co (trimI l) k = co l k := by
  induction n with
  | zero => intro l h k; rw [List.eq_nil_of_length_eq_zero h]; rfl
  | succ n ih =>
    intro l h k
    obtain ⟨q, a, rfl⟩ := List_snoc l (by omega)
    by_cases ha : a = 0
    · subst ha
      rw [trimI_zero, ih q (by simp at h; omega), co_snoc]
      split
      · rename_i e; rw [e]; exact co_Sup q _ (Nat.le_refl _)
      · rfl
    · rw [trimI_last _ _ ha]
theorem co_part (l : List Int) (k : Nat) : co l k = contentI 0 l * co (partI l) k := by
  unfold co
  rw [part_length]
  by_cases h : k < l.length
  · rw [if_pos h, if_pos h, rd_part l k h]
    exact (Int.mul_tdiv_cancel' ((contentI_dvd l 0).2 _ (rd_mem l k h))).symm
  · rw [if_neg h, if_neg h]; simp
def shN (s : Nat) (f : Nat → Int) (k : Nat) : Int := if s ≤ k then f (k - s) else 0
theorem Cl_shN {D : (Nat → Int) → Prop} (hD : Cl D) (f : Nat → Int) (h : D f) (s : Nat) : D (shN s f) := by
  induction s with
  | zero => rw [show shN 0 f = f by funext k; simp [shN]]; exact h
  | succ s ih =>
    have e : shN (s + 1) f = sX (shN s f) := by
      funext k
      cases k with
      | zero => rfl
      | succ k =>
        show (if s + 1 ≤ k + 1 then f (k + 1 - (s + 1)) else 0) = if s ≤ k then f (k - s) else 0
        by_cases hk : s ≤ k
        · rw [if_pos hk, if_pos (by omega), show k + 1 - (s + 1) = k - s by omega]
        · rw [if_neg hk, if_neg (by omega)]
    rw [e]; exact hD.shift _ ih
theorem step_cl {D : (Nat → Int) → Prop} (hD : Cl D) (p q : List Int) (hq : q.length ≤ p.length) (hq0 : 0 < q.length) (hpb : boundB p 1000000000) (hqb : boundB q 1000000000) (hb : rd q ((q.length : Int) - 1) ≠ 0) (h1 : D (co q)) (h2 : D (co (stepI p q))) : D (co p) := by
  obtain ⟨a, ha⟩ : ∃ a, rd p ((p.length : Int) - 1) = a := ⟨_, rfl⟩
  obtain ⟨b, hbe⟩ : ∃ b, rd q ((q.length : Int) - 1) = b := ⟨_, rfl⟩
  have hu : upI a b ≠ 0 := by
    intro e
    have h := gcd_up a b
    rw [e, Int.mul_zero] at h
    rw [hbe] at hb
    unfold absI at h; omega
  have d1 := hD.mul (contentI 0 (trimI (nextI p q))) _ h2
  have d2 := hD.mul (downI a b) _ (Cl_shN hD _ h1 (p.length - q.length))
  have d3 := hD.add _ _ d1 d2
  refine hD.cancel (upI a b) _ hu ?_
  refine (show (fun k => contentI 0 (trimI (nextI p q)) * co (stepI p q) k + downI a b * shN (p.length - q.length) (co q) k) = (fun k => upI a b * co p k) from ?_) ▸ d3
  funext k
  rw [show contentI 0 (trimI (nextI p q)) * co (stepI p q) k = co (nextI p q) k by unfold stepI; rw [← co_part, co_trim _ _ rfl]]
  by_cases hk : k < p.length
  · have v := next_val p q hq hq0 hpb hqb hb k hk
    rw [ha, hbe] at v
    have e1 : co (nextI p q) k = rd (nextI p q) (k : Int) := by unfold co; rw [if_pos (by rw [nextI_length]; exact hk)]
    have e2 : co p k = rd p (k : Int) := by unfold co; rw [if_pos hk]
    rw [e1, e2, v]
    unfold shN
    by_cases hs : p.length - q.length ≤ k
    · rw [if_pos hs, if_pos hs]
      have e3 : co q (k - (p.length - q.length)) = rd q ((k - (p.length - q.length) : Nat) : Int) := by unfold co; rw [if_pos (by omega)]
      rw [e3]; grind
    · rw [if_neg hs, if_neg hs]; grind
  · have e1 : co (nextI p q) k = 0 := co_Sup _ k (by rw [nextI_length]; omega)
    have e2 : co p k = 0 := co_Sup _ k (by omega)
    have e3 : shN (p.length - q.length) (co q) k = 0 := by
      unfold shN; split
      · exact co_Sup _ _ (by omega)
      · rfl
    rw [e1, e2, e3]; simp
theorem remL_cl {D : (Nat → Int) → Prop} (hD : Cl D) (q : List Int) (hq0 : 0 < q.length) (hqb : boundB q 1000000000) (hb : rd q ((q.length : Int) - 1) ≠ 0) (n : Nat) : ∀ (p : List Int), boundB p 1000000000 → (remL n p q).2 = true → D (co q) → D (co (remL n p q).1) → D (co p) := by
  induction n with
  | zero => intro p _ _ _ h; exact h
  | succ n ih =>
    intro p hpb
    simp only [remL]
    by_cases hlen : q.length ≤ p.length
    · rw [if_pos hlen]
      by_cases h : okB (stepI p q) = true
      · rw [if_pos h]
        intro h1 h2 h3
        exact step_cl hD p q hlen hq0 hpb hqb hb h2 (ih _ (okB_bound _ h) h1 h2 h3)
      · rw [if_neg h]; intro h1; cases h1
    · rw [if_neg hlen]; intro _ _ h3; exact h3
theorem co_neg (l : List Int) (m : Int) (hm : 0 ≤ m ∧ m ≤ 4611686018427387904) (hb : boundB l m) (k : Nat) : co (negI l) k = -1 * co l k := by
  unfold co
  rw [negI_length]
  by_cases h : k < l.length
  · rw [if_pos h, if_pos h, negI_rd l k h]
    have := hb _ (rd_mem l k h)
    unfold wrap64; omega
  · rw [if_neg h, if_neg h]; simp
theorem co_sign (l : List Int) (m : Int) (hm : 0 ≤ m ∧ m ≤ 4611686018427387904) (hb : boundB l m) : ∃ s : Int, (s = 1 ∨ s = -1) ∧ ∀ k, co (signI l) k = s * co l k := by
  unfold signI
  split
  · exact ⟨1, .inl rfl, fun k => by simp⟩
  · split
    · exact ⟨-1, .inr rfl, co_neg l m hm hb⟩
    · exact ⟨1, .inl rfl, fun k => by simp⟩
theorem comL_cl {D : (Nat → Int) → Prop} (hD : Cl D) (n : Nat) : ∀ (p q : List Int), q.length ≤ n → p.length ≤ 1000000 → q.length ≤ 1000000 → boundB p 1000000000 → tight p → boundB q 1000000000 → tight q → (comL n p q).2 = true → D (co (comL n p q).1) → D (co p) ∧ D (co q) := by
  have fin : ∀ (p q : List Int), q.length = 0 → boundB p 1000000000 → D (co (signI (partI p))) → D (co p) ∧ D (co q) := by
    intro p q hq hpb h
    obtain ⟨s, hs, hk⟩ := co_sign (partI p) 1000000000 ⟨by omega, by omega⟩ (part_bound p _ hpb)
    have h1 : D (co (partI p)) := hD.cancel s _ (by rcases hs with rfl | rfl <;> decide) ((show co (signI (partI p)) = fun k => s * co (partI p) k by funext k; exact hk k) ▸ h)
    refine ⟨?_, ?_⟩
    · have := hD.mul (contentI 0 p) _ h1
      exact (show (fun k => contentI 0 p * co (partI p) k) = co p by funext k; exact (co_part p k).symm) ▸ this
    · have := hD.mul 0 _ h1
      exact (show (fun k => 0 * co (partI p) k) = co q by funext k; rw [co_Sup q k (by omega)]; simp) ▸ this
  induction n with
  | zero => intro p q hn _ _ hpb _ _ _ _ h; exact fin p q (by omega) hpb h
  | succ n ih =>
    intro p q hn hp hq hpb hpt hqb hqt
    simp only [comL]
    by_cases h0 : 0 < q.length
    · rw [if_pos h0]
      obtain ⟨e1, e2, e3, e4⟩ := remF_ev p q hp hq h0 hpb hpt hqb hqt
      by_cases hok : (remF p q).2 = true
      · rw [if_pos hok]
        intro h1 h2
        obtain ⟨hl, hb, ht⟩ := e3 hok
        obtain ⟨f1, f2⟩ := ih q (remF p q).1 (by omega) hq (by omega) hqb hqt hb ht h1 h2
        have h3 := remL_cl hD q h0 hqb (hqt h0) _ (partI p) (part_bound p _ hpb) hok f1 f2
        have h4 := hD.mul (contentI 0 p) _ h3
        exact ⟨(show (fun k => contentI 0 p * co (partI p) k) = co p by funext k; exact (co_part p k).symm) ▸ h4, f1⟩
      · rw [if_neg hok]; intro h1; cases h1
    · rw [if_neg h0]; intro _ h; exact fin p q (by omega) hpb h
def Prim (d : List Int) : Prop := ∀ (M x : Int), (∀ i, M ∣ co d i * x) → M ∣ x
theorem content_comb (M x : Int) (l : List Int) (h : ∀ y ∈ l, M ∣ y * x) : ∀ d, M ∣ d * x → M ∣ contentI d l * x := by
  induction l with
  | nil => intro d hd; exact hd
  | cons y l ih =>
    intro d hd
    have e : contentI d (y :: l) = contentI ((Int.gcd d y : Nat) : Int) l := rfl
    rw [e]
    refine ih (fun z hz => h z (List.mem_cons_of_mem _ hz)) _ ?_
    have h1 : M ∣ ((Int.gcd (d * x) (y * x) : Nat) : Int) := Int.dvd_coe_gcd hd (h y List.mem_cons_self)
    rw [Int.gcd_mul_right, Int.natCast_mul] at h1
    rcases Int.le_total 0 x with hx | hx
    · rw [show ((x.natAbs : Nat) : Int) = x by omega] at h1; exact h1
    · rw [show ((x.natAbs : Nat) : Int) = -x by omega, Int.mul_neg] at h1; exact Int.dvd_neg.1 h1
theorem part_scl (l : List Int) : scl (contentI 0 l) (partI l) = l := by
  apply List.ext_getElem (by rw [scl_length, part_length])
  intro j h1 h2
  have r := scl_rd (contentI 0 l) (partI l) j (by rw [part_length]; exact h2)
  rw [rd_getElem _ j h1, rd_part l j h2, Int.mul_tdiv_cancel' ((contentI_dvd l 0).2 _ (rd_mem l j h2)), rd_getElem l j h2] at r
  exact r
theorem content_nonneg (l : List Int) : ∀ d, 0 ≤ d → 0 ≤ contentI d l := by
  induction l with
  | nil => intro d h; exact h
  | cons x l ih => intro d _; exact ih _ (by show 0 ≤ ((Int.gcd d x : Nat) : Int); omega)
theorem part_prim (l : List Int) (ht : tight l) (h0 : 0 < l.length) : Prim (partI l) := by
  have hc := tight_pos l ht h0
  have hn := content_nonneg l 0 (by omega)
  have h1 := scl_content (contentI 0 l) (by omega) (partI l) 0 (by omega)
  rw [Int.mul_zero, part_scl] at h1
  have h2 : contentI 0 (partI l) = 1 := by
    have : contentI 0 l * contentI 0 (partI l) = contentI 0 l * 1 := by omega
    exact Int.eq_of_mul_eq_mul_left hc this
  intro M x h
  have h3 := content_comb M x (partI l) (fun y hy => by
    obtain ⟨j, hj, rfl⟩ := List.getElem_of_mem hy
    have := h j
    unfold co at this
    rw [if_pos hj, rd_getElem _ j hj] at this
    exact this) 0 (by simp)
  rw [h2, Int.one_mul] at h3
  exact h3
theorem sign_prim (l : List Int) (m : Int) (hm : 0 ≤ m ∧ m ≤ 4611686018427387904) (hb : boundB l m) (h : Prim l) : Prim (signI l) := by
  obtain ⟨s, hs, hk⟩ := co_sign l m hm hb
  intro M x hx
  refine h M x (fun i => ?_)
  have := hx i
  rw [hk i] at this
  rcases hs with rfl | rfl
  · rw [Int.one_mul] at this; exact this
  · rw [Int.neg_mul, Int.neg_mul, Int.one_mul] at this; exact Int.dvd_neg.1 this
theorem sign_bound (l : List Int) (m : Int) (hm : 0 ≤ m ∧ m ≤ 4611686018427387904) (hb : boundB l m) : boundB (signI l) m := by
  unfold signI
  split
  · exact hb
  · split
    · intro x hx
      obtain ⟨y, hy, rfl⟩ := List.mem_map.1 hx
      have := hb y hy
      unfold wrap64; omega
    · exact hb
theorem sign_tight (l : List Int) (m : Int) (hm : 0 ≤ m ∧ m ≤ 4611686018427387904) (hb : boundB l m) (h : tight l) : tight (signI l) := by
  intro h0
  rw [signI_length] at h0 ⊢
  have hl := h h0
  have e : ((l.length : Int) - 1) = ((l.length - 1 : Nat) : Int) := by omega
  obtain ⟨s, hs, hk⟩ := co_sign l m hm hb
  have h1 := hk (l.length - 1)
  unfold co at h1
  rw [signI_length, if_pos (by omega), if_pos (by omega), ← e] at h1
  rw [h1]
  rcases hs with rfl | rfl <;> omega
theorem comL_nice (n : Nat) : ∀ (p q : List Int), q.length ≤ n → 0 < p.length → p.length ≤ 1000000 → q.length ≤ 1000000 → boundB p 1000000000 → tight p → boundB q 1000000000 → tight q → (comL n p q).2 = true → Prim (comL n p q).1 ∧ boundB (comL n p q).1 1000000000 ∧ tight (comL n p q).1 ∧ 0 < (comL n p q).1.length ∧ (comL n p q).1.length ≤ 1000000 := by
  have fin : ∀ (p : List Int), 0 < p.length → p.length ≤ 1000000 → boundB p 1000000000 → tight p → Prim (signI (partI p)) ∧ boundB (signI (partI p)) 1000000000 ∧ tight (signI (partI p)) ∧ 0 < (signI (partI p)).length ∧ (signI (partI p)).length ≤ 1000000 := by
    intro p h0 hp hpb hpt
    have hb := part_bound p _ hpb
    exact ⟨sign_prim _ 1000000000 ⟨by omega, by omega⟩ hb (part_prim p hpt h0), sign_bound _ _ ⟨by omega, by omega⟩ hb, sign_tight _ 1000000000 ⟨by omega, by omega⟩ hb (tight_part p hpt), by rw [signI_length, part_length]; exact h0, by rw [signI_length, part_length]; exact hp⟩
  induction n with
  | zero => intro p q hn h0 hp _ hpb hpt _ _ _; exact fin p h0 hp hpb hpt
  | succ n ih =>
    intro p q hn h0 hp hq hpb hpt hqb hqt
    simp only [comL]
    by_cases hq0 : 0 < q.length
    · rw [if_pos hq0]
      obtain ⟨e1, e2, e3, e4⟩ := remF_ev p q hp hq hq0 hpb hpt hqb hqt
      by_cases hok : (remF p q).2 = true
      · rw [if_pos hok]
        obtain ⟨hl, hb, ht⟩ := e3 hok
        exact ih q (remF p q).1 (by omega) hq0 hq (by omega) hqb hqt hb ht
      · rw [if_neg hok]; intro h1; cases h1
    · rw [if_neg hq0]; intro _; exact fin p h0 hp hpb hpt
theorem pmul_one (d : List Int) : ∀ k, pmul d (fun k => if k = 0 then 1 else 0) k = co d k := by
  induction d with
  | nil => intro k; rfl
  | cons c P ih =>
    intro k
    cases k with
    | zero => rw [co_cons_zero]; simp [pmul, sX]
    | succ k =>
      rw [co_cons_succ]
      show c * (if k + 1 = 0 then 1 else 0) + pmul P _ k = _
      rw [ih k, if_neg (by omega)]; simp
theorem Mult_self (d : List Int) : Mult d (co d) := ⟨1, 1, fun k => if k = 0 then 1 else 0, by omega, fun k hk => if_neg (by omega), fun k => by rw [pmul_one]; omega⟩
theorem top_coef (d : List Int) (c : Int) (w : Nat → Int) (t : Nat) (hw : Sup (t + 1) w) : pmul (d ++ [c]) w (t + d.length) = c * w t := by
  rw [pmul_conv]
  rw [show (d ++ [c]).length = d.length + 1 by simp]
  simp only [sm]
  rw [sm_congr _ _ (fun _ => 0 * 0) (fun i hi => by rw [if_pos (by omega), hw (t + d.length - i) (by omega)]; simp), sm_mul, if_pos (by omega), co_snoc, if_pos rfl, show t + d.length - d.length = t by omega]
  simp
theorem factor_len (d : List Int) (c : Int) (hc : c ≠ 0) (f w : Nat → Int) (L : Nat) (hf : Sup L f) (h : ∀ k, f k = pmul (d ++ [c]) w k) (t : Nat) : Sup (L - d.length + t) w → Sup (L - d.length) w := by
  induction t with
  | zero => intro h; exact h
  | succ t ih =>
    intro hw
    apply ih
    intro k hk
    by_cases e : k = L - d.length + t
    · have h1 := top_coef d c w (L - d.length + t) hw
      rw [← h, hf _ (by omega)] at h1
      rcases Int.mul_eq_zero.1 h1.symm with h2 | h2
      · exact absurd h2 hc
      · rw [e]; exact h2
    · exact hw k (by omega)
theorem trimI_mem (l : List Int) (x : Int) (hx : x ≠ 0) : x ∈ l → x ∈ trimI l := by
  generalize hn : l.length = n
  induction n generalizing l with
  | zero => intro h; have := List.eq_nil_of_length_eq_zero hn; subst this; cases h
  | succ n ih =>
    intro h
    obtain ⟨q, a, rfl⟩ := List_snoc l (by omega)
    by_cases ha : a = 0
    · subst ha
      rw [trimI_zero]
      refine ih q (by simpa using hn) ?_
      rcases List.mem_append.1 h with h | h
      · exact h
      · simp at h; exact absurd h hx
    · rw [trimI_last q a ha]; exact h
theorem trimI_nil_iff (l : List Int) : trimI l = [] ↔ (l.all fun x => decide (0 ≤ x ∧ x ≤ 0)) = true := by
  constructor
  · intro h
    rw [List.all_eq_true]
    intro x hx
    rw [decide_eq_true_eq]
    by_cases h0 : x = 0
    · omega
    · have := trimI_mem l x h0 hx; rw [h] at this; cases this
  · intro h
    have e : l = List.replicate l.length 0 := by
      refine List.eq_replicate_iff.2 ⟨rfl, fun x hx => ?_⟩
      have := List.all_eq_true.1 h x hx
      simp at this; omega
    rw [e]
    induction l.length with
    | zero => rfl
    | succ n ih => rw [List.replicate_succ', trimI_zero, ih]
theorem trimI_keep (Y : List Int) (h0 : 0 < Y.length) (h : rd Y ((Y.length : Int) - 1) ≠ 0) : trimI Y = Y := by
  obtain ⟨q, a, rfl⟩ := List_snoc Y h0
  have e : (((q ++ [a]).length : Int) - 1) = (q.length : Int) := by simp
  rw [e, rd_last] at h
  exact trimI_last q a h
def derF (l : List Int) : Nat → Nat → List Int
  | _, 0 => []
  | i, n + 1 => wrap64 ((i : Int) * rd l (i : Int)) :: derF l (i + 1) n
theorem derF_length (l : List Int) : ∀ n i, (derF l i n).length = n
  | 0, i => rfl
  | n + 1, i => by simp [derF, derF_length l n (i + 1)]
theorem sgDerive_l0 (l : List Int) (hl : l.length ≤ 1000000) (n : Nat) : ∀ (i : Nat) (acc : List Int), 1 ≤ i → i ≤ l.length → l.length - i = n → acc.length ≤ i → Ev (fun k => spec_sgDerive.l0 k acc l (l.length : Int) (i : Int)) (acc ++ derF l i n) := by
  induction n with
  | zero =>
    intro i acc h1 hi hn ha
    refine Ev.step (fun k => rfl) ?_
    simp only [spec_sgDerive.l0]
    exact Ev_if (fun h => by omega) (fun _ => Ev_eq (Ev.now _) (by simp [derF]))
  | succ n ih =>
    intro i acc h1 hi hn ha
    refine Ev.step (fun k => rfl) ?_
    simp only [spec_sgDerive.l0]
    rw [wrap_next i (by omega)]
    refine Ev_if (fun _ => Ev_if (fun _ => Ev_if (fun _ => Ev_if (fun _ => Ev_if (fun _ => ?_) (fun h => by omega)) (fun h => by omega)) (fun h => by omega)) (fun h => by omega)) (fun h => by omega)
    refine Ev_eq (ih (i + 1) _ (by omega) (by omega) (by omega) (by simp; omega)) ?_
    simp [derF]
theorem sgDerive_ev (l : List Int) (hl : l.length ≤ 1000000) : Ev (fun k => spec_sgDerive.f k l) (derF l 1 (l.length - 1)) := by
  refine Ev.step (fun k => rfl) ?_
  simp only [spec_sgDerive.f, spec_sgDerive.l0]
  refine Ev_if (fun h => ?_) (fun h => ?_)
  · refine Ev_if (fun _ => Ev_if (fun _ => Ev_if (fun h => by omega) (fun _ => ?_)) (fun h => by omega)) (fun h => by omega)
    rw [show wrap64 ((0 : Int) + 1) = ((1 : Nat) : Int) from wrap_next 0 (by omega)]
    exact Ev_eq (sgDerive_l0 l hl (l.length - 1) 1 [] (by omega) (by omega) (by omega) (by simp)) (by simp)
  · have : l.length - 1 = 0 := by omega
    rw [this]; exact Ev.now _
theorem derive_l0 (l : List Int) (hl : l.length ≤ 1000000) (n : Nat) : ∀ (i : Nat) (acc : List Int), 1 ≤ i → l.length - i = n → acc.length < i → acc.length ≤ 1000000 → Ev (fun k => impl_deriveSingle.l0 k l acc (i : Int)) (trimI (acc ++ derF l i n)) := by
  induction n with
  | zero =>
    intro i acc h1 hn ha hb
    refine Ev.step (fun k => rfl) ?_
    simp only [impl_deriveSingle.l0]
    refine Ev_if (fun h => by omega) (fun _ => ?_)
    exact Ev.bind (stripped_eq _ acc rfl hb) (Ev_eq (Ev.now _) (by simp [derF]))
  | succ n ih =>
    intro i acc h1 hn ha hb
    refine Ev.step (fun k => rfl) ?_
    simp only [impl_deriveSingle.l0]
    rw [wrap_next i (by omega)]
    refine Ev_if (fun _ => Ev_if (fun _ => Ev_if (fun _ => ?_) (fun h => by omega)) (fun h => by omega)) (fun h => by omega)
    refine Ev_eq (ih (i + 1) _ (by omega) (by omega) (by simp; omega) (by simp; omega)) ?_
    simp [derF]
theorem derive_ev (l : List Int) (hl : l.length ≤ 1000000) : Ev (fun k => impl_deriveSingle.f k l) (trimI (derF l 1 (l.length - 1))) := by
  have h := derive_l0 l hl (l.length - 1) 1 [] (by omega) (by omega) (by simp) (by simp)
  simpa [impl_deriveSingle.f] using h
theorem wrap_id (x : Int) (h : -9223372036854775808 ≤ x ∧ x ≤ 9223372036854775807) : wrap64 x = x := by unfold wrap64; omega
theorem sm_bound (B : Int) (n : Nat) (f : Nat → Int) (h : ∀ i, i < n → -B ≤ f i ∧ f i ≤ B) : -((n : Int) * B) ≤ sm n f ∧ sm n f ≤ (n : Int) * B := by
  induction n with
  | zero => simp [sm]
  | succ n ih =>
    have h1 := ih (fun i hi => h i (by omega))
    have h2 := h n (by omega)
    simp only [sm]
    rw [show ((n + 1 : Nat) : Int) * B = (n : Int) * B + B by rw [Int.natCast_add, Int.add_mul]; simp]
    omega
theorem co_bound (l : List Int) (m : Int) (hm : 0 ≤ m) (hb : boundB l m) (i : Nat) : -m ≤ co l i ∧ co l i ≤ m := by
  unfold co; split
  · rename_i hi; exact hb _ (rd_mem l i hi)
  · omega
theorem pmul_bound (q : List Int) (hq : q.length ≤ 9) (hqb : boundB q 1000000000) (u : Nat → Int) (hu : ∀ i, -1000000000 ≤ u i ∧ u i ≤ 1000000000) (k : Nat) : -9000000000000000000 ≤ pmul q u k ∧ pmul q u k ≤ 9000000000000000000 := by
  rw [pmul_conv]
  have h := sm_bound 1000000000000000000 q.length (fun i => if i ≤ k then co q i * u (k - i) else 0) (fun i _ => by
    show -1000000000000000000 ≤ (if i ≤ k then co q i * u (k - i) else 0) ∧ (if i ≤ k then co q i * u (k - i) else 0) ≤ 1000000000000000000
    split
    · exact mul_bound _ _ (co_bound q _ (by omega) hqb i) (hu _)
    · omega)
  omega
theorem shN_succ (s : Nat) (f : Nat → Int) : shN (s + 1) f = sX (shN s f) := by
  funext k
  cases k with
  | zero => rfl
  | succ k =>
    show (if s + 1 ≤ k + 1 then f (k + 1 - (s + 1)) else 0) = if s ≤ k then f (k - s) else 0
    by_cases hk : s ≤ k
    · rw [if_pos hk, if_pos (by omega), show k + 1 - (s + 1) = k - s by omega]
    · rw [if_neg hk, if_neg (by omega)]
theorem pmul_shN (d : List Int) (s : Nat) (u : Nat → Int) : ∀ k, pmul d (shN s u) k = shN s (pmul d u) k := by
  induction s with
  | zero => intro k; rw [show shN 0 u = u by funext k; simp [shN]]; simp [shN]
  | succ s ih => intro k; rw [shN_succ, shN_succ, pmul_sX]; exact sX_congr _ _ ih k
def cut (W : List Int) (n : Nat) (t : Nat) : Int := if t < n then co W t else 0
theorem cut_succ (q W : List Int) (n : Nat) (k : Nat) : pmul q (cut W (n + 1)) k = pmul q (cut W n) k + co W n * shN n (co q) k := by
  have e : cut W (n + 1) = fun t => 1 * cut W n t + co W n * shN n (fun t => if t = 0 then 1 else 0) t := by
    funext t
    unfold cut shN
    by_cases h1 : t < n
    · rw [if_pos (by omega), if_pos h1, if_neg (by omega)]; simp
    · by_cases h2 : t = n
      · subst h2
        rw [if_pos (by omega), if_neg (by omega), if_pos (by omega)]
        show co W t = 1 * 0 + co W t * (if t - t = 0 then 1 else 0)
        rw [if_pos (by omega)]; simp
      · rw [if_neg (by omega), if_neg h1]
        split
        · show 0 = 1 * 0 + co W n * (if t - n = 0 then 1 else 0)
          rw [if_neg (by omega)]; simp
        · simp
  rw [e, pmul_lin, pmul_shN, Int.one_mul]
  congr 2
  unfold shN
  split
  · exact pmul_one q _
  · rfl
theorem cut_bound (W : List Int) (hW : boundB W 1000000000) (n : Nat) (i : Nat) : -1000000000 ≤ cut W n i ∧ cut W n i ≤ 1000000000 := by
  unfold cut; split
  · exact co_bound W _ (by omega) hW i
  · omega
theorem quotE_l1 (q : List Int) (b : Int) (X Y : List Int) (c : Nat) (y : Int) (hy : rd Y (c : Int) = y) (hq : q.length ≤ 1000000) (hY : c < Y.length) (hYl : Y.length ≤ 1000000) (hX : c + q.length ≤ X.length) (n : Nat) : ∀ (i : Nat), i ≤ q.length → q.length - i = n →
    (∀ r, Ev (fun z => spec_sgDivide.l0 z q (lessI X q y c q.length) Y ((c : Int) - 1)) r → Ev (fun z => spec_sgDivide.l1 z q (lessI X q y c i) Y (c : Int) q (q.length : Int) (i : Int)) r) ∧
      (∀ r, Ev (fun z => impl_quotient.l0 z q (lessI X q y c q.length) b Y ((c : Int) - 1)) r → Ev (fun z => impl_quotient.l1 z q (lessI X q y c i) b Y (c : Int) q (q.length : Int) (i : Int)) r) := by
  have hw : wrap64 ((c : Int) - 1) = (c : Int) - 1 := by unfold wrap64; omega
  induction n with
  | zero =>
    intro i hi hn
    have e : i = q.length := by omega
    subst e
    refine ⟨fun r hr => ?_, fun r hr => ?_⟩
    · refine Ev.step (fun z => rfl) ?_
      simp only [spec_sgDivide.l1]
      rw [hw]
      exact Ev_if (fun h => by omega) (fun _ => hr)
    · refine Ev.step (fun z => rfl) ?_
      simp only [impl_quotient.l1]
      rw [hw]
      exact Ev_if (fun h => by omega) (fun _ => hr)
  | succ n ih =>
    intro i hi hn
    obtain ⟨h2, h3⟩ := ih (i + 1) (by omega) (by omega)
    have hl := lessI_length X q y c i
    have hset := lessI_set X q y c i (by omega)
    rw [Int.mul_comm (rd q (i : Int))] at hset
    refine ⟨fun r hr => ?_, fun r hr => ?_⟩
    · refine Ev.step (fun z => rfl) ?_
      simp only [spec_sgDivide.l1]
      rw [wrap_next i (by omega), wrap_sum c i (by omega), Int.toNat_natCast, hy, hset]
      exact Ev_if (fun _ => Ev_if (fun _ => Ev_if (fun _ => Ev_if (fun _ => Ev_if (fun _ => Ev_if (fun _ => Ev_if (fun _ => h2 r hr) (fun h => by omega)) (fun h => by omega)) (fun h => by omega)) (fun h => by omega)) (fun h => by omega)) (fun h => by omega)) (fun h => by omega)
    · refine Ev.step (fun z => rfl) ?_
      simp only [impl_quotient.l1]
      rw [wrap_next i (by omega), wrap_sum c i (by omega), Int.toNat_natCast, hy, hset]
      exact Ev_if (fun _ => Ev_if (fun _ => Ev_if (fun _ => Ev_if (fun _ => Ev_if (fun _ => Ev_if (fun _ => Ev_if (fun _ => h3 r hr) (fun h => by omega)) (fun h => by omega)) (fun h => by omega)) (fun h => by omega)) (fun h => by omega)) (fun h => by omega)) (fun h => by omega)
theorem quotE_l0 (q' : List Int) (b : Int) (hb : b ≠ 0) (q : List Int) (hqe : q = q' ++ [b]) (hq : q.length ≤ 9) (hqb : boundB q 1000000000) (W : List Int) (hW : boundB W 1000000000) (hWl : W.length ≤ 9) (n : Nat) : ∀ (R : List Int), n ≤ W.length → R.length = W.length + q'.length → (∀ k, co R k = pmul q (cut W n) k) →
    Ev (fun z => spec_sgDivide.l0 z q R (List.replicate n 0 ++ W.drop n) ((n : Int) - 1)) (W, true) ∧ Ev (fun z => impl_quotient.l0 z q R b (List.replicate n 0 ++ W.drop n) ((n : Int) - 1)) (trimI W, true) := by
  have hql : q.length = q'.length + 1 := by rw [hqe]; simp
  have hlast : rd q ((q.length : Int) - 1) = b := by
    have e : ((q.length : Int) - 1) = (q'.length : Int) := by omega
    rw [e, hqe, rd_getElem _ _ (by simp)]; simp
  induction n with
  | zero =>
    intro R _ hR hco
    have hz : ∀ k, pmul q (cut W 0) k = 0 := by
      intro k
      rw [show cut W 0 = fun k => 0 * (0 : Int) + 0 * (0 : Int) by funext k; simp [cut]]
      rw [pmul_lin q 0 0 (fun _ => 0) (fun _ => 0)]; simp
    have hall : (R.all fun x => decide ((0 : Int) ≤ x ∧ x ≤ 0)) = true := by
      rw [List.all_eq_true]
      intro x hx
      obtain ⟨j, hj, rfl⟩ := List.getElem_of_mem hx
      have h1 := hco j
      rw [hz] at h1
      unfold co at h1
      rw [if_pos hj, rd_getElem R j hj] at h1
      rw [h1]; decide
    have hT := (trimI_nil_iff R).2 hall
    simp only [List.replicate_zero, List.nil_append, List.drop_zero]
    refine ⟨?_, ?_⟩
    · refine Ev.step (fun z => rfl) ?_
      simp only [spec_sgDivide.l0]
      refine Ev_if (fun h => by omega) (fun _ => ?_)
      have a1 : Ev (fun z => spec_l1All.f z R 0 0) true := ⟨R.length + 1, fun k hk => by show spec_l1All.f k R 0 0 = some true; rw [l1All_eq R _ _ (by omega) k (by omega), hall]⟩
      exact Ev.bind a1 (Ev.now _)
    · refine Ev.step (fun z => rfl) ?_
      simp only [impl_quotient.l0]
      refine Ev_if (fun h => by omega) (fun _ => Ev.bind (stripped_eq _ R rfl (by omega)) ?_)
      rw [hT]
      exact Ev_if (fun h => by simp at h) (fun _ => Ev.bind (stripped_eq _ W rfl (by omega)) (Ev.now _))
  | succ n ih =>
    intro R hn hR hco
    obtain ⟨w, hw⟩ : ∃ w, co W n = w := ⟨_, rfl⟩
    have hwr : rd W (n : Int) = w := by rw [← hw]; unfold co; rw [if_pos (by omega)]
    have hwb := co_bound W 1000000000 (by omega) hW n
    rw [hw] at hwb
    have en : (((n + 1 : Nat) : Int) - 1) = (n : Int) := by omega
    rw [en]
    have htop : rd R ((n + q'.length : Nat) : Int) = b * w := by
      have e1 : co R (n + q'.length) = rd R ((n + q'.length : Nat) : Int) := by unfold co; exact if_pos (by omega)
      have e2 := top_coef q' b (cut W (n + 1)) n (fun k hk => by unfold cut; exact if_neg (by omega))
      have e3 : cut W (n + 1) n = w := by unfold cut; rw [if_pos (by omega)]; exact hw
      rw [← hqe, e3] at e2
      exact e1.symm.trans ((hco _).trans e2)
    have hmod : Int.tmod (b * w) b = 0 := Int.mul_tmod_right b w
    have hdiv : Int.tdiv (b * w) b = w := Int.mul_tdiv_cancel_left w hb
    have hset : (List.replicate (n + 1) 0 ++ W.drop (n + 1)).set n w = List.replicate n 0 ++ W.drop n := by
      rw [List.replicate_succ', List.append_assoc, List.set_append_right _ _ (by simp)]
      simp only [List.length_replicate, Nat.sub_self]
      rw [drop_rd W n (by omega), hwr, List.singleton_append, List.set_cons_zero]
    have hYl : (List.replicate (n + 1) 0 ++ W.drop (n + 1)).length = W.length := by simp; omega
    have hYl2 : (List.replicate n 0 ++ W.drop n).length = W.length := by simp; omega
    have hYn : rd (List.replicate n 0 ++ W.drop n) (n : Int) = w := by
      rw [rd_getElem _ n (by omega), List.getElem_append_right (by simp)]
      simp only [List.length_replicate, Nat.sub_self]
      rw [← hwr, rd_getElem W n (by omega)]
      simp
    -- the rest behind the round
    have hless : ∀ k, co (lessI R q w n q.length) k = pmul q (cut W n) k := by
      intro k
      have h1 := hco k
      rw [cut_succ, hw] at h1
      have hFb := pmul_bound q hq hqb (cut W n) (cut_bound W hW n) k
      by_cases hk : k < R.length
      · have e1 : co (lessI R q w n q.length) k = rd (lessI R q w n q.length) (k : Int) := by unfold co; rw [if_pos (by rw [lessI_length]; exact hk)]
        rw [e1, lessI_rd R q w n q.length k hk]
        unfold co at h1
        rw [if_pos hk] at h1
        by_cases hin : n ≤ k ∧ k < n + q.length
        · rw [if_pos hin]
          have e2 : shN n (co q) k = rd q ((k - n : Nat) : Int) := by unfold shN co; rw [if_pos hin.1, if_pos (by omega)]
          rw [show shN n (fun i => if i < q.length then rd q (i : Int) else 0) k = rd q ((k - n : Nat) : Int) from e2] at h1
          have hm := mul_bound _ _ (hqb _ (rd_mem q (k - n) (by omega))) hwb
          rw [h1, Int.mul_comm w]
          generalize rd q ((k - n : Nat) : Int) * w = m at hm ⊢
          generalize pmul q (cut W n) k = F at hFb ⊢
          rw [wrap_id m ⟨by omega, by omega⟩, wrap_id _ ⟨by omega, by omega⟩]; omega
        · rw [if_neg hin, h1]
          have e2 : shN n (fun i => if i < q.length then rd q (i : Int) else 0) k = 0 := by
            unfold shN
            split
            · show (if k - n < q.length then rd q ((k - n : Nat) : Int) else 0) = 0
              rw [if_neg (by omega)]
            · rfl
          rw [e2]; simp
      · rw [co_Sup _ k (by rw [lessI_length]; omega)]
        rw [co_Sup R k (by omega)] at h1
        have e2 : shN n (co q) k = 0 := by
          unfold shN; split
          · exact co_Sup q _ (by omega)
          · rfl
        rw [e2] at h1
        omega
    obtain ⟨i1, i2⟩ := ih (lessI R q w n q.length) (by omega) (by rw [lessI_length]; exact hR) hless
    obtain ⟨g1, g2⟩ := quotE_l1 q b R (List.replicate n 0 ++ W.drop n) n w hYn (by omega) (by omega) (by omega) (by omega) q.length 0 (by omega) (by omega)
    rw [lessI_zero] at g1 g2
    have hwt : wrap64 (wrap64 ((n : Int) + (q.length : Int)) - 1) = ((n + q'.length : Nat) : Int) := by
      rw [wrap_id ((n : Int) + (q.length : Int)) ⟨by omega, by omega⟩, wrap_id _ ⟨by omega, by omega⟩]; omega
    have hw1 : wrap64 ((q.length : Int) - 1) = (q.length : Int) - 1 := wrap_id _ ⟨by clear hwt; omega, by clear hwt; omega⟩
    have hww : wrap64 w = w := wrap_id w ⟨by clear hwt hw1; omega, by clear hwt hw1; omega⟩
    refine ⟨?_, ?_⟩
    · refine Ev.step (fun z => rfl) ?_
      simp only [spec_sgDivide.l0, l1In_eq, Option.bind_some]
      rw [hwt, hw1, hlast, htop, hmod, hdiv, hww, decide_eq_true (show (-1000000000) ≤ w ∧ w ≤ 1000000000 from hwb)]
      clear hwt hw1
      refine Ev_if (fun _ => Ev_if (fun _ => Ev_if (fun _ => Ev_if (fun _ => Ev_if (fun _ => Ev_if (fun h => absurd h hb) (fun _ => Ev_if (fun _ => ?_) (fun h => by simp at h))) (fun h => by omega)) (fun h => by omega)) (fun h => by omega)) (fun h => by omega)) (fun h => by omega)
      refine Ev.step (fun z => rfl) ?_
      simp only [spec_sgDivide.j1]
      rw [hdiv, hww, Int.toNat_natCast, hset, hYl]
      clear hww
      exact Ev_if (fun h => by cases h) (fun _ => Ev_if (fun h => absurd h hb) (fun _ => Ev_if (fun _ => Ev_if (fun _ => g1 _ i1) (fun h => by omega)) (fun h => by omega)))
    · refine Ev.step (fun z => rfl) ?_
      simp only [impl_quotient.l0]
      rw [hwt, htop, hmod, hdiv, hww, Int.toNat_natCast, hset, hYl]
      clear hwt hw1 hww
      exact Ev_if (fun _ => Ev_if (fun _ => Ev_if (fun _ => Ev_if (fun h => absurd h hb) (fun _ => Ev_if (fun _ => Ev_if (fun _ => Ev_if (fun _ => g2 _ i2) (fun h => by omega)) (fun h => by omega)) (fun h => by simp at h))) (fun h => by omega)) (fun h => by omega)) (fun h => by omega)
theorem quotE (q' : List Int) (b : Int) (hb : b ≠ 0) (q : List Int) (hqe : q = q' ++ [b]) (hq : q.length ≤ 9) (hqb : boundB q 1000000000) (W : List Int) (hW : boundB W 1000000000) (hWl : W.length ≤ 9) (hW0 : 0 < W.length) (p : List Int) (hpl : p.length = W.length + q'.length) (hco : ∀ k, co p k = pmul q (co W) k) :
    Ev (fun z => spec_sgDivide.f z p q) (W, true) ∧ Ev (fun z => impl_quotient.f z p q) (trimI W, true) := by
  have hql : q.length = q'.length + 1 := by rw [hqe]; simp
  have hlast : rd q ((q.length : Int) - 1) = b := by
    have e : ((q.length : Int) - 1) = (q'.length : Int) := by omega
    rw [e, hqe, rd_getElem _ _ (by simp)]; simp
  have hbig : W.length ≤ 35184372088832 := by omega
  have e0 : cut W W.length = co W := by
    funext t; unfold cut; split
    · rfl
    · rw [co_Sup W t (by omega)]
  obtain ⟨h1, h2⟩ := quotE_l0 q' b hb q hqe hq hqb W hW hWl W.length p (Nat.le_refl _) hpl (fun k => by rw [e0]; exact hco k)
  rw [List.drop_eq_nil_of_le (Nat.le_refl _), List.append_nil] at h1 h2
  have hdl : wrap64 (wrap64 ((p.length : Int) - (q.length : Int)) + 1) = (W.length : Int) := by
    rw [wrap_id ((p.length : Int) - (q.length : Int)) ⟨by omega, by omega⟩, wrap_id _ ⟨by omega, by omega⟩]; omega
  have hw1 : wrap64 ((q.length : Int) - 1) = (q.length : Int) - 1 := wrap_id _ ⟨by clear hdl; omega, by clear hdl; omega⟩
  refine ⟨?_, ?_⟩
  · unfold spec_sgDivide.f
    refine Ev_if (fun h => by clear hdl hw1; omega) (fun _ => Ev_bindS (own_eq p (by clear hdl hw1; omega)) ?_)
    rw [hdl, Int.toNat_natCast]
    clear hdl hw1
    refine Ev_if (fun _ => Ev_if (fun _ => Ev_bindS rfl ?_) (fun h => absurd hbig h)) (fun h => by omega)
    rw [List.length_replicate, show wrap64 ((W.length : Int) - 1) = (W.length : Int) - 1 from wrap_id _ ⟨by omega, by omega⟩]
    exact h1
  · unfold impl_quotient.f
    refine Ev_bindS (clone_eq p (by clear hdl hw1; omega)) ?_
    have e : mx (W.length : Int) 0 = (W.length : Int) := by clear hdl hw1; unfold mx; split <;> omega
    rw [hw1, hdl, e, Int.toNat_natCast, hlast]
    clear hdl hw1
    refine Ev_if (fun _ => Ev_if (fun _ => Ev_if (fun _ => Ev_if (fun _ => Ev_bindS rfl ?_) (fun h => absurd hbig h)) (fun h => by omega)) (fun h => by omega)) (fun h => by omega)
    rw [List.length_replicate, show wrap64 ((W.length : Int) - 1) = (W.length : Int) - 1 from wrap_id _ ⟨by omega, by omega⟩]
    exact h2
theorem mul_absF (x y a b : Int) (hx : -a ≤ x ∧ x ≤ a) (hy : -b ≤ y ∧ y ≤ b) : -(a * b) ≤ x * y ∧ x * y ≤ a * b := by
  have h1 : ((x.natAbs : Nat) : Int) ≤ a := by omega
  have h2 : ((y.natAbs : Nat) : Int) ≤ b := by omega
  have h3 : (((x * y).natAbs : Nat) : Int) ≤ a * b := by
    rw [Int.natAbs_mul, Int.natCast_mul]
    exact Int.mul_le_mul h1 h2 (by omega) (by omega)
  omega
theorem derF_get (l : List Int) : ∀ (n i j : Nat), j < n → (derF l i n)[j]? = some (wrap64 (((i + j : Nat) : Int) * rd l ((i + j : Nat) : Int))) := by
  intro n
  induction n with
  | zero => intro i j h; omega
  | succ n ih =>
    intro i j h
    cases j with
    | zero => simp [derF]
    | succ j =>
      have := ih (i + 1) j (by omega)
      simp only [derF, List.getElem?_cons_succ]
      rw [this, show i + 1 + j = i + (j + 1) by omega]
theorem derF_rd (l : List Int) (hl : l.length ≤ 9) (m : Int) (hm : 0 ≤ m ∧ m ≤ 1000000000) (hb : boundB l m) (j : Nat) (h : j < l.length - 1) : rd (derF l 1 (l.length - 1)) (j : Int) = ((j + 1 : Nat) : Int) * rd l ((j + 1 : Nat) : Int) := by
  have h1 := derF_get l (l.length - 1) 1 j h
  have h2 : j < (derF l 1 (l.length - 1)).length := by rw [derF_length]; exact h
  rw [List.getElem?_eq_getElem h2] at h1
  rw [rd_getElem _ j h2, Option.some.inj h1, show 1 + j = j + 1 by omega]
  have h3 := hb _ (rd_mem l (j + 1) (by omega))
  have h4 := mul_bound ((j + 1 : Nat) : Int) (rd l ((j + 1 : Nat) : Int)) ⟨by omega, by omega⟩ ⟨by omega, by omega⟩
  exact wrap_id _ ⟨by omega, by omega⟩
theorem derF_bound (l : List Int) (hl : l.length ≤ 9) (hb : boundB l 1000000) : boundB (derF l 1 (l.length - 1)) 1000000000 := by
  intro x hx
  obtain ⟨j, hj, rfl⟩ := List.getElem_of_mem hx
  rw [derF_length] at hj
  have h1 := derF_rd l hl 1000000 ⟨by omega, by omega⟩ hb j hj
  rw [rd_getElem _ j (by rw [derF_length]; exact hj)] at h1
  rw [h1]
  have h3 := hb _ (rd_mem l (j + 1) (by omega))
  have h4 := mul_absF ((j + 1 : Nat) : Int) (rd l ((j + 1 : Nat) : Int)) 8 1000000 ⟨by omega, by omega⟩ h3
  omega
theorem derF_tight (l : List Int) (hl : l.length ≤ 9) (hb : boundB l 1000000) (ht : tight l) : tight (derF l 1 (l.length - 1)) := by
  intro h0
  rw [derF_length] at h0 ⊢
  have e : (((l.length - 1 : Nat) : Int) - 1) = ((l.length - 2 : Nat) : Int) := by omega
  rw [e, derF_rd l hl 1000000 ⟨by omega, by omega⟩ hb (l.length - 2) (by omega)]
  have e2 : ((l.length - 2 + 1 : Nat) : Int) = (l.length : Int) - 1 := by omega
  rw [e2]
  exact Int.mul_ne_zero (by omega) (ht (by omega))
theorem derF_scl (c : Int) (l : List Int) (hl : l.length ≤ 9) (hb : boundB l 1000000) (hb' : boundB (scl c l) 1000000) : derF (scl c l) 1 ((scl c l).length - 1) = scl c (derF l 1 (l.length - 1)) := by
  apply List.ext_getElem (by rw [derF_length, scl_length, scl_length, derF_length])
  intro j h1 h2
  rw [derF_length, scl_length] at h1
  have r1 := derF_rd (scl c l) (by rw [scl_length]; exact hl) 1000000 ⟨by omega, by omega⟩ hb' j (by rw [scl_length]; exact h1)
  have r2 := derF_rd l hl 1000000 ⟨by omega, by omega⟩ hb j h1
  have r3 := scl_rd c (derF l 1 (l.length - 1)) j (by rw [derF_length]; exact h1)
  rw [rd_getElem _ j (by rw [derF_length, scl_length]; exact h1)] at r1
  rw [rd_getElem _ j h2] at r3
  rw [r1, r3, r2, scl_rd c l (j + 1) (by omega)]
  grind
theorem neg_scl (l : List Int) (m : Int) (hm : 0 ≤ m ∧ m ≤ 4611686018427387904) (hb : boundB l m) : negI l = scl (-1) l := by
  unfold negI scl
  apply List.map_congr_left
  intro x hx
  have := hb x hx
  rw [wrap_id _ ⟨by omega, by omega⟩]; omega
theorem scl_bound (l : List Int) (m : Int) (hb : boundB l m) : boundB (scl (-1) l) m := by
  intro x hx
  obtain ⟨y, hy, rfl⟩ := List.mem_map.1 hx
  have := hb y hy
  omega
theorem scl_scl (l : List Int) : scl (-1) (scl (-1) l) = l := by
  unfold scl
  rw [List.map_map]
  have : ((fun x : Int => -1 * x) ∘ fun x => -1 * x) = id := by funext x; show -1 * (-1 * x) = x; omega
  rw [this, List.map_id]
theorem content_neg (l : List Int) : ∀ d, contentI d (scl (-1) l) = contentI d l := by
  induction l with
  | nil => intro d; rfl
  | cons x q ih =>
    intro d
    have e : contentI d (scl (-1) (x :: q)) = contentI ((Int.gcd d (-1 * x) : Nat) : Int) (scl (-1) q) := rfl
    rw [e, ih, Int.neg_mul, Int.one_mul, Int.gcd_neg]
    rfl
theorem part_neg (l : List Int) : partI (scl (-1) l) = scl (-1) (partI l) := by
  unfold partI
  rw [content_neg]
  unfold scl
  rw [List.map_map, List.map_map]
  apply List.map_congr_left
  intro x _
  show Int.tdiv (-1 * x) _ = -1 * Int.tdiv x _
  rw [Int.neg_mul, Int.one_mul, Int.neg_tdiv, Int.neg_mul, Int.one_mul]
theorem sign_neg (l : List Int) (m : Int) (hm : 0 ≤ m ∧ m ≤ 4611686018427387904) (hb : boundB l m) (ht : tight l) : signI (scl (-1) l) = signI l := by
  unfold signI
  rw [scl_length]
  by_cases h0 : l.length = 0
  · rw [if_pos h0, if_pos h0, List.eq_nil_of_length_eq_zero h0]; rfl
  · have hl := ht (by omega)
    have hs := scl_last (-1) l (by omega)
    rw [scl_length] at hs
    rw [if_neg h0, if_neg h0, hs]
    by_cases h1 : rd l ((l.length : Int) - 1) < 0
    · rw [if_neg (by omega), if_pos h1, neg_scl l m hm hb]
    · rw [if_pos (by omega), if_neg h1, neg_scl _ m hm (scl_bound l m hb), scl_scl]
theorem pmul_zero (d : List Int) (k : Nat) : pmul d (fun _ => 0) k = 0 := by
  have h := pmul_lin d 0 0 (fun _ => 0) (fun _ => 0) k
  simp only [Int.zero_mul, Int.add_zero] at h
  exact h
theorem pmul_swap (a : List Int) (b : List Int) (u : Nat → Int) : ∀ k, pmul a (pmul b u) k = pmul b (pmul a u) k := by
  induction a with
  | nil => intro k; exact (pmul_zero b k).symm
  | cons c P ih =>
    intro k
    have h1 : pmul b (pmul (c :: P) u) k = pmul b (fun k => c * u k + 1 * sX (pmul P u) k) k := by
      refine congrArg (fun f => pmul b f k) ?_
      funext j
      show c * u j + sX (pmul P u) j = _
      rw [Int.one_mul]
    rw [h1, pmul_lin, Int.one_mul, pmul_sX]
    show c * pmul b u k + sX (pmul P (pmul b u)) k = _
    rw [sX_congr _ _ ih]
theorem pmul_comm (a : List Int) (b : List Int) : ∀ k, pmul a (co b) k = pmul b (co a) k := by
  induction a with
  | nil => intro k; rw [show co [] = fun _ => 0 by funext j; exact co_Sup [] j (by simp)]; exact (pmul_zero b k).symm
  | cons c P ih =>
    intro k
    have h1 : co (c :: P) = fun j => c * (if j = 0 then 1 else 0) + 1 * sX (co P) j := by
      funext j
      cases j with
      | zero => rw [co_cons_zero]; simp [sX]
      | succ j => rw [co_cons_succ]; simp [sX]
    rw [h1, pmul_lin, pmul_one, Int.one_mul, pmul_sX]
    show c * co b k + sX (pmul P (co b)) k = _
    rw [sX_congr _ _ ih]
theorem pmul_scl (c : Int) (b : List Int) (u : Nat → Int) : ∀ k, pmul (scl c b) u k = c * pmul b u k := by
  induction b with
  | nil => intro k; show (0 : Int) = c * 0; simp
  | cons x P ih =>
    intro k
    show c * x * u k + sX (pmul (scl c P) u) k = c * (x * u k + sX (pmul P u) k)
    rw [sX_congr _ _ ih]
    cases k with
    | zero => simp [sX, Int.mul_assoc]
    | succ k => simp only [sX]; rw [Int.mul_add, Int.mul_assoc]
def mulL : List Int → List Int → List Int
  | [], _ => []
  | c :: P, b => padd (scl c b) (0 :: mulL P b)
theorem mulL_pmul (a b : List Int) (u : Nat → Int) : ∀ k, pmul (mulL a b) u k = pmul a (pmul b u) k := by
  induction a with
  | nil => intro k; rfl
  | cons c P ih =>
    intro k
    show pmul (padd (scl c b) (0 :: mulL P b)) u k = c * pmul b u k + sX (pmul P (pmul b u)) k
    rw [pmul_add, pmul_scl]
    show c * pmul b u k + (0 * u k + sX (pmul (mulL P b) u) k) = _
    rw [sX_congr _ _ ih]; simp
def gpow (g : List Int) : Nat → List Int
  | 0 => [1]
  | k + 1 => mulL g (gpow g k)
theorem gpow_zero (g : List Int) (u : Nat → Int) : pmul (gpow g 0) u = u := by
  funext k
  show 1 * u k + sX (fun _ => 0) k = u k
  cases k <;> simp [sX]
theorem gpow_succ (g : List Int) (k : Nat) (u : Nat → Int) : pmul (gpow g (k + 1)) u = pmul g (pmul (gpow g k) u) := by funext j; exact mulL_pmul g (gpow g k) u j
theorem gpow_der (g : List Int) (u : Nat → Int) (n : Nat) : ∀ k, sA (pmul (gpow g (n + 1)) u) k = pmul (gpow g (n + 1)) (sA u) k + ((n : Int) + 1) * pmul (gpow g n) (pmul (pder g) u) k := by
  induction n with
  | zero =>
    intro k
    rw [gpow_succ, gpow_succ, gpow_zero, gpow_zero, gpow_zero, sA_pmul]; simp
  | succ n ih =>
    intro k
    rw [gpow_succ g (n + 1) u, sA_pmul, gpow_succ g (n + 1) (sA u)]
    have h1 : sA (pmul (gpow g (n + 1)) u) = fun k => 1 * pmul (gpow g (n + 1)) (sA u) k + ((n : Int) + 1) * pmul (gpow g n) (pmul (pder g) u) k := by funext j; rw [ih j, Int.one_mul]
    rw [h1, pmul_lin, Int.one_mul, ← gpow_succ g n, pmul_swap (pder g)]
    grind
theorem top_of (N : Nat) (f : Nat → Int) (j : Nat) (hj : f j ≠ 0) : ∀ s, N ≤ j + 1 + s → Sup N f → ∃ t, j ≤ t ∧ f t ≠ 0 ∧ Sup (t + 1) f := by
  intro s
  induction s generalizing N with
  | zero => intro h1 h2; exact ⟨j, Nat.le_refl _, hj, fun k hk => h2 k (by omega)⟩
  | succ s ih =>
    intro h1 h2
    by_cases e : N ≤ j + 1
    · exact ⟨j, Nat.le_refl _, hj, fun k hk => h2 k (by omega)⟩
    · by_cases e2 : f (N - 1) = 0
      · refine ih (N - 1) (by omega) (fun k hk => ?_)
        by_cases e3 : k = N - 1
        · rw [e3]; exact e2
        · exact h2 k (by omega)
      · exact ⟨N - 1, by omega, e2, fun k hk => h2 k (by omega)⟩
theorem gpow_top (q : List Int) (b : Int) (hq : 0 < q.length) (hb : b ≠ 0) (n : Nat) : ∀ (N : Nat) (u : Nat → Int) (j : Nat), Sup N u → u j ≠ 0 → ∃ t, j + n ≤ t ∧ pmul (gpow (q ++ [b]) n) u t ≠ 0 := by
  induction n with
  | zero => intro N u j _ hj; exact ⟨j, by omega, by rw [gpow_zero]; exact hj⟩
  | succ n ih =>
    intro N u j hN hj
    obtain ⟨t, h1, h2, h3⟩ := top_of N u j hj N (by omega) hN
    have h4 : pmul (q ++ [b]) u (t + q.length) ≠ 0 := by
      rw [top_coef q b u t h3]; exact Int.mul_ne_zero hb h2
    obtain ⟨t', h5, h6⟩ := ih (t + 1 + (q ++ [b]).length) (pmul (q ++ [b]) u) (t + q.length) (Sup_pmul _ _ _ h3) h4
    refine ⟨t', by omega, ?_⟩
    have e : pmul (gpow (q ++ [b]) (n + 1)) u = pmul (gpow (q ++ [b]) n) (pmul (q ++ [b]) u) := by
      rw [gpow_succ]; funext k; exact pmul_swap _ _ _ k
    rw [e]; exact h6
def NoSq (W : List Int) : Prop := ∀ g : List Int, 1 < g.length → rd g ((g.length : Int) - 1) ≠ 0 → Mult g (co W) → Mult g (sA (co W)) → False
theorem list_co (n : Nat) (e : Nat → Int) (h : Sup n e) : co ((List.range n).map e) = e := by
  funext j
  unfold co
  by_cases hj : j < n
  · rw [if_pos (by simpa using hj), rd_getElem _ j (by simpa using hj)]; simp
  · rw [if_neg (by simpa using hj), h j (by omega)]
theorem Mult_next (P d W g : List Int) (hP : ∀ k, co P k = pmul d (co W) k) (h1 : Mult g (co W)) (h2 : Mult g (sA (co W))) (k : Nat) (hk : Mult (gpow g k) (co d)) : Mult (gpow g (k + 1)) (co P) ∧ Mult (gpow g (k + 1)) (sA (co P)) := by
  obtain ⟨M, n, e, hM, he, h⟩ := hk
  obtain ⟨M1, n1, s1, hM1, hs1, h1⟩ := h1
  obtain ⟨M2, n2, s2, hM2, hs2, h2⟩ := h2
  obtain ⟨E, hE⟩ : ∃ E, (List.range n).map e = E := ⟨_, rfl⟩
  have hEe : co E = e := by rw [← hE]; exact list_co n e he
  have hEl : E.length = n := by rw [← hE]; simp
  have f1 : (fun k => M1 * co W k + 0 * co W k) = pmul g s1 := by funext j; rw [← h1 j]; simp
  have f0 : (fun k => M * co d k + 0 * co d k) = pmul (gpow g k) e := by funext j; rw [← h j]; simp
  -- the power divides P
  have g1 : ∀ j, M1 * M * co P j = pmul (gpow g (k + 1)) (pmul E s1) j := by
    intro j
    have a1 : M * co P j = pmul (gpow g k) (pmul W e) j := by
      rw [hP, pmul_comm, ← pmul_swap, ← f0, pmul_lin]; simp
    have a2 : ∀ i, M1 * pmul W e i = pmul g (pmul E s1) i := by
      intro i
      rw [← hEe, pmul_comm, ← pmul_swap, ← f1, pmul_lin]; simp
    rw [Int.mul_assoc, a1, gpow_succ, pmul_swap g]
    have a3 : pmul g (pmul E s1) = fun i => M1 * pmul W e i + 0 * pmul W e i := by funext i; rw [← a2 i]; simp
    rw [a3, pmul_lin]; simp
  have hs : Sup (n1 + n) (pmul E s1) := by rw [← hEl]; exact Sup_pmul E n1 s1 hs1
  refine ⟨⟨M1 * M, _, _, Int.mul_ne_zero hM1 hM, hs, g1⟩, ?_⟩
  -- and its derivative
  obtain ⟨x, hx⟩ : ∃ x, x = fun j => M1 * s2 j + (-M2) * sA s1 j := ⟨_, rfl⟩
  have b1 : ∀ j, M2 * pmul (pder g) s1 j = pmul g x j := by
    intro j
    have c1 : M1 * sA (co W) j = pmul g (sA s1) j + pmul (pder g) s1 j := by
      rw [← sA_pmul, ← f1]; simp only [sA]; grind
    rw [hx, pmul_lin, ← h2 j]
    have c2 : pmul (pder g) s1 j = M1 * sA (co W) j - pmul g (sA s1) j := by omega
    rw [c2]; grind
  have b2 : ∀ j, M2 * pmul (gpow g k) (pmul (pder g) (pmul E s1)) j = pmul (gpow g (k + 1)) (pmul E x) j := by
    intro j
    have c1 : pmul (pder g) (pmul E s1) = pmul E (pmul (pder g) s1) := by funext i; exact pmul_swap _ _ _ i
    have c2 : pmul (gpow g (k + 1)) (pmul E x) = pmul (gpow g k) (pmul E (pmul g x)) := by
      rw [gpow_succ]
      funext i
      rw [pmul_swap g]
      exact congrArg (fun f => pmul (gpow g k) f i) (by funext z; exact pmul_swap _ _ _ z)
    rw [c1, c2]
    have c3 : pmul g x = fun i => M2 * pmul (pder g) s1 i + 0 * pmul (pder g) s1 i := by funext i; rw [← b1 i]; simp
    have c4 : pmul E (pmul g x) = fun i => M2 * pmul E (pmul (pder g) s1) i + 0 * pmul E (pmul (pder g) s1) i := by funext i; rw [c3, pmul_lin]
    rw [c4, pmul_lin]; simp
  have hx2 : Sup (n2 + n1) x := by
    intro j hj
    rw [hx]
    show M1 * s2 j + (-M2) * sA s1 j = 0
    rw [hs2 j (by omega), Sup_A n1 s1 hs1 j (by omega)]; simp
  refine ⟨M2 * (M1 * M), (n1 + n) + (n2 + n1 + n), fun j => M2 * sA (pmul E s1) j + ((k : Int) + 1) * pmul E x j, Int.mul_ne_zero hM2 (Int.mul_ne_zero hM1 hM), ?_, ?_⟩
  · intro j hj
    show M2 * sA (pmul E s1) j + _ = 0
    have z := Sup_pmul E (n2 + n1) x hx2
    rw [Sup_A _ _ hs j (by omega), z j (by omega)]; simp
  · intro j
    have c1 : M1 * M * sA (co P) j = sA (pmul (gpow g (k + 1)) (pmul E s1)) j := by
      simp only [sA]; rw [← g1 (j + 1)]; grind
    rw [Int.mul_assoc, c1, gpow_der, pmul_lin, ← b2 j]
    grind
theorem nosq (P d W : List Int) (hP : ∀ k, co P k = pmul d (co W) k) (hd0 : 0 < d.length) (hdt : tight d) (hcl : ∀ D : (Nat → Int) → Prop, Cl D → D (co P) → D (sA (co P)) → D (co d)) : NoSq W := by
  intro g hg hgl h1 h2
  have key : ∀ k, Mult (gpow g k) (co d) := by
    intro k
    induction k with
    | zero => exact ⟨1, d.length, co d, by decide, co_Sup d, fun j => by rw [gpow_zero]; omega⟩
    | succ k ih =>
      obtain ⟨a, b⟩ := Mult_next P d W g hP h1 h2 k ih
      exact hcl _ (Mult_cl _) a b
  obtain ⟨M, n, u, hM, hu, h⟩ := key d.length
  obtain ⟨q, b, hq⟩ := List_snoc g (by omega)
  have hql : g.length = q.length + 1 := by rw [hq]; simp
  have hb : b ≠ 0 := by
    have e : ((g.length : Int) - 1) = (q.length : Int) := by omega
    rw [e, hq, rd_getElem _ _ (by simp)] at hgl
    simpa using hgl
  by_cases hz : ∃ j, u j ≠ 0
  · obtain ⟨j, hj⟩ := hz
    obtain ⟨t, h3, h4⟩ := gpow_top q b (by omega) hb d.length n u j hu hj
    rw [← hq, ← h t, co_Sup d t (by omega)] at h4
    simp at h4
  · have hu0 : u = fun _ => 0 := by funext j; exact Classical.byContradiction (fun hh => hz ⟨j, hh⟩)
    have h5 := h (d.length - 1)
    rw [hu0, pmul_zero] at h5
    have h6 := hdt hd0
    have e : co d (d.length - 1) = rd d ((d.length : Int) - 1) := by unfold co; rw [if_pos (by omega)]; congr 1; omega
    rw [e] at h5
    rcases Int.mul_eq_zero.1 h5 with h7 | h7
    · exact hM h7
    · exact h6 h7
theorem part_fw {D : (Nat → Int) → Prop} (hD : Cl D) (l : List Int) (ht : tight l) (h : D (co l)) : D (co (partI l)) := by
  by_cases h0 : 0 < l.length
  · refine hD.cancel (contentI 0 l) _ (tight_pos l ht h0) ?_
    exact (show co l = fun k => contentI 0 l * co (partI l) k by funext k; exact co_part l k) ▸ h
  · have e : l = [] := List.eq_nil_of_length_eq_zero (by omega)
    rw [e] at h ⊢; exact h
theorem step_fw {D : (Nat → Int) → Prop} (hD : Cl D) (p q : List Int) (hq : q.length ≤ p.length) (hq0 : 0 < q.length) (hpb : boundB p 1000000000) (hqb : boundB q 1000000000) (hb : rd q ((q.length : Int) - 1) ≠ 0) (h1 : D (co q)) (h2 : D (co p)) : D (co (stepI p q)) := by
  obtain ⟨a, ha⟩ : ∃ a, rd p ((p.length : Int) - 1) = a := ⟨_, rfl⟩
  obtain ⟨b, hbe⟩ : ∃ b, rd q ((q.length : Int) - 1) = b := ⟨_, rfl⟩
  have d1 := hD.mul (upI a b) _ h2
  have d2 := hD.mul (-(downI a b)) _ (Cl_shN hD _ h1 (p.length - q.length))
  have d3 := hD.add _ _ d1 d2
  refine part_fw hD _ (trimI_tight _) ?_
  refine (show (fun k => upI a b * co p k + -(downI a b) * shN (p.length - q.length) (co q) k) = co (trimI (nextI p q)) from ?_) ▸ d3
  funext k
  rw [co_trim _ _ rfl]
  by_cases hk : k < p.length
  · have v := next_val p q hq hq0 hpb hqb hb k hk
    rw [ha, hbe] at v
    have e1 : co (nextI p q) k = rd (nextI p q) (k : Int) := by unfold co; rw [if_pos (by rw [nextI_length]; exact hk)]
    have e2 : co p k = rd p (k : Int) := by unfold co; rw [if_pos hk]
    rw [e1, e2, v]
    unfold shN
    by_cases hs : p.length - q.length ≤ k
    · rw [if_pos hs, if_pos hs]
      have e3 : co q (k - (p.length - q.length)) = rd q ((k - (p.length - q.length) : Nat) : Int) := by unfold co; rw [if_pos (by omega)]
      rw [e3]; grind
    · rw [if_neg hs, if_neg hs]; grind
  · have e1 : co (nextI p q) k = 0 := co_Sup _ k (by rw [nextI_length]; omega)
    have e2 : co p k = 0 := co_Sup _ k (by omega)
    have e3 : shN (p.length - q.length) (co q) k = 0 := by
      unfold shN; split
      · exact co_Sup _ _ (by omega)
      · rfl
    rw [e1, e2, e3]; simp
theorem remL_fw {D : (Nat → Int) → Prop} (hD : Cl D) (q : List Int) (hq0 : 0 < q.length) (hqb : boundB q 1000000000) (hb : rd q ((q.length : Int) - 1) ≠ 0) (n : Nat) : ∀ (p : List Int), boundB p 1000000000 → (remL n p q).2 = true → D (co q) → D (co p) → D (co (remL n p q).1) := by
  induction n with
  | zero => intro p _ _ _ h; exact h
  | succ n ih =>
    intro p hpb
    simp only [remL]
    by_cases hlen : q.length ≤ p.length
    · rw [if_pos hlen]
      by_cases h : okB (stepI p q) = true
      · rw [if_pos h]
        intro h1 h2 h3
        exact ih _ (okB_bound _ h) h1 h2 (step_fw hD p q hlen hq0 hpb hqb hb h2 h3)
      · rw [if_neg h]; intro h1; cases h1
    · rw [if_neg hlen]; intro _ _ h3; exact h3
theorem comL_fw {D : (Nat → Int) → Prop} (hD : Cl D) (n : Nat) : ∀ (p q : List Int), q.length ≤ n → p.length ≤ 1000000 → q.length ≤ 1000000 → boundB p 1000000000 → tight p → boundB q 1000000000 → tight q → (comL n p q).2 = true → D (co p) → D (co q) → D (co (comL n p q).1) := by
  have fin : ∀ (p : List Int), boundB p 1000000000 → tight p → D (co p) → D (co (signI (partI p))) := by
    intro p hpb hpt h
    obtain ⟨s, hs, hk⟩ := co_sign (partI p) 1000000000 ⟨by omega, by omega⟩ (part_bound p _ hpb)
    have h1 := hD.mul s _ (part_fw hD p hpt h)
    exact (show co (signI (partI p)) = fun k => s * co (partI p) k by funext k; exact hk k) ▸ h1
  induction n with
  | zero => intro p q hn _ _ hpb hpt _ _ _ h _; exact fin p hpb hpt h
  | succ n ih =>
    intro p q hn hp hq hpb hpt hqb hqt
    simp only [comL]
    by_cases h0 : 0 < q.length
    · rw [if_pos h0]
      obtain ⟨e1, e2, e3, e4⟩ := remF_ev p q hp hq h0 hpb hpt hqb hqt
      by_cases hok : (remF p q).2 = true
      · rw [if_pos hok]
        intro h1 h2 h3
        obtain ⟨hl, hb, ht⟩ := e3 hok
        exact ih q (remF p q).1 (by omega) hq (by omega) hqb hqt hb ht h1 h3 (remL_fw hD q h0 hqb (hqt h0) _ (partI p) (part_bound p _ hpb) hok h3 (part_fw hD p hpt h2))
      · rw [if_neg hok]; intro h1; cases h1
    · rw [if_neg h0]; intro _ h _; exact fin p hpb hpt h
theorem derF_co (l : List Int) (hl : l.length ≤ 9) (m : Int) (hm : 0 ≤ m ∧ m ≤ 1000000000) (hb : boundB l m) : co (derF l 1 (l.length - 1)) = sA (co l) := by
  funext j
  show (if j < (derF l 1 (l.length - 1)).length then rd (derF l 1 (l.length - 1)) (j : Int) else 0) = ((j : Int) + 1) * (if j + 1 < l.length then rd l ((j + 1 : Nat) : Int) else 0)
  rw [derF_length]
  by_cases h : j < l.length - 1
  · rw [if_pos h, derF_rd l hl m hm hb j h, if_pos (by omega)]; simp
  · rw [if_neg h, if_neg (by omega)]; simp
def freeL (P : List Int) : List Int × Bool := comL 9 P (derF P 1 (P.length - 1))
theorem free_core (P : List Int) (h0 : 0 < P.length) (hl : P.length ≤ 9) (hb : boundB P 1000000) (ht : tight P) (hok : (freeL P).2 = true) :
    ∃ W, boundB W 1000000000 ∧ tight W ∧ 0 < W.length ∧ W.length ≤ 9 ∧ (∀ j : Nat, j < W.length → -1000000000 ≤ (j : Int) * rd W (j : Int) ∧ (j : Int) * rd W (j : Int) ≤ 1000000000) ∧ NoSq W ∧ (∀ X : List Int, ∀ s : Int, (s = 1 ∨ s = -1) → X = scl s P → Ev (fun z => spec_sgDivide.f z X (freeL P).1) (scl s W, true) ∧ Ev (fun z => impl_quotient.f z X (freeL P).1) (scl s W, true)) := by
  have hb9 : boundB P 1000000000 := fun x hx => by have := hb x hx; omega
  have hDb := derF_bound P hl hb
  have hDt := derF_tight P hl hb ht
  have hDl := derF_length P (P.length - 1) 1
  obtain ⟨n1, n2, n3, n4, n5⟩ := comL_nice 9 P _ (by omega) h0 (by omega) (by omega) hb9 ht hDb hDt hok
  have hcl := (comL_cl (Mult_cl (freeL P).1) 9 P _ (by omega) (by omega) (by omega) hb9 ht hDb hDt hok (Mult_self _)).1
  change Prim (freeL P).1 at n1
  change boundB (freeL P).1 1000000000 at n2
  change tight (freeL P).1 at n3
  change 0 < (freeL P).1.length at n4
  obtain ⟨d, hd⟩ : ∃ d, (freeL P).1 = d := ⟨_, rfl⟩
  rw [hd] at n1 n2 n3 n4 hcl ⊢
  obtain ⟨n, w, hw, hk⟩ := Mult_exact d n1 (co P) hcl
  obtain ⟨q', b, hq⟩ := List_snoc d n4
  have hdl : d.length = q'.length + 1 := by rw [hq]; simp
  have hbl : b ≠ 0 := by
    have h1 := n3 n4
    have e : ((d.length : Int) - 1) = (q'.length : Int) := by omega
    rw [e, hq, rd_getElem _ _ (by simp)] at h1
    simpa using h1
  have hk' : ∀ k, co P k = pmul (q' ++ [b]) w k := by rw [← hq]; exact hk
  have hwb2 := factor_bound q' b hbl w (co P) n hw (fun k hk => co_Sup P k (by omega)) (co_bound P 1000000 (by omega) hb) hk'
  have hwb := fun j => (hwb2 j).1
  have hwl : Sup (P.length - q'.length) w := factor_len q' b hbl (co P) w P.length (co_Sup P) hk' n (fun k hk => hw k (by omega))
  obtain ⟨m, hm⟩ : ∃ m, P.length - q'.length = m := ⟨_, rfl⟩
  rw [hm] at hwl
  -- the last number of P is not 0
  have hPl : co P (P.length - 1) ≠ 0 := by
    have h1 := ht h0
    have e : ((P.length : Int) - 1) = ((P.length - 1 : Nat) : Int) := by omega
    unfold co; rw [if_pos (by omega), ← e]; exact h1
  have hm0 : 0 < m := by
    rcases Nat.eq_zero_or_pos m with h | h
    · exfalso
      apply hPl
      rw [hk' _, pmul_conv, sm_congr _ _ (fun _ => 0 * 0) (fun i _ => by
        split
        · rw [hwl _ (by omega)]; simp
        · rfl), sm_mul]
      simp
    · exact h
  have hlast : w (m - 1) ≠ 0 := by
    intro e
    apply hPl
    have h1 := top_coef q' b w (m - 1) (fun k hk => hwl k (by omega))
    rw [e, ← hk', show m - 1 + q'.length = P.length - 1 by omega] at h1
    rw [h1]; simp
  have hWl : ((List.range m).map w).length = m := by simp
  have hWrd : ∀ j, j < m → rd ((List.range m).map w) (j : Int) = w j := by
    intro j hj
    rw [rd_getElem _ j (by rw [hWl]; exact hj)]; simp
  have hWco : co ((List.range m).map w) = w := by
    funext j
    unfold co
    rw [hWl]
    by_cases hj : j < m
    · rw [if_pos hj, hWrd j hj]
    · rw [if_neg hj, hwl j (by omega)]
  refine ⟨(List.range m).map w, ?_, ?_, by omega, by omega, (fun j hj => by rw [hWrd j (by omega)]; exact (hwb2 j).2 (by omega)), ?_, ?_⟩
  · intro x hx
    obtain ⟨i, _, rfl⟩ := List.mem_map.1 hx
    exact hwb i
  · intro _
    rw [hWl]
    have e : ((m : Int) - 1) = ((m - 1 : Nat) : Int) := by omega
    rw [e, hWrd _ (by omega)]; exact hlast
  · refine nosq P d _ (fun k => by rw [hWco]; exact hk k) n4 n3 (fun D hD h1 h2 => ?_)
    have h3 := comL_fw hD 9 P _ (by omega) (by omega) (by omega) hb9 ht hDb hDt hok h1 ((derF_co P hl 1000000 ⟨by omega, by omega⟩ hb) ▸ h2)
    change D (co (freeL P).1) at h3
    rw [hd] at h3; exact h3
  · intro X s hs hX
    have hsW : boundB (scl s ((List.range m).map w)) 1000000000 := by
      intro x hx
      obtain ⟨y, hy, rfl⟩ := List.mem_map.1 hx
      obtain ⟨i, _, rfl⟩ := List.mem_map.1 hy
      have := hwb i
      rcases hs with rfl | rfl <;> omega
    have hsco : ∀ l : List Int, ∀ k, co (scl s l) k = s * co l k := by
      intro l k
      unfold co
      rw [scl_length]
      by_cases h : k < l.length
      · rw [if_pos h, if_pos h, scl_rd s l k h]
      · rw [if_neg h, if_neg h]; simp
    have hco : ∀ k, co X k = pmul d (co (scl s ((List.range m).map w))) k := by
      intro k
      rw [hX, hsco, hk k]
      have e : co (scl s ((List.range m).map w)) = fun k => s * w k + 0 * w k := by
        funext j; rw [hsco, hWco]; simp
      rw [e, pmul_lin]; simp
    have hXl : X.length = (scl s ((List.range m).map w)).length + q'.length := by rw [hX, scl_length, scl_length, hWl]; omega
    obtain ⟨g1, g2⟩ := quotE q' b hbl d hq (by omega) n2 (scl s ((List.range m).map w)) hsW (by rw [scl_length, hWl]; omega) (by rw [scl_length, hWl]; omega) X hXl hco
    refine ⟨g1, ?_⟩
    have hkeep : trimI (scl s ((List.range m).map w)) = scl s ((List.range m).map w) := by
      apply trimI_keep _ (by rw [scl_length, hWl]; omega)
      rw [scl_last s _ (by rw [hWl]; omega), hWl]
      have e : ((m : Int) - 1) = ((m - 1 : Nat) : Int) := by omega
      rw [e, hWrd _ (by omega)]
      exact Int.mul_ne_zero (by rcases hs with rfl | rfl <;> decide) hlast
    rw [hkeep] at g2
    exact g2
theorem sign_weight (W : List Int) (w1 : boundB W 1000000000) (w6 : ∀ j : Nat, j < W.length → -1000000000 ≤ (j : Int) * rd W (j : Int) ∧ (j : Int) * rd W (j : Int) ≤ 1000000000) (j : Nat) (hj : j < (signI (partI W)).length) : -1000000000 ≤ (j : Int) * rd (signI (partI W)) (j : Int) ∧ (j : Int) * rd (signI (partI W)) (j : Int) ≤ 1000000000 := by
  rw [signI_length, part_length] at hj
  have h1 := w6 j hj
  have hb := part_bound W 1000000000 w1
  have h2 : (rd (partI W) (j : Int)).natAbs ≤ (rd W (j : Int)).natAbs := by
    rw [rd_part W j hj]
    have := tdiv_bound (rd W (j : Int)) (contentI 0 W)
    omega
  have h3 : ((j : Int) * rd W (j : Int)).natAbs = j * (rd W (j : Int)).natAbs := by rw [Int.natAbs_mul]; simp
  have h4 : j * (rd (partI W) (j : Int)).natAbs ≤ j * (rd W (j : Int)).natAbs := Nat.mul_le_mul_left _ h2
  have h5 : (rd (signI (partI W)) (j : Int)).natAbs = (rd (partI W) (j : Int)).natAbs := by
    have hx := hb _ (rd_mem (partI W) j (by rw [part_length]; exact hj))
    unfold signI
    split
    · rfl
    · split
      · rw [negI_rd _ j (by rw [part_length]; exact hj), wrap_id _ ⟨by omega, by omega⟩]; omega
      · rfl
  have h6 : ((j : Int) * rd (signI (partI W)) (j : Int)).natAbs = j * (rd (partI W) (j : Int)).natAbs := by rw [Int.natAbs_mul, h5]; simp
  omega
theorem NoSq_same (W : List Int) (w1 : boundB W 1000000000) (w3 : 0 < W.length) (w2 : tight W) (h : NoSq W) : NoSq (signI (partI W)) := by
  obtain ⟨s, hs, hk⟩ := co_sign (partI W) 1000000000 ⟨by omega, by omega⟩ (part_bound W _ w1)
  have hs0 : s ≠ 0 := by rcases hs with rfl | rfl <;> decide
  have e1 : co (signI (partI W)) = fun k => s * co (partI W) k := by funext k; exact hk k
  have e2 : co W = fun k => contentI 0 W * co (partI W) k := by funext k; exact co_part W k
  have e3 : sA (co (signI (partI W))) = fun k => s * sA (co (partI W)) k := by funext k; rw [e1]; simp only [sA]; grind
  have e4 : sA (co W) = fun k => contentI 0 W * sA (co (partI W)) k := by funext k; rw [e2]; simp only [sA]; grind
  intro g hg hgl h1 h2
  rw [e1] at h1
  rw [e3] at h2
  have hD := Mult_cl g
  refine h g hg hgl ?_ ?_
  · rw [e2]; exact hD.mul _ _ (hD.cancel s _ hs0 h1)
  · rw [e4]; exact hD.mul _ _ (hD.cancel s _ hs0 h2)
theorem free_ev (p : List Int) (hg : goodB p = true) (h0 : 0 < p.length) :
    ∃ r ok, Ev (fun z => spec_sgFree.f z p) (r, ok) ∧ Ev (fun z => impl_squarefreePart.f z p) (r, ok) ∧ (ok = true → 0 < r.length ∧ r.length ≤ 9 ∧ tight r ∧ boundB r 1000000000 ∧ ∀ j : Nat, j < r.length → -1000000000 ≤ (j : Int) * rd r (j : Int) ∧ (j : Int) * rd r (j : Int) ≤ 1000000000) ∧ (ok = true → NoSq r) ∧ (ok = false → r = []) := by
  have hl := good_length p hg
  have hb : boundB p 1000000 := fun x hx => good_bound p hg x hx
  have ht := good_tight p hg
  have hb9 : boundB p 1000000000 := fun x hx => by have := hb x hx; omega
  have hPb := part_bound p 1000000 hb
  have hPb9 : boundB (partI p) 1000000000 := fun x hx => by have := hPb x hx; omega
  have hPt := tight_part p ht
  have hPl := part_length p
  have hps := part_scl p
  have hc0 := tight_pos p ht h0
  have hcn := content_nonneg p 0 (by omega)
  obtain ⟨c, hc⟩ : ∃ c, contentI 0 p = c := ⟨_, rfl⟩
  obtain ⟨P, hP⟩ : ∃ P, partI p = P := ⟨_, rfl⟩
  rw [hc] at hps hc0 hcn
  rw [hP] at hPb hPb9 hPt hPl hps
  have hDb := derF_bound P (by omega) hPb
  have hDt := derF_tight P (by omega) hPb hPt
  have hDl := derF_length P (P.length - 1) 1
  have hDp : derF p 1 (p.length - 1) = scl c (derF P 1 (P.length - 1)) := by
    have h := derF_scl c P (by omega) hPb (by rw [hps]; exact hb)
    rw [hps] at h; exact h
  have hDpb := derF_bound p hl hb
  have hcom : comL 9 p (derF p 1 (p.length - 1)) = freeL P := by
    have h := comL_scale c (by omega) 9 P (derF P 1 (P.length - 1)) hPb9 hDb (by rw [← hDp]; exact hDpb) hDt
    rw [hps, ← hDp] at h; exact h
  have e1 : Ev (fun z => spec_sgCommon.f z p (derF p 1 (p.length - 1))) (freeL P) := by
    have h := (comL_ev 9 p (derF p 1 (p.length - 1)) (by rw [derF_length]; omega) (by omega) (by rw [derF_length]; omega) hb9 ht hDpb (derF_tight p hl hb ht)).1
    rw [hcom] at h; exact h
  have hkeep : trimI (derF P 1 (P.length - 1)) = derF P 1 (P.length - 1) := by
    rcases Nat.eq_zero_or_pos (P.length - 1) with h | h
    · rw [h]; rfl
    · exact trimI_keep _ (by omega) (hDt (by omega))
  have e2 : Ev (fun z => impl_commonDivisor.f z P (derF P 1 (P.length - 1))) (freeL P) := (comL_ev 9 P (derF P 1 (P.length - 1)) (by omega) (by omega) (by omega) hPb9 hPt hDb hDt).2
  have d1 := divided_ev p (by omega) 1000000 ⟨by omega, by omega⟩ hb ht
  rw [hP] at d1
  have d2 := derive_ev P (by omega)
  rw [hkeep] at d2
  have u1 := sgUp_ev p (by omega) 1000000 ⟨by omega, by omega⟩ hb ht
  rw [hP] at u1
  cases hok : (freeL P).2 with
  | false =>
    refine ⟨[], false, ?_, ?_, (fun h => by cases h), (fun h => by cases h), fun _ => rfl⟩
    · unfold spec_sgFree.f
      refine Ev.bind (sgDerive_ev p (by omega)) (Ev.bind e1 ?_)
      rw [hok]
      exact Ev_if (fun h => by cases h) (fun _ => Ev.now _)
    · unfold impl_squarefreePart.f
      refine Ev.bind d1 (Ev.bind d2 (Ev.bind e2 ?_))
      rw [hok]
      exact Ev_if (fun h => by cases h) (fun _ => Ev.now _)
  | true =>
    obtain ⟨W, w1, w2, w3, w4, w6, w7, w5⟩ := free_core P (by omega) (by omega) hPb hPt hok
    have hX : ∃ s : Int, (s = 1 ∨ s = -1) ∧ signI P = scl s P := by
      unfold signI
      split
      · exact ⟨1, .inl rfl, by unfold scl; simp⟩
      · split
        · exact ⟨-1, .inr rfl, neg_scl P 1000000 ⟨by omega, by omega⟩ hPb⟩
        · exact ⟨1, .inl rfl, by unfold scl; simp⟩
    obtain ⟨s, hs, hse⟩ := hX
    have g1 := (w5 (signI P) s hs hse).1
    have g2 := (w5 P 1 (.inl rfl) (by unfold scl; simp)).2
    have hone : scl 1 W = W := by unfold scl; simp
    rw [hone] at g2
    have hWp := part_bound W 1000000000 w1
    have hsame : signI (partI (scl s W)) = signI (partI W) := by
      rcases hs with rfl | rfl
      · rw [hone]
      · rw [part_neg, sign_neg _ 1000000000 ⟨by omega, by omega⟩ hWp (tight_part W w2)]
    have hsb : boundB (scl s W) 1000000000 := by
      rcases hs with rfl | rfl
      · rw [hone]; exact w1
      · exact scl_bound W _ w1
    have hst : tight (scl s W) := by
      intro _
      rw [scl_last s W w3]
      exact Int.mul_ne_zero (by rcases hs with rfl | rfl <;> decide) (w2 w3)
    have u2 := sgUp_ev (scl s W) (by rw [scl_length]; omega) 1000000000 ⟨by omega, by omega⟩ hsb hst
    rw [hsame] at u2
    have v1 := divided_ev W (by omega) 1000000000 ⟨by omega, by omega⟩ w1 w2
    have v2 := withSign_ev (partI W) (by rw [part_length]; omega)
    refine ⟨signI (partI W), true, ?_, ?_, fun _ => ⟨by rw [signI_length, part_length]; exact w3, by rw [signI_length, part_length]; exact w4, sign_tight _ 1000000000 ⟨by omega, by omega⟩ hWp (tight_part W w2), sign_bound _ _ ⟨by omega, by omega⟩ hWp, sign_weight W w1 w6⟩, (fun _ => NoSq_same W w1 w3 w2 w7), fun h => by cases h⟩
    · unfold spec_sgFree.f
      refine Ev.bind (sgDerive_ev p (by omega)) (Ev.bind e1 ?_)
      rw [hok]
      exact Ev_if (fun _ => Ev.bind u1 (Ev.bind g1 (Ev.bind u2 (Ev.now _)))) (fun h => absurd rfl h)
    · unfold impl_squarefreePart.f
      refine Ev.bind d1 (Ev.bind d2 (Ev.bind e2 ?_))
      rw [hok]
      exact Ev_if (fun _ => Ev.bind g2 (Ev.bind v1 (Ev.bind v2 (Ev.now _)))) (fun h => absurd rfl h)
def chL : Nat → List (List Int) → List Int → List Int → List (List Int) × Bool
  | 0, acc, _, _ => (acc, true)
  | n + 1, acc, a, b => if 1 < b.length then (if (remF a b).2 = true then chL n (acc ++ [negI (remF a b).1]) b (negI (remF a b).1) else ([], false)) else (acc, true)
def niceC (q : List Int) : Prop := boundB q 1000000000 ∧ tight q ∧ q.length ≤ 9
theorem neg_bound (l : List Int) (m : Int) (hm : 0 ≤ m ∧ m ≤ 4611686018427387904) (hb : boundB l m) : boundB (negI l) m := by
  intro x hx
  obtain ⟨y, hy, rfl⟩ := List.mem_map.1 hx
  have := hb y hy
  show -m ≤ wrap64 (-y) ∧ wrap64 (-y) ≤ m
  rw [wrap_id _ ⟨by omega, by omega⟩]; omega
theorem neg_tight (l : List Int) (m : Int) (hm : 0 ≤ m ∧ m ≤ 4611686018427387904) (hb : boundB l m) (ht : tight l) : tight (negI l) := by
  intro h0
  rw [negI_length] at h0 ⊢
  have e : ((l.length : Int) - 1) = ((l.length - 1 : Nat) : Int) := by omega
  have h1 := ht h0
  have h2 := hb _ (rd_mem l (l.length - 1) (by omega))
  rw [e] at h1 ⊢
  rw [negI_rd l _ (by omega), wrap_id _ ⟨by omega, by omega⟩]; omega
theorem rd_L1_get (xs : List (List Int)) (j : Nat) (h : j < xs.length) : rd_L1 xs (j : Int) = xs[j] := by simp [rd_L1, h]
theorem L1_last (pre : List (List Int)) (a b : List Int) : rd_L1 (pre ++ [a, b]) ((pre.length + 1 : Nat) : Int) = b := by
  rw [rd_L1_get _ _ (by simp), List.getElem_append_right (by omega)]; simp
theorem L1_prev (pre : List (List Int)) (a b : List Int) : rd_L1 (pre ++ [a, b]) (pre.length : Int) = a := by
  rw [rd_L1_get _ _ (by simp), List.getElem_append_right (by omega)]; simp
theorem stMinus_l0 (l : List Int) (hl : l.length ≤ 1000000) (n : Nat) : ∀ (i : Nat), i ≤ l.length → l.length - i = n → Ev (fun z => spec_stMinus.l0 z ((negI l).take i) l (l.length : Int) (i : Int)) (negI l) := by
  induction n with
  | zero =>
    intro i hi hn
    refine Ev.step (fun z => rfl) ?_
    simp only [spec_stMinus.l0]
    refine Ev_if (fun h => by omega) (fun _ => ?_)
    rw [List.take_of_length_le (by rw [negI_length]; omega)]
    exact Ev.now _
  | succ n ih =>
    intro i hi hn
    refine Ev.step (fun z => rfl) ?_
    simp only [spec_stMinus.l0]
    have e : (negI l).take i ++ [wrap64 (-(rd l (i : Int)))] = (negI l).take (i + 1) := by
      have h1 : i < (negI l).length := by rw [negI_length]; omega
      rw [← negI_rd l i (by omega), rd_getElem _ i h1, List.take_succ_eq_append_getElem h1]
    rw [wrap_next i (by omega), e]
    exact Ev_if (fun _ => Ev_if (fun _ => Ev_if (fun _ => Ev_if (fun _ => ih (i + 1) (by omega) (by omega)) (fun h => absurd (by simp; omega) h)) (fun h => by omega)) (fun h => by omega)) (fun h => by omega)
theorem stMinus_ev (l : List Int) (hl : l.length ≤ 1000000) : Ev (fun z => spec_stMinus.f z l) (negI l) := by
  have h := stMinus_l0 l hl l.length 0 (by omega) (by omega)
  rw [List.take_zero] at h
  exact h
theorem chL_ev (n : Nat) : ∀ (pre : List (List Int)) (a b : List Int), b.length ≤ n → pre.length + n ≤ 1000 → niceC a → niceC b → (∀ q ∈ pre, niceC q) →
    Ev (fun z => spec_stChain.l0 z (pre ++ [a, b])) (chL n (pre ++ [a, b]) a b) ∧ Ev (fun z => impl_sturmChain.l0 z (pre ++ [a, b]) ((pre ++ [a, b]).length : Int)) (chL n (pre ++ [a, b]) a b) ∧
    (∀ q ∈ (chL n (pre ++ [a, b]) a b).1, niceC q) ∧ (chL n (pre ++ [a, b]) a b).1.length ≤ pre.length + 2 + n ∧ ((chL n (pre ++ [a, b]) a b).2 = false → (chL n (pre ++ [a, b]) a b).1 = []) := by
  have hall : ∀ (pre : List (List Int)) (a b : List Int), niceC a → niceC b → (∀ q ∈ pre, niceC q) → ∀ q ∈ pre ++ [a, b], niceC q := by
    intro pre a b ha hb hp q hq
    rcases List.mem_append.1 hq with h | h
    · exact hp q h
    · rcases List.mem_cons.1 h with rfl | h
      · exact ha
      · rw [List.mem_singleton.1 h]; exact hb
  have head : ∀ (pre : List (List Int)) (a b : List Int), pre.length ≤ 1000 → wrap64 ((((pre ++ [a, b]).length : Nat) : Int) - 1) = ((pre.length + 1 : Nat) : Int) ∧ wrap64 ((((pre ++ [a, b]).length : Nat) : Int) - 2) = (pre.length : Int) := by
    intro pre a b h
    have e : (pre ++ [a, b]).length = pre.length + 2 := by simp
    rw [e]
    constructor <;> (unfold wrap64; omega)
  have stop : ∀ (pre : List (List Int)) (a b : List Int), pre.length ≤ 1000 → ¬ 1 < b.length → Ev (fun z => spec_stChain.l0 z (pre ++ [a, b])) (pre ++ [a, b], true) ∧ Ev (fun z => impl_sturmChain.l0 z (pre ++ [a, b]) ((pre ++ [a, b]).length : Int)) (pre ++ [a, b], true) := by
    intro pre a b hp hb
    have e : (pre ++ [a, b]).length = pre.length + 2 := by simp
    obtain ⟨w1, w2⟩ := head pre a b hp
    refine ⟨?_, ?_⟩
    · refine Ev.step (fun z => rfl) ?_
      simp only [spec_stChain.l0]
      rw [w1, w2, L1_last, L1_prev]
      exact Ev_if (fun _ => Ev_if (fun _ => Ev_if (fun h => by omega) (fun _ => Ev.now _)) (fun h => by omega)) (fun h => by omega)
    · refine Ev.step (fun z => rfl) ?_
      simp only [impl_sturmChain.l0]
      rw [w1, w2, L1_last, L1_prev]
      exact Ev_if (fun _ => Ev_if (fun _ => Ev_if (fun h => by omega) (fun _ => Ev.now _)) (fun h => by omega)) (fun h => by omega)
  induction n with
  | zero =>
    intro pre a b hn hp ha hb hpre
    obtain ⟨s1, s2⟩ := stop pre a b (by omega) (by omega)
    exact ⟨s1, s2, hall pre a b ha hb hpre, by simp [chL], fun h => by cases h⟩
  | succ n ih =>
    intro pre a b hn hp ha hb hpre
    by_cases h1 : 1 < b.length
    · obtain ⟨a1, a2, a3⟩ := ha
      obtain ⟨b1, b2, b3⟩ := hb
      have e : (pre ++ [a, b]).length = pre.length + 2 := by simp
      obtain ⟨w1, w2⟩ := head pre a b (by omega)
      obtain ⟨e1, e2, e3, e4⟩ := remF_ev a b (by omega) (by omega) (by omega) a1 a2 b1 b2
      simp only [chL, if_pos h1]
      cases hok : (remF a b).2 with
      | true =>
        rw [if_pos rfl]
        obtain ⟨r1, r2, r3⟩ := e3 hok
        have hr : niceC (negI (remF a b).1) := ⟨neg_bound _ _ ⟨by omega, by omega⟩ r2, neg_tight _ _ ⟨by omega, by omega⟩ r2 r3, by rw [negI_length]; omega⟩
        have ea : pre ++ [a, b] ++ [negI (remF a b).1] = (pre ++ [a]) ++ [b, negI (remF a b).1] := by simp
        have hpre2 : ∀ q ∈ pre ++ [a], niceC q := by
          intro q hq
          rcases List.mem_append.1 hq with h | h
          · exact hpre q h
          · rw [List.mem_singleton.1 h]; exact ⟨a1, a2, a3⟩
        obtain ⟨i1, i2, i3, i4, i5⟩ := ih (pre ++ [a]) b (negI (remF a b).1) (by rw [negI_length]; omega) (by simp; omega) ⟨b1, b2, b3⟩ hr hpre2
        rw [ea]
        refine ⟨?_, ?_, i3, by rw [List.length_append] at i4; simp only [List.length_cons, List.length_nil] at i4; omega, i5⟩
        · refine Ev.step (fun z => rfl) ?_
          simp only [spec_stChain.l0]
          rw [w1, w2, L1_last, L1_prev]
          refine Ev_if (fun _ => Ev_if (fun _ => Ev_if (fun _ => Ev_if (fun _ => Ev_if (fun _ => Ev.bind e1 ?_) (fun h => by omega)) (fun h => by omega)) (fun h => by omega)) (fun h => by omega)) (fun h => by omega)
          rw [hok]
          refine Ev_if (fun _ => Ev.bind (stMinus_ev _ (by omega)) (Ev_if (fun _ => ?_) (fun h => by omega))) (fun h => absurd rfl h)
          rw [ea]; exact i1
        · refine Ev.step (fun z => rfl) ?_
          simp only [impl_sturmChain.l0]
          rw [w1, w2, L1_last, L1_prev]
          refine Ev_if (fun _ => Ev_if (fun _ => Ev_if (fun _ => Ev_if (fun _ => Ev_if (fun _ => Ev.bind e2 ?_) (fun h => by omega)) (fun h => by omega)) (fun h => by omega)) (fun h => by omega)) (fun h => by omega)
          rw [hok]
          refine Ev_if (fun _ => Ev.bind (negated_ev _ (by omega)) (Ev_if (fun _ => ?_) (fun h => by omega))) (fun h => absurd rfl h)
          rw [ea, show wrap64 (((pre ++ [a, b]).length : Int) + 1) = (((pre ++ [a]) ++ [b, negI (remF a b).1]).length : Int) by rw [e, show ((pre ++ [a]) ++ [b, negI (remF a b).1]).length = pre.length + 3 by simp]; unfold wrap64; omega]
          exact i2
      | false =>
        rw [if_neg (by decide)]
        refine ⟨?_, ?_, (fun q hq => by cases hq), by simp, fun _ => rfl⟩
        · refine Ev.step (fun z => rfl) ?_
          simp only [spec_stChain.l0]
          rw [w1, w2, L1_last, L1_prev]
          refine Ev_if (fun _ => Ev_if (fun _ => Ev_if (fun _ => Ev_if (fun _ => Ev_if (fun _ => Ev.bind e1 ?_) (fun h => by omega)) (fun h => by omega)) (fun h => by omega)) (fun h => by omega)) (fun h => by omega)
          rw [hok]
          exact Ev_if (fun h => by cases h) (fun _ => Ev.now _)
        · refine Ev.step (fun z => rfl) ?_
          simp only [impl_sturmChain.l0]
          rw [w1, w2, L1_last, L1_prev]
          refine Ev_if (fun _ => Ev_if (fun _ => Ev_if (fun _ => Ev_if (fun _ => Ev_if (fun _ => Ev.bind e2 ?_) (fun h => by omega)) (fun h => by omega)) (fun h => by omega)) (fun h => by omega)) (fun h => by omega)
          rw [hok]
          exact Ev_if (fun h => by cases h) (fun _ => Ev.now _)
    · obtain ⟨s1, s2⟩ := stop pre a b (by omega) h1
      simp only [chL, if_neg h1]
      exact ⟨s1, s2, hall pre a b ha hb hpre, by simp, fun h => by cases h⟩
theorem co_eqZero (l : List Int) (h : l.length = 0) (k : Nat) : co l k = 0 := co_Sup l k (by omega)
theorem chL_pos (s : List Int) (hs : NoSq s) (n : Nat) : ∀ (pre : List (List Int)) (a b : List Int), b.length ≤ n → niceC a → niceC b → 0 < b.length → (∀ q ∈ pre ++ [a, b], 0 < q.length) →
    (∀ D : (Nat → Int) → Prop, Cl D → D (co a) → D (co b) → D (co s) ∧ D (sA (co s))) → ∀ q ∈ (chL n (pre ++ [a, b]) a b).1, 0 < q.length := by
  induction n with
  | zero => intro pre a b _ _ _ _ hall _; exact hall
  | succ n ih =>
    intro pre a b hn ha hb hb0 hall hcl
    simp only [chL]
    by_cases h1 : 1 < b.length
    · rw [if_pos h1]
      obtain ⟨a1, a2, a3⟩ := ha
      obtain ⟨b1, b2, b3⟩ := hb
      obtain ⟨e1, e2, e3, e4⟩ := remF_ev a b (by omega) (by omega) hb0 a1 a2 b1 b2
      by_cases hok : (remF a b).2 = true
      · rw [if_pos hok]
        obtain ⟨r1, r2, r3⟩ := e3 hok
        have back : ∀ D : (Nat → Int) → Prop, Cl D → D (co b) → D (co (remF a b).1) → D (co a) := by
          intro D hD f1 f2
          have h3 := remL_cl hD b hb0 b1 (b2 hb0) _ (partI a) (part_bound a _ a1) hok f1 f2
          have h4 := hD.mul (contentI 0 a) _ h3
          exact (show (fun k => contentI 0 a * co (partI a) k) = co a by funext k; exact (co_part a k).symm) ▸ h4
        have hr0 : 0 < (remF a b).1.length := by
          rcases Nat.eq_zero_or_pos (remF a b).1.length with h0 | h0
          · exfalso
            have hz : Mult b (co (remF a b).1) := by
              have h5 := (Mult_cl b).mul 0 _ (Mult_self b)
              exact (show (fun k => 0 * co b k) = co (remF a b).1 by funext k; rw [co_eqZero _ h0 k]; simp) ▸ h5
            obtain ⟨g1, g2⟩ := hcl (Mult b) (Mult_cl b) (back _ (Mult_cl b) (Mult_self b) hz) (Mult_self b)
            exact hs b h1 (b2 hb0) g1 g2
          · exact h0
        have ea : pre ++ [a, b] ++ [negI (remF a b).1] = (pre ++ [a]) ++ [b, negI (remF a b).1] := by simp
        rw [ea]
        refine ih (pre ++ [a]) b (negI (remF a b).1) (by rw [negI_length]; omega) ⟨b1, b2, b3⟩ ⟨neg_bound _ _ ⟨by omega, by omega⟩ r2, neg_tight _ _ ⟨by omega, by omega⟩ r2 r3, by rw [negI_length]; omega⟩ (by rw [negI_length]; exact hr0) ?_ ?_
        · intro q hq
          rw [← ea] at hq
          rcases List.mem_append.1 hq with h | h
          · exact hall q h
          · rw [List.mem_singleton.1 h, negI_length]; exact hr0
        · intro D hD f1 f2
          refine hcl D hD (back D hD f1 ?_) f1
          have h6 := hD.mul (-1) _ f2
          exact (show (fun k => -1 * co (negI (remF a b).1) k) = co (remF a b).1 by funext k; rw [co_neg _ 1000000000 ⟨by omega, by omega⟩ r2 k]; omega) ▸ h6
      · rw [if_neg hok]; intro q hq; cases hq
    · rw [if_neg h1]; exact hall
theorem derW_rd (l : List Int) (hl : l.length ≤ 9) (hb : boundB l 1000000000) (hw : ∀ j : Nat, j < l.length → -1000000000 ≤ (j : Int) * rd l (j : Int) ∧ (j : Int) * rd l (j : Int) ≤ 1000000000) : boundB (derF l 1 (l.length - 1)) 1000000000 := by
  intro x hx
  obtain ⟨j, hj, rfl⟩ := List.getElem_of_mem hx
  rw [derF_length] at hj
  have h1 := derF_rd l hl 1000000000 ⟨by omega, by omega⟩ hb j hj
  rw [rd_getElem _ j (by rw [derF_length]; exact hj)] at h1
  rw [h1]
  exact hw (j + 1) (by omega)
theorem derW_tight (l : List Int) (hl : l.length ≤ 9) (hb : boundB l 1000000000) (ht : tight l) : tight (derF l 1 (l.length - 1)) := by
  intro h0
  rw [derF_length] at h0 ⊢
  have e : (((l.length - 1 : Nat) : Int) - 1) = ((l.length - 2 : Nat) : Int) := by omega
  rw [e, derF_rd l hl 1000000000 ⟨by omega, by omega⟩ hb (l.length - 2) (by omega)]
  have e2 : ((l.length - 2 + 1 : Nat) : Int) = (l.length : Int) - 1 := by omega
  rw [e2]
  exact Int.mul_ne_zero (by omega) (ht (by omega))
theorem chain_ev (p : List Int) (hg : goodB p = true) (h0 : 0 < p.length) :
    ∃ c ok, Ev (fun z => spec_stChain.f z p) (c, ok) ∧ Ev (fun z => impl_sturmChain.f z p) (c, ok) ∧ (∀ q ∈ c, niceC q ∧ 0 < q.length) ∧ c.length ≤ 11 ∧ (ok = false → c = []) := by
  obtain ⟨s, ok, e1, e2, e3, e5, e4⟩ := free_ev p hg h0
  cases ok with
  | false =>
    refine ⟨[], false, ?_, ?_, (fun q hq => by cases hq), by simp, fun _ => rfl⟩
    · exact Ev.bind e1 (Ev_if (fun h => by cases h) (fun _ => Ev.now _))
    · exact Ev.bind e2 (Ev_if (fun h => by cases h) (fun _ => Ev.now _))
  | true =>
    obtain ⟨s0, s1, s2, s3, s4⟩ := e3 rfl
    have hns := e5 rfl
    by_cases h1 : 1 < s.length
    · have hDb := derW_rd s s1 s3 s4
      have hDt := derW_tight s s1 s3 s2
      have hDl := derF_length s (s.length - 1) 1
      have hkeep : trimI (derF s 1 (s.length - 1)) = derF s 1 (s.length - 1) := trimI_keep _ (by omega) (hDt (by omega))
      have d1 := sgPart_ev (derF s 1 (s.length - 1)) (by omega) 1000000000 ⟨by omega, by omega⟩ hDb hDt
      have d2 := divided_ev (derF s 1 (s.length - 1)) (by omega) 1000000000 ⟨by omega, by omega⟩ hDb hDt
      have dd := derive_ev s (by omega)
      rw [hkeep] at dd
      obtain ⟨b, hb⟩ : ∃ b, partI (derF s 1 (s.length - 1)) = b := ⟨_, rfl⟩
      have hbl : b.length = s.length - 1 := by rw [← hb, part_length]; exact hDl
      have nb : niceC b := ⟨by rw [← hb]; exact part_bound _ _ hDb, by rw [← hb]; exact tight_part _ hDt, by omega⟩
      have na : niceC s := ⟨s3, s2, s1⟩
      rw [hb] at d1 d2
      obtain ⟨i1, i2, i3, i4, i5⟩ := chL_ev 9 [] s b (by omega) (by simp) na nb (fun q hq => by cases hq)
      have ip := chL_pos s hns 9 [] s b (by omega) na nb (by omega) (by
        intro q hq
        rcases List.mem_cons.1 hq with rfl | h
        · omega
        · rw [List.mem_singleton.1 h]; omega) (by
        intro D hD f1 f2
        refine ⟨f1, ?_⟩
        rw [← derF_co s s1 1000000000 ⟨by omega, by omega⟩ s3]
        have h4 := hD.mul (contentI 0 (derF s 1 (s.length - 1))) _ f2
        exact (show (fun k => contentI 0 (derF s 1 (s.length - 1)) * co b k) = co (derF s 1 (s.length - 1)) by funext k; rw [← hb]; exact (co_part _ k).symm) ▸ h4)
      refine ⟨_, _, ?_, ?_, fun q hq => ⟨i3 q hq, ip q hq⟩, by simpa using i4, i5⟩
      · refine Ev.bind e1 (Ev_if (fun _ => Ev_bindS rfl (Ev_if (fun _ => Ev.bind (sgDerive_ev s (by omega)) (Ev.bind d1 (Ev_if (fun _ => ?_) (fun h => absurd (by simp) h)))) (fun h => by simp only at h; omega))) (fun h => absurd rfl h))
        exact Ev.step (fun z => rfl) (by simp only [spec_stChain.j0]; exact i1)
      · refine Ev.bind e2 (Ev_if (fun _ => Ev_bindS rfl (Ev_if (fun _ => Ev.bind dd (Ev.bind d2 (Ev_if (fun _ => ?_) (fun h => absurd (by simp) h)))) (fun h => by simp only at h; omega))) (fun h => absurd rfl h))
        exact Ev.step (fun z => rfl) (by simp only [impl_sturmChain.j0]; exact i2)
    · have w1 : wrap64 ((([s] : List (List Int)).length : Int) - 1) = ((0 : Nat) : Int) := by show wrap64 (((1 : Nat) : Int) - 1) = _; unfold wrap64; omega
      have w3 : rd_L1 [s] ((0 : Nat) : Int) = s := rfl
      refine ⟨[s], true, ?_, ?_, fun q hq => by rw [List.mem_singleton.1 hq]; exact ⟨⟨s3, s2, s1⟩, s0⟩, by simp, fun h => by cases h⟩
      · refine Ev.bind e1 (Ev_if (fun _ => Ev_bindS rfl (Ev_if (fun h => by simp only at h; omega) (fun _ => ?_))) (fun h => absurd rfl h))
        refine Ev.step (fun z => rfl) ?_
        simp only [spec_stChain.j0]
        refine Ev.step (fun z => rfl) ?_
        simp only [spec_stChain.l0]
        rw [w1, w3]
        exact Ev_if (fun _ => Ev_if (fun _ => Ev_if (fun h => by omega) (fun _ => Ev.now _)) (fun h => absurd (by simp) h)) (fun h => by omega)
      · refine Ev.bind e2 (Ev_if (fun _ => Ev_bindS rfl (Ev_if (fun h => by simp only at h; omega) (fun _ => ?_))) (fun h => absurd rfl h))
        refine Ev.step (fun z => rfl) ?_
        simp only [impl_sturmChain.j0]
        refine Ev.step (fun z => rfl) ?_
        simp only [impl_sturmChain.l0]
        rw [w1, w3]
        exact Ev_if (fun _ => Ev_if (fun _ => Ev_if (fun h => by omega) (fun _ => Ev.now _)) (fun h => absurd (by simp) h)) (fun h => by omega)
theorem stAsked_ev (p : List Int) (hp : p.length ≤ 1000000) : Ev (fun k => spec_stAsked.f k p) (goodB p && decide ((p.length : Int) > 0)) := by
  unfold spec_stAsked.f
  refine Ev.bind (sgGood_ev p hp) ?_
  cases goodB p with
  | true => exact Ev_if (fun _ => Ev.now _) (fun h => absurd rfl h)
  | false => exact Ev_if (fun h => by cases h) (fun _ => Ev.now _)
theorem total_le9 (c : List (List Int)) (h : ∀ q ∈ c, q.length ≤ 9) : total c ≤ 9 * c.length := by
  induction c with
  | nil => simp [total]
  | cons q t ih =>
    have h1 := h q List.mem_cons_self
    have h2 := ih (fun z hz => h z (List.mem_cons_of_mem _ hz))
    have e : total (q :: t) = q.length + total t := by simp [total]
    simp only [List.length_cons]
    omega
theorem Pure_holds : Pure := by
  intro p hpd
  have hp : p.length ≤ 1000000 := by omega
  have key : ∃ r1 r2, Ev (fun k => spec_SturmChain.f k p) (r1, r2) ∧ Ev (fun k => impl_SturmChain.f k p) (r1, r2) ∧ r1.length + total r1 ≤ 1000000 := by
    cases hgp : goodB p with
    | false =>
      refine ⟨[], false, ?_, ?_, by simp [total]⟩
      · refine Ev.bind (stAsked_ev p hp) ?_; rw [hgp]
        exact Ev_if (fun h => by cases h) (fun _ => Ev.now _)
      · refine Ev.bind (isSingle_ev p hp) ?_; rw [hgp]
        exact Ev_if (fun h => by cases h) (fun _ => Ev.now _)
    | true =>
      by_cases h0 : p.length = 0
      · have e : ((p.length : Int) == 0) = true := by rw [h0]; rfl
        have e' : decide ((p.length : Int) > 0) = false := by rw [h0]; rfl
        refine ⟨[], false, ?_, ?_, by simp [total]⟩
        · refine Ev.bind (stAsked_ev p hp) ?_; rw [hgp, e']
          exact Ev_if (fun h => by cases h) (fun _ => Ev.now _)
        · refine Ev.bind (isSingle_ev p hp) ?_; rw [hgp]
          exact Ev_if (fun _ => Ev_if (fun _ => Ev.now _) (fun h => absurd (by rw [h0]; rfl) h)) (fun h => absurd rfl h)
      · have e : ((p.length : Int) == 0) = false := by simp only [beq_eq_false_iff_ne]; omega
        have e' : decide ((p.length : Int) > 0) = true := decide_eq_true (by omega)
        obtain ⟨c, ok, e1, e2, e3, e4, e5⟩ := chain_ev p hgp (by omega)
        have ht := total_le9 c (fun q hq => (e3 q hq).1.2.2)
        refine ⟨c, ok, ?_, ?_, by omega⟩
        · refine Ev.bind (stAsked_ev p hp) ?_; rw [hgp, e']
          exact Ev_if (fun _ => Ev.bind e1 (Ev.now _)) (fun h => absurd rfl h)
        · refine Ev.bind (isSingle_ev p hp) ?_; rw [hgp]
          exact Ev_if (fun _ => Ev_if (fun h => by omega) (fun _ => Ev.bind e2 (Ev.now _))) (fun h => absurd rfl h)
  obtain ⟨r1, r2, h1, h2, h3⟩ := key
  obtain ⟨ks, ki, h, h'⟩ := Ev_both h1 h2
  exact ⟨ks, ki, r1, r2, h, h', h3⟩
end Go.Proofs.Ytcgcgifndkeeoaa.QStu
