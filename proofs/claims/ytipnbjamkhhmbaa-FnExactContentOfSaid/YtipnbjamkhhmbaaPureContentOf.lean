/- Plain law: the reference's and the program's ContentOf come to the same, over numbers and lists alone. -/
import Derived.Test.YtipnbjamkhhmbaaLContentOf
namespace Go.Proofs.Ytipnbjamkhhmbaa.QContentOf
open Go.RowKit Go.Proofs.YtipnbjamkhhmbaaW.PrintWords Go.Proofs.YtipnbjamkhhmbaaW.PrintLast Go.Proofs.YtipnbjamkhhmbaaW.PrintMore
set_option linter.unusedVariables false
set_option linter.unusedSimpArgs false
theorem l1In_eq (a b c : Int) : spec_l1In.f a b c = some (decide (b ≤ a ∧ a ≤ c)) := by
  unfold spec_l1In.f; by_cases h : b ≤ a <;> simp [h]
theorem inside_eq (a b c : Int) : impl_inside.f a b c = some (decide (b ≤ a ∧ a ≤ c)) := by
  unfold impl_inside.f; by_cases h : b ≤ a <;> simp [h]
theorem rd_getElem (l : List Int) (i : Nat) (h : i < l.length) : rd l (i : Int) = l[i] := by simp [rd, h]
theorem wrap_next (i : Nat) (h : i < 9223372036854775807) : wrap64 ((i : Int) + 1) = ((i + 1 : Nat) : Int) := by unfold wrap64; omega
theorem all_drop (l : List Int) (p : Int → Bool) (i : Nat) (h : i < l.length) : (l.drop i).all p = (p (rd l (i : Int)) && (l.drop (i + 1)).all p) := by
  rw [List.drop_eq_getElem_cons h, List.all_cons, rd_getElem l i h]
theorem l1All_l0 (l : List Int) (lo hi : Int) (hl : l.length ≤ 1000000) (d : Nat) : ∀ (k i : Nat), i ≤ l.length → l.length - i = d → d < k → spec_l1All.l0 k lo hi l (l.length : Int) (i : Int) = some ((l.drop i).all fun x => decide (lo ≤ x ∧ x ≤ hi)) := by
  induction d with
  | zero =>
    intro k i h1 hd hk
    obtain ⟨k, rfl⟩ : ∃ m, k = m + 1 := ⟨k - 1, by omega⟩
    simp only [spec_l1All.l0]; rw [if_neg (by omega), List.drop_eq_nil_of_le (by omega)]; rfl
  | succ d ih =>
    intro k i h1 hd hk
    obtain ⟨k, rfl⟩ : ∃ m, k = m + 1 := ⟨k - 1, by omega⟩
    simp only [spec_l1All.l0]
    rw [if_pos (by omega), if_pos (by omega), if_pos (by omega), l1In_eq, Option.bind_some, wrap_next i (by omega), all_drop l _ i (by omega)]
    by_cases hp : lo ≤ rd l (i : Int) ∧ rd l (i : Int) ≤ hi
    · rw [if_pos (decide_eq_true hp), decide_eq_true hp, ih k (i + 1) (by omega) (by omega) (by omega)]; rfl
    · rw [if_neg (by rw [decide_eq_false hp]; decide), decide_eq_false hp]; rfl
theorem l1All_eq (l : List Int) (lo hi : Int) (hl : l.length ≤ 1000000) (k : Nat) (hk : l.length < k) : spec_l1All.f k l lo hi = some (l.all fun x => decide (lo ≤ x ∧ x ≤ hi)) := by
  unfold spec_l1All.f
  have h := l1All_l0 l lo hi hl l.length k 0 (by omega) (by omega) hk
  simpa using h
def smallB (l : List Int) : Bool := l.all fun x => decide ((-1000000) ≤ x ∧ x ≤ 1000000)
def lastB (l : List Int) : Bool := if l.length = 0 then true else (rd l ((l.length : Int) - 1) != 0)
/-- A single polynomial. -/
def goodB (l : List Int) : Bool := decide (l.length ≤ 9) && (smallB l && lastB l)
theorem sgGood_eq (l : List Int) (hl : l.length ≤ 1000000) (k : Nat) (hk : l.length < k) : spec_sgGood.f k l = some (goodB l) := by
  unfold spec_sgGood.f goodB
  by_cases h9 : l.length ≤ 9
  · rw [if_neg (by omega), l1All_eq l _ _ hl k hk, Option.bind_some, decide_eq_true h9, Bool.true_and]
    change (if smallB l = true then _ else _) = _
    cases hs : smallB l with
    | false => rfl
    | true =>
      rw [if_pos rfl, Bool.true_and]
      unfold lastB
      by_cases h0 : l.length = 0
      · rw [if_pos (by omega), if_pos h0]
      · rw [if_neg (by omega), if_neg h0, show wrap64 ((l.length : Int) - 1) = (l.length : Int) - 1 by unfold wrap64; omega, if_pos (by omega), if_pos (by omega)]
  · rw [if_pos (by omega), decide_eq_false h9]; rfl
theorem isSingle_l0 (l : List Int) (hl : l.length ≤ 1000000) (d : Nat) : ∀ (k i : Nat), i ≤ l.length → l.length - i = d → d < k → impl_isSingle.l0 k l l (l.length : Int) (i : Int) = some (((l.drop i).all fun x => decide ((-1000000) ≤ x ∧ x ≤ 1000000)) && (if l.length = 0 then true else decide (l.length ≤ 9) && (rd l ((l.length : Int) - 1) != 0))) := by
  induction d with
  | zero =>
    intro k i h1 hd hk
    obtain ⟨k, rfl⟩ : ∃ m, k = m + 1 := ⟨k - 1, by omega⟩
    simp only [impl_isSingle.l0]; rw [if_neg (by omega), List.drop_eq_nil_of_le (by omega)]
    by_cases h0 : l.length = 0
    · rw [if_pos (by omega), if_pos h0]; rfl
    · rw [if_neg (by omega), if_neg h0]
      by_cases h9 : l.length ≤ 9
      · rw [if_pos (by omega), show wrap64 ((l.length : Int) - 1) = (l.length : Int) - 1 by unfold wrap64; omega, if_pos (by omega), if_pos (by omega), decide_eq_true h9]; rfl
      · rw [if_neg (by omega), decide_eq_false h9]; rfl
  | succ d ih =>
    intro k i h1 hd hk
    obtain ⟨k, rfl⟩ : ∃ m, k = m + 1 := ⟨k - 1, by omega⟩
    simp only [impl_isSingle.l0]
    rw [if_pos (by omega), if_pos (by omega), if_pos (by omega), inside_eq, Option.bind_some, wrap_next i (by omega), all_drop l _ i (by omega)]
    by_cases hp : (-1000000) ≤ rd l (i : Int) ∧ rd l (i : Int) ≤ 1000000
    · rw [if_pos (decide_eq_true hp), decide_eq_true hp, ih k (i + 1) (by omega) (by omega) (by omega)]; rfl
    · rw [if_neg (by rw [decide_eq_false hp]; decide), decide_eq_false hp]; rfl
theorem isSingle_eq (l : List Int) (hl : l.length ≤ 1000000) (k : Nat) (hk : l.length < k) : impl_isSingle.f k l = some (goodB l) := by
  unfold impl_isSingle.f
  have h := isSingle_l0 l hl l.length k 0 (by omega) (by omega) hk
  simp only [List.drop_zero] at h
  rw [show ((0 : Nat) : Int) = 0 from rfl] at h
  rw [h]
  congr 1
  unfold goodB lastB
  change (smallB l && _) = _
  cases smallB l <;> by_cases h0 : l.length = 0 <;> simp [h0]
theorem sgGood_ev (l : List Int) (hl : l.length ≤ 1000000) : Ev (fun k => spec_sgGood.f k l) (goodB l) := ⟨l.length + 1, fun k hk => sgGood_eq l hl k (by omega)⟩
theorem isSingle_ev (l : List Int) (hl : l.length ≤ 1000000) : Ev (fun k => impl_isSingle.f k l) (goodB l) := ⟨l.length + 1, fun k hk => isSingle_eq l hl k (by omega)⟩
theorem good_bound (l : List Int) (h : goodB l = true) : ∀ x ∈ l, (-1000000 : Int) ≤ x ∧ x ≤ 1000000 := by
  unfold goodB smallB at h
  simp only [Bool.and_eq_true, List.all_eq_true, decide_eq_true_eq] at h
  exact h.2.1
theorem good_length (l : List Int) (h : goodB l = true) : l.length ≤ 9 := by
  unfold goodB at h
  simp only [Bool.and_eq_true, decide_eq_true_eq] at h
  exact h.1
theorem good_last (l : List Int) (h : goodB l = true) (h0 : 0 < l.length) : rd l ((l.length : Int) - 1) ≠ 0 := by
  unfold goodB lastB at h
  simp only [Bool.and_eq_true] at h
  have := h.2.2
  rw [if_neg (by omega)] at this
  simpa using this
theorem Ev_both {α β : Type} {g : Nat → Option α} {f : Nat → Option β} {r : α} {q : β} (h : Ev g r) (h' : Ev f q) : ∃ ks ki, g ks = some r ∧ f ki = some q := by
  obtain ⟨a, ha⟩ := h.rounds
  obtain ⟨b, hb⟩ := h'.rounds
  exact ⟨a, b, ha, hb⟩
def absI (x : Int) : Int := (x.natAbs : Int)
theorem l1Abs_eq (x : Int) (h : -4611686018427387904 ≤ x ∧ x ≤ 4611686018427387904) : spec_l1Abs.f x = some (absI x) := by
  unfold spec_l1Abs.f spec_l1Most.f absI
  have : wrap64 (-x) = -x := by unfold wrap64; omega
  rw [this]
  by_cases hx : x > -x
  · rw [if_pos hx]; simp only [Option.bind_some]; congr 1; omega
  · rw [if_neg hx]; simp only [Option.bind_some]; congr 1; omega
theorem mxAbs_eq (x : Int) (h : -4611686018427387904 ≤ x ∧ x ≤ 4611686018427387904) : mx x (wrap64 (-x)) = absI x := by
  have : wrap64 (-x) = -x := by unfold wrap64; omega
  rw [this]; unfold mx absI; split <;> omega
theorem Ev_if {α : Type} {c : Prop} [Decidable c] {g f : Nat → Option α} {r : α} (hp : c → Ev g r) (hn : ¬ c → Ev f r) : Ev (fun k => if c then g k else f k) r := by
  by_cases h : c
  · simp only [if_pos h]; exact hp h
  · simp only [if_neg h]; exact hn h
theorem Ev_bindS {α β : Type} {a : Option α} {x : α} {f : Nat → α → Option β} {r : β} (h : a = some x) (k : Ev (fun n => f n x) r) : Ev (fun n => a.bind (f n)) r := by
  subst h; simpa only [Option.bind_some] using k
theorem Ev_eq {α : Type} {g : Nat → Option α} {r r' : α} (h : Ev g r) (e : r = r') : Ev g r' := e ▸ h
theorem gcd_tmod (a b : Int) : Int.gcd b (Int.tmod a b) = Int.gcd a b := by
  have h : Int.tmod a b = a - b * Int.tdiv a b := by have := Int.mul_tdiv_add_tmod a b; omega
  rw [h, Int.gcd_comm, show a - b * Int.tdiv a b = a + b * (-(Int.tdiv a b)) by rw [Int.mul_neg]; omega, Int.gcd_add_mul_left_left]
theorem sgGcd_l0 (n : Nat) : ∀ (a b : Int), 0 ≤ a → 0 ≤ b → b.natAbs < n → Ev (fun k => spec_sgGcd.l0 k a b) ((Int.gcd a b : Nat) : Int) := by
  induction n with
  | zero => intro a b _ _ h; omega
  | succ n ih =>
    intro a b ha hb hn
    refine Ev.step (fun k => rfl) ?_
    refine Ev_if (fun h => Ev_if (fun h2 => by omega) (fun h2 => ?_)) (fun h => ?_)
    · have e : Int.tmod a b = a % b := Int.tmod_eq_emod_of_nonneg ha
      have h0 := Int.emod_nonneg a (show b ≠ 0 by omega)
      have h1 := Int.emod_lt_of_pos a (show 0 < b by omega)
      rw [e]
      refine Ev_eq (ih b (a % b) hb h0 (by omega)) ?_
      rw [← e, gcd_tmod]
    · have : b = 0 := by omega
      subst this
      refine Ev_eq (Ev.now _) ?_
      simp; omega
theorem tmod_lt (a b : Int) (hb : b ≠ 0) : (Int.tmod a b).natAbs < b.natAbs := by
  rw [Int.natAbs_tmod]; exact Nat.mod_lt _ (by omega)
theorem gcd_l0 (n : Nat) : ∀ (a b : Int), -4611686018427387904 ≤ a ∧ a ≤ 4611686018427387904 → -4611686018427387904 ≤ b ∧ b ≤ 4611686018427387904 → b.natAbs < n → Ev (fun k => impl_gcd.l0 k a b) ((Int.gcd a b : Nat) : Int) := by
  induction n with
  | zero => intro a b _ _ h; omega
  | succ n ih =>
    intro a b ha hb hn
    refine Ev.step (fun k => rfl) ?_
    refine Ev_if (fun h => ?_) (fun h => ?_)
    · subst h
      refine Ev_eq (Ev.now _) ?_
      rw [mxAbs_eq a ha]; simp [absI]
    · have h1 := tmod_lt a b h
      refine Ev_eq (ih b (Int.tmod a b) hb ⟨by omega, by omega⟩ (by omega)) ?_
      rw [gcd_tmod]
theorem sgGcd_eq (a b : Int) (ha : 0 ≤ a) (hb : 0 ≤ b) : Ev (fun k => spec_sgGcd.f k a b) ((Int.gcd a b : Nat) : Int) := sgGcd_l0 (b.natAbs + 1) a b ha hb (by omega)
theorem gcd_eq (a b : Int) (ha : -4611686018427387904 ≤ a ∧ a ≤ 4611686018427387904) (hb : -4611686018427387904 ≤ b ∧ b ≤ 4611686018427387904) : Ev (fun k => impl_gcd.f k a b) ((Int.gcd a b : Nat) : Int) := gcd_l0 (b.natAbs + 1) a b ha hb (by omega)
def boundB (l : List Int) (m : Int) : Prop := ∀ x ∈ l, -m ≤ x ∧ x ≤ m
def contentI (d : Int) (l : List Int) : Int := l.foldl (fun d c => ((Int.gcd d c : Nat) : Int)) d
theorem rd_mem (l : List Int) (i : Nat) (h : i < l.length) : rd l (i : Int) ∈ l := by rw [rd_getElem l i h]; exact List.getElem_mem h
theorem drop_rd (l : List Int) (i : Nat) (h : i < l.length) : l.drop i = rd l (i : Int) :: l.drop (i + 1) := by rw [rd_getElem l i h]; exact List.drop_eq_getElem_cons h
theorem gcd_bound (d c m : Int) (hd : 0 ≤ d ∧ d ≤ m) (hc : -m ≤ c ∧ c ≤ m) : 0 ≤ ((Int.gcd d c : Nat) : Int) ∧ ((Int.gcd d c : Nat) : Int) ≤ m := by
  refine ⟨by omega, ?_⟩
  by_cases h : c = 0
  · subst h; simp; omega
  · have h1 := Nat.le_of_dvd (show 0 < c.natAbs by omega) (Int.gcd_dvd_natAbs_right d c)
    omega
theorem sgContent_l0 (l : List Int) (hl : l.length ≤ 1000000) (m : Int) (hm : 0 ≤ m ∧ m ≤ 4611686018427387904) (hb : boundB l m) (n : Nat) : ∀ (i : Nat) (d : Int), i ≤ l.length → l.length - i = n → 0 ≤ d ∧ d ≤ m → Ev (fun k => spec_sgContent.l0 k d l (l.length : Int) (i : Int)) (contentI d (l.drop i)) := by
  induction n with
  | zero =>
    intro i d hi hn hd
    refine Ev.step (fun k => rfl) ?_
    refine Ev_if (fun h => by omega) (fun h => ?_)
    rw [List.drop_eq_nil_of_le (by omega)]; exact Ev.now _
  | succ n ih =>
    intro i d hi hn hd
    have hr := hb _ (rd_mem l i (by omega))
    refine Ev.step (fun k => rfl) ?_
    refine Ev_if (fun h => Ev_if (fun h2 => Ev_if (fun h3 => ?_) (fun h3 => by omega)) (fun h2 => by omega)) (fun h => by omega)
    refine Ev_bindS (l1Abs_eq _ ⟨by omega, by omega⟩) ?_
    refine Ev.bind (sgGcd_eq d _ hd.1 (by unfold absI; omega)) ?_
    rw [wrap_next i (by omega), drop_rd l i (by omega)]
    have e : ((Int.gcd d (absI (rd l (i : Int))) : Nat) : Int) = ((Int.gcd d (rd l (i : Int)) : Nat) : Int) := by unfold absI; simp [Int.gcd]
    rw [e]
    exact ih (i + 1) _ (by omega) (by omega) (gcd_bound d _ m hd hr)
theorem sgContent_eq (l : List Int) (hl : l.length ≤ 1000000) (m : Int) (hm : 0 ≤ m ∧ m ≤ 4611686018427387904) (hb : boundB l m) : Ev (fun k => spec_sgContent.f k l) (contentI 0 l) := by
  have h := sgContent_l0 l hl m hm hb l.length 0 0 (by omega) (by omega) ⟨by omega, by omega⟩
  simpa [spec_sgContent.f] using h
theorem contentOf_l0 (l : List Int) (hl : l.length ≤ 1000000) (m : Int) (hm : 0 ≤ m ∧ m ≤ 4611686018427387904) (hb : boundB l m) (n : Nat) : ∀ (i : Nat) (d : Int), i ≤ l.length → l.length - i = n → 0 ≤ d ∧ d ≤ m → Ev (fun k => impl_contentOf.l0 k d l (l.length : Int) (i : Int)) (contentI d (l.drop i)) := by
  induction n with
  | zero =>
    intro i d hi hn hd
    refine Ev.step (fun k => rfl) ?_
    refine Ev_if (fun h => by omega) (fun h => ?_)
    rw [List.drop_eq_nil_of_le (by omega)]; exact Ev.now _
  | succ n ih =>
    intro i d hi hn hd
    have hr := hb _ (rd_mem l i (by omega))
    refine Ev.step (fun k => rfl) ?_
    refine Ev_if (fun h => Ev_if (fun h2 => Ev_if (fun h3 => ?_) (fun h3 => by omega)) (fun h2 => by omega)) (fun h => by omega)
    refine Ev.bind (gcd_eq d _ ⟨by omega, by omega⟩ ⟨by omega, by omega⟩) ?_
    rw [wrap_next i (by omega), drop_rd l i (by omega)]
    exact ih (i + 1) _ (by omega) (by omega) (gcd_bound d _ m hd hr)
theorem contentOf_eq (l : List Int) (hl : l.length ≤ 1000000) (m : Int) (hm : 0 ≤ m ∧ m ≤ 4611686018427387904) (hb : boundB l m) : Ev (fun k => impl_contentOf.f k l) (contentI 0 l) := by
  have h := contentOf_l0 l hl m hm hb l.length 0 0 (by omega) (by omega) ⟨by omega, by omega⟩
  simpa [impl_contentOf.f] using h
theorem Pure_holds : Pure := by
  intro l hl _
  have key : ∃ r1 r2, Ev (fun k => spec_ContentOf.f k l) (r1, r2) ∧ Ev (fun k => impl_ContentOf.f k l) (r1, r2) := by
    cases hg : goodB l with
    | false =>
      refine ⟨0, false, ?_, ?_⟩
      · refine Ev.bind (sgGood_ev l hl) ?_; rw [hg]; exact Ev.now _
      · refine Ev.bind (isSingle_ev l hl) ?_; rw [hg]; exact Ev.now _
    | true =>
      have hb : boundB l 1000000 := good_bound l hg
      refine ⟨contentI 0 l, true, ?_, ?_⟩
      · refine Ev.bind (sgGood_ev l hl) ?_; rw [hg]
        exact Ev.bind (sgContent_eq l hl 1000000 ⟨by omega, by omega⟩ hb) (Ev.now _)
      · refine Ev.bind (isSingle_ev l hl) ?_; rw [hg]
        exact Ev.bind (contentOf_eq l hl 1000000 ⟨by omega, by omega⟩ hb) (Ev.now _)
  obtain ⟨r1, r2, h1, h2⟩ := key
  obtain ⟨ks, ki, h⟩ := Ev_both h1 h2
  exact ⟨ks, ki, r1, r2, h⟩
end Go.Proofs.Ytipnbjamkhhmbaa.QContentOf
