/- Plain law: the reference's and the program's RootsBound come to the same, over numbers and lists alone. -/
import Derived.Test.YtolacpnhndbalaaLRootsBound
namespace Go.Proofs.Ytolacpnhndbalaa.QRootsBound
open Go.RowKit Go.Proofs.YtolacpnhndbalaaW.PrintWords Go.Proofs.YtolacpnhndbalaaW.PrintLast Go.Proofs.YtolacpnhndbalaaW.PrintMore
set_option linter.unusedVariables false
set_option linter.unusedSimpArgs false
theorem Ev_if {α : Type} {c : Prop} [Decidable c] {g f : Nat → Option α} {r : α} (hp : c → Ev g r) (hn : ¬ c → Ev f r) : Ev (fun k => if c then g k else f k) r := by
  by_cases h : c
  · simp only [if_pos h]; exact hp h
  · simp only [if_neg h]; exact hn h
theorem Ev_bindS {α β : Type} {a : Option α} {x : α} {f : Nat → α → Option β} {r : β} (h : a = some x) (k : Ev (fun n => f n x) r) : Ev (fun n => a.bind (f n)) r := by
  subst h; simpa only [Option.bind_some] using k
theorem Ev_eq {α : Type} {g : Nat → Option α} {r r' : α} (h : Ev g r) (e : r = r') : Ev g r' := e ▸ h
theorem Ev_both {α β : Type} {g : Nat → Option α} {f : Nat → Option β} {r : α} {q : β} (h : Ev g r) (h' : Ev f q) : ∃ ks ki, g ks = some r ∧ f ki = some q := by
  obtain ⟨a, ha⟩ := h.rounds
  obtain ⟨b, hb⟩ := h'.rounds
  exact ⟨a, b, ha, hb⟩
theorem l1In_eq (a b c : Int) : spec_l1In.f a b c = some (decide (b ≤ a ∧ a ≤ c)) := by
  unfold spec_l1In.f; by_cases h : b ≤ a <;> simp [h]
theorem inside_eq (a b c : Int) : impl_inside.f a b c = some (decide (b ≤ a ∧ a ≤ c)) := by
  unfold impl_inside.f; by_cases h : b ≤ a <;> simp [h]
theorem rd_getElem (l : List Int) (i : Nat) (h : i < l.length) : rd l (i : Int) = l[i] := by simp [rd, h]
theorem wrap_next (i : Nat) (h : i < 9223372036854775807) : wrap64 ((i : Int) + 1) = ((i + 1 : Nat) : Int) := by unfold wrap64; omega
theorem all_drop (l : List Int) (p : Int → Bool) (i : Nat) (h : i < l.length) : (l.drop i).all p = (p (rd l (i : Int)) && (l.drop (i + 1)).all p) := by
  rw [List.drop_eq_getElem_cons h, List.all_cons, rd_getElem l i h]
theorem rd_mem (l : List Int) (i : Nat) (h : i < l.length) : rd l (i : Int) ∈ l := by rw [rd_getElem l i h]; exact List.getElem_mem h
theorem drop_rd (l : List Int) (i : Nat) (h : i < l.length) : l.drop i = rd l (i : Int) :: l.drop (i + 1) := by rw [rd_getElem l i h]; exact List.drop_eq_getElem_cons h
theorem l1All_l0 (l : List Int) (lo hi : Int) (hl : l.length ≤ 1000000) (d : Nat) : ∀ (k i : Nat), i ≤ l.length → l.length - i = d → d < k → spec_l1All.l0 k lo hi l (l.length : Int) (i : Int) = some ((l.drop i).all fun x => decide (lo ≤ x ∧ x ≤ hi)) := by
  induction d with
  | zero =>
    intro k i h1 hd hk
    obtain ⟨k, rfl⟩ : ∃ m, k = m + 1 := ⟨k - 1, by omega⟩
    simp only [spec_l1All.l0]; rw [if_neg (by omega), List.drop_eq_nil_of_le (by omega)]; rfl
  | succ d ih =>
    intro k i h1 hd hk
    obtain ⟨k, rfl⟩ : ∃ m, k = m + 1 := ⟨k - 1, by omega⟩
    simp only [spec_l1All.l0]
    rw [if_pos (by omega), if_pos (by omega), if_pos (by omega), l1In_eq, Option.bind_some, wrap_next i (by omega), all_drop l _ i (by omega)]
    by_cases hp : lo ≤ rd l (i : Int) ∧ rd l (i : Int) ≤ hi
    · rw [if_pos (decide_eq_true hp), decide_eq_true hp, ih k (i + 1) (by omega) (by omega) (by omega)]; rfl
    · rw [if_neg (by rw [decide_eq_false hp]; decide), decide_eq_false hp]; rfl
theorem l1All_eq (l : List Int) (lo hi : Int) (hl : l.length ≤ 1000000) (k : Nat) (hk : l.length < k) : spec_l1All.f k l lo hi = some (l.all fun x => decide (lo ≤ x ∧ x ≤ hi)) := by
  unfold spec_l1All.f
  have h := l1All_l0 l lo hi hl l.length k 0 (by omega) (by omega) hk
  simpa using h
def smallB (l : List Int) : Bool := l.all fun x => decide ((-1000000) ≤ x ∧ x ≤ 1000000)
def lastB (l : List Int) : Bool := if l.length = 0 then true else (rd l ((l.length : Int) - 1) != 0)
/-- A single polynomial. -/
def goodB (l : List Int) : Bool := decide (l.length ≤ 9) && (smallB l && lastB l)
theorem sgGood_eq (l : List Int) (hl : l.length ≤ 1000000) (k : Nat) (hk : l.length < k) : spec_sgGood.f k l = some (goodB l) := by
  unfold spec_sgGood.f goodB
  by_cases h9 : l.length ≤ 9
  · rw [if_neg (by omega), l1All_eq l _ _ hl k hk, Option.bind_some, decide_eq_true h9, Bool.true_and]
    change (if smallB l = true then _ else _) = _
    cases hs : smallB l with
    | false => rfl
    | true =>
      rw [if_pos rfl, Bool.true_and]
      unfold lastB
      by_cases h0 : l.length = 0
      · rw [if_pos (by omega), if_pos h0]
      · rw [if_neg (by omega), if_neg h0, show wrap64 ((l.length : Int) - 1) = (l.length : Int) - 1 by unfold wrap64; omega, if_pos (by omega), if_pos (by omega)]
  · rw [if_pos (by omega), decide_eq_false h9]; rfl
theorem isSingle_l0 (l : List Int) (hl : l.length ≤ 1000000) (d : Nat) : ∀ (k i : Nat), i ≤ l.length → l.length - i = d → d < k → impl_isSingle.l0 k l l (l.length : Int) (i : Int) = some (((l.drop i).all fun x => decide ((-1000000) ≤ x ∧ x ≤ 1000000)) && (if l.length = 0 then true else decide (l.length ≤ 9) && (rd l ((l.length : Int) - 1) != 0))) := by
  induction d with
  | zero =>
    intro k i h1 hd hk
    obtain ⟨k, rfl⟩ : ∃ m, k = m + 1 := ⟨k - 1, by omega⟩
    simp only [impl_isSingle.l0]; rw [if_neg (by omega), List.drop_eq_nil_of_le (by omega)]
    by_cases h0 : l.length = 0
    · rw [if_pos (by omega), if_pos h0]; rfl
    · rw [if_neg (by omega), if_neg h0]
      by_cases h9 : l.length ≤ 9
      · rw [if_pos (by omega), show wrap64 ((l.length : Int) - 1) = (l.length : Int) - 1 by unfold wrap64; omega, if_pos (by omega), if_pos (by omega), decide_eq_true h9]; rfl
      · rw [if_neg (by omega), decide_eq_false h9]; rfl
  | succ d ih =>
    intro k i h1 hd hk
    obtain ⟨k, rfl⟩ : ∃ m, k = m + 1 := ⟨k - 1, by omega⟩
    simp only [impl_isSingle.l0]
    rw [if_pos (by omega), if_pos (by omega), if_pos (by omega), inside_eq, Option.bind_some, wrap_next i (by omega), all_drop l _ i (by omega)]
    by_cases hp : (-1000000) ≤ rd l (i : Int) ∧ rd l (i : Int) ≤ 1000000
    · rw [if_pos (decide_eq_true hp), decide_eq_true hp, ih k (i + 1) (by omega) (by omega) (by omega)]; rfl
    · rw [if_neg (by rw [decide_eq_false hp]; decide), decide_eq_false hp]; rfl
theorem isSingle_eq (l : List Int) (hl : l.length ≤ 1000000) (k : Nat) (hk : l.length < k) : impl_isSingle.f k l = some (goodB l) := by
  unfold impl_isSingle.f
  have h := isSingle_l0 l hl l.length k 0 (by omega) (by omega) hk
  simp only [List.drop_zero] at h
  rw [show ((0 : Nat) : Int) = 0 from rfl] at h
  rw [h]
  congr 1
  unfold goodB lastB
  change (smallB l && _) = _
  cases smallB l <;> by_cases h0 : l.length = 0 <;> simp [h0]
theorem sgGood_ev (l : List Int) (hl : l.length ≤ 1000000) : Ev (fun k => spec_sgGood.f k l) (goodB l) := ⟨l.length + 1, fun k hk => sgGood_eq l hl k (by omega)⟩
theorem isSingle_ev (l : List Int) (hl : l.length ≤ 1000000) : Ev (fun k => impl_isSingle.f k l) (goodB l) := ⟨l.length + 1, fun k hk => isSingle_eq l hl k (by omega)⟩
theorem good_bound (l : List Int) (h : goodB l = true) : ∀ x ∈ l, (-1000000 : Int) ≤ x ∧ x ≤ 1000000 := by
  unfold goodB smallB at h
  simp only [Bool.and_eq_true, List.all_eq_true, decide_eq_true_eq] at h
  exact h.2.1
theorem good_length (l : List Int) (h : goodB l = true) : l.length ≤ 9 := by
  unfold goodB at h
  simp only [Bool.and_eq_true, decide_eq_true_eq] at h
  exact h.1
theorem good_last (l : List Int) (h : goodB l = true) (h0 : 0 < l.length) : rd l ((l.length : Int) - 1) ≠ 0 := by
  unfold goodB lastB at h
  simp only [Bool.and_eq_true] at h
  have := h.2.2
  rw [if_neg (by omega)] at this
  simpa using this
theorem cf_small (l : List Int) : slices_ContainsFunc_int_int__impl_isSmall_1.f l = some (!(l.all fun x => decide ((-1000) ≤ x ∧ x ≤ 1000))) := by
  induction l with
  | nil => rfl
  | cons x q ih =>
    simp only [slices_ContainsFunc_int_int__impl_isSmall_1.f, impl_isSmall_1.f, inside_eq, Option.bind_some, List.all_cons, ih]
    by_cases h : (-1000) ≤ x ∧ x ≤ 1000
    · rw [decide_eq_true h]; rfl
    · rw [decide_eq_false h]; rfl
def smallS (l : List Int) : Bool := if goodB l = true then (if decide (1 ≤ (l.length : Int) ∧ (l.length : Int) ≤ 6) = true then (l.all fun x => decide ((-1000) ≤ x ∧ x ≤ 1000)) else false) else false
theorem deGood_ev (l : List Int) (hl : l.length ≤ 1000000) : Ev (fun k => spec_deGood.f k l) (smallS l) := by
  unfold smallS
  refine Ev.bind (sgGood_ev l hl) ?_
  cases goodB l with
  | false => exact Ev.now _
  | true =>
    simp only [if_true, l1In_eq, Option.bind_some]
    refine Ev_if (fun h => ?_) (fun h => ?_)
    · rw [if_pos h]
      exact Ev.bind ⟨l.length + 1, fun k hk => l1All_eq l _ _ hl k (by omega)⟩ (Ev.now _)
    · rw [if_neg h]; exact Ev.now _
theorem isSmall_ev (l : List Int) (hl : l.length ≤ 1000000) : Ev (fun k => impl_isSmall.f k l) (smallS l) := by
  unfold smallS
  refine Ev.bind (isSingle_ev l hl) ?_
  cases goodB l with
  | false => exact Ev.now _
  | true =>
    simp only [if_true, inside_eq, Option.bind_some, cf_small]
    refine Ev_if (fun h => ?_) (fun h => ?_)
    · rw [if_pos h]; exact Ev_eq (Ev.now _) (Bool.not_not _)
    · rw [if_neg h]; exact Ev.now _
theorem smallS_length (l : List Int) (h : smallS l = true) : 1 ≤ l.length ∧ l.length ≤ 6 := by
  unfold smallS at h
  split at h
  · split at h
    · rename_i h2; simp only [decide_eq_true_eq] at h2; omega
    · cases h
  · cases h
def signI (x : Int) : Int := if x < 0 then -1 else if x > 0 then 1 else 0
theorem compare_zero (x : Int) : cmp_Compare_int.f x 0 = some (signI x) := by
  unfold cmp_Compare_int.f cmp_isNaN_int.f signI
  simp only [bne_self_eq_false, Option.bind_some]
  rw [if_neg (by decide), if_neg (by decide)]
  by_cases h : x < 0
  · simp [h]
  · rw [if_neg h, if_neg h]; by_cases h2 : x > 0 <;> simp [h2]
theorem signI_cases (x : Int) : signI x = -1 ∨ signI x = 0 ∨ signI x = 1 := by unfold signI; split <;> (try split) <;> simp
theorem l1Sign_eq (x : Int) : spec_l1Sign.f x = some (signI x) := by
  unfold spec_l1Sign.f signI
  by_cases h : x > 0
  · rw [if_pos h, if_neg (by omega), if_pos h]
  · rw [if_neg h]; by_cases h2 : x < 0
    · rw [if_pos h2, if_pos h2]
    · rw [if_neg h2, if_neg h2, if_neg h]
theorem be_changes_l0 (l : List Int) (hl : l.length ≤ 1000000) (n : Nat) : ∀ (i : Nat) (last c : Int), i ≤ l.length → l.length - i = n → (last = -1 ∨ last = 0 ∨ last = 1) → 0 ≤ c ∧ c ≤ i →
    ∃ r, Ev (fun k => spec_beChanges.l0 k c last l (l.length : Int) (i : Int)) r ∧ Ev (fun k => impl_changes.l0 k c last l (l.length : Int) (i : Int)) r := by
  induction n with
  | zero =>
    intro i last c hi hn hla hc
    refine ⟨c, ?_, ?_⟩
    · refine Ev.step (fun k => rfl) ?_
      exact Ev_if (fun h => by omega) (fun _ => Ev.now _)
    · refine Ev.step (fun k => rfl) ?_
      exact Ev_if (fun h => by omega) (fun _ => Ev.now _)
  | succ n ih =>
    intro i last c hi hn hla hc
    obtain ⟨x, hx⟩ : ∃ x, rd l (i : Int) = x := ⟨_, rfl⟩
    obtain ⟨q, hq⟩ : ∃ q, signI x = q := ⟨_, rfl⟩
    have hqc := signI_cases x
    have hz : x = 0 ↔ q = 0 := by rw [← hq]; unfold signI; split <;> (try split) <;> omega
    rw [hq] at hqc
    have hspec : ∀ r, Ev (fun k => spec_beChanges.l0 k (if q = 0 then c else if last * q < 0 then c + 1 else c) (if q = 0 then last else q) l (l.length : Int) ((i + 1 : Nat) : Int)) r → Ev (fun k => spec_beChanges.l0 k c last l (l.length : Int) (i : Int)) r := by
      intro r hr
      refine Ev.step (fun k => rfl) ?_
      simp only [spec_beChanges.l0, l1Sign_eq, Option.bind_some]
      have hm : wrap64 (last * q) = last * q := by rcases hqc with h | h | h <;> rcases hla with h2 | h2 | h2 <;> subst h2 <;> rw [h] <;> unfold wrap64 <;> omega
      rw [hx, hq, wrap_next i (by omega), show wrap64 (c + 1) = c + 1 by unfold wrap64; omega, hm]
      refine Ev_if (fun _ => Ev_if (fun _ => Ev_if (fun _ => ?_) (fun h => by omega)) (fun h => by omega)) (fun h => by omega)
      refine Ev_if (fun h => ?_) (fun h => Ev_if (fun h2 => ?_) (fun h2 => ?_))
      · simpa only [if_pos (hz.1 h)] using hr
      · simpa only [if_neg (fun e => h (hz.2 e)), if_pos h2] using hr
      · simpa only [if_neg (fun e => h (hz.2 e)), if_neg h2] using hr
    have himpl : ∀ r, Ev (fun k => impl_changes.l0 k (if q = 0 then c else if q = -last then c + 1 else c) (if q = 0 then last else q) l (l.length : Int) ((i + 1 : Nat) : Int)) r → Ev (fun k => impl_changes.l0 k c last l (l.length : Int) (i : Int)) r := by
      intro r hr
      refine Ev.step (fun k => rfl) ?_
      simp only [impl_changes.l0, compare_zero, Option.bind_some]
      rw [hx, hq, wrap_next i (by omega), show wrap64 (c + 1) = c + 1 by unfold wrap64; omega, show wrap64 (-last) = -last by unfold wrap64; omega]
      refine Ev_if (fun _ => Ev_if (fun _ => Ev_if (fun _ => ?_) (fun h => by omega)) (fun h => by omega)) (fun h => by omega)
      refine Ev_if (fun h => ?_) (fun h => Ev_if (fun h2 => ?_) (fun h2 => ?_))
      · simpa only [if_pos h] using hr
      · simpa only [if_neg h, if_pos h2] using hr
      · simpa only [if_neg h, if_neg h2] using hr
    have hc2 : (if q = 0 then c else if last * q < 0 then c + 1 else c) = (if q = 0 then c else if q = -last then c + 1 else c) := by
      rcases hqc with h | h | h <;> rcases hla with h2 | h2 | h2 <;> subst h2 <;> rw [h] <;> rfl
    obtain ⟨r, e1, e2⟩ := ih (i + 1) (if q = 0 then last else q) (if q = 0 then c else if q = -last then c + 1 else c) (by omega) (by omega) (by split <;> assumption) (by split <;> (try split) <;> omega)
    exact ⟨r, hspec r (by rw [hc2]; exact e1), himpl r e2⟩
theorem be_changes (l : List Int) (hl : l.length ≤ 1000000) : ∃ r, Ev (fun k => spec_beChanges.f k l) r ∧ Ev (fun k => impl_changes.f k l) r :=
  be_changes_l0 l hl l.length 0 0 0 (by omega) (by omega) (by omega) ⟨by omega, by omega⟩
theorem mirror_small (l : List Int) (h : l.length ≤ 6) : ∃ r, Ev (fun k => spec_deMirror.f k l) r ∧ Ev (fun k => impl_mirrored.f k l) r ∧ r.length ≤ 6 := by
  have key : ∃ r, spec_deMirror.f 10 l = some r ∧ impl_mirrored.f 10 l = some r ∧ r.length ≤ 6 := by
    rcases l with _ | ⟨a, _ | ⟨b, _ | ⟨c, _ | ⟨d, _ | ⟨e, _ | ⟨f, _ | ⟨g, l⟩⟩⟩⟩⟩⟩⟩
    · exact ⟨([] : List Int), by kernel_rfl, by kernel_rfl, by simp⟩
    · exact ⟨[a], by kernel_rfl, by kernel_rfl, by simp⟩
    · exact ⟨[a, wrap64 (-b)], by kernel_rfl, by kernel_rfl, by simp⟩
    · exact ⟨[a, wrap64 (-b), c], by kernel_rfl, by kernel_rfl, by simp⟩
    · exact ⟨[a, wrap64 (-b), c, wrap64 (-d)], by kernel_rfl, by kernel_rfl, by simp⟩
    · exact ⟨[a, wrap64 (-b), c, wrap64 (-d), e], by kernel_rfl, by kernel_rfl, by simp⟩
    · exact ⟨[a, wrap64 (-b), c, wrap64 (-d), e, wrap64 (-f)], by kernel_rfl, by kernel_rfl, by simp⟩
    · simp at h
  obtain ⟨r, h1, h2, h3⟩ := key
  exact ⟨r, Ev.of (spec_deMirror.mono l) h1, Ev.of (impl_mirrored.mono l) h2, h3⟩
theorem Pure_holds : Pure := by
  intro l hl _
  have key : ∃ r1 r2 r3, Ev (fun k => spec_RootsBound.f k l) (r1, r2, r3) ∧ Ev (fun k => impl_RootsBound.f k l) (r1, r2, r3) := by
    cases hg : smallS l with
    | false =>
      refine ⟨0, 0, false, ?_, ?_⟩
      · refine Ev.bind (deGood_ev l hl) ?_; rw [hg]; exact Ev.now _
      · refine Ev.bind (isSmall_ev l hl) ?_; rw [hg]; exact Ev.now _
    | true =>
      obtain ⟨m, m1, m2, m3⟩ := mirror_small l (smallS_length l hg).2
      obtain ⟨r, h1, h2⟩ := be_changes l hl
      obtain ⟨r', h1', h2'⟩ := be_changes m (by omega)
      refine ⟨r, r', true, ?_, ?_⟩
      · refine Ev.bind (deGood_ev l hl) ?_; rw [hg]; exact Ev.bind h1 (Ev.bind m1 (Ev.bind h1' (Ev.now _)))
      · refine Ev.bind (isSmall_ev l hl) ?_; rw [hg]; exact Ev.bind h2 (Ev.bind m2 (Ev.bind h2' (Ev.now _)))
  obtain ⟨r1, r2, r3, h1, h2⟩ := key
  obtain ⟨ks, ki, h, h'⟩ := Ev_both h1 h2
  exact ⟨ks, ki, r1, r2, r3, h, h'⟩
end Go.Proofs.Ytolacpnhndbalaa.QRootsBound
