/- Plain law: the reference's and the program's RootPower come to the same, over numbers and lists alone. -/
import Derived.Test.YtipnbjamkhhmbaaLRootPower
namespace Go.Proofs.Ytipnbjamkhhmbaa.QRootPower
open Go.RowKit Go.Proofs.YtipnbjamkhhmbaaW.PrintWords Go.Proofs.YtipnbjamkhhmbaaW.PrintLast Go.Proofs.YtipnbjamkhhmbaaW.PrintMore
set_option linter.unusedVariables false
set_option linter.unusedSimpArgs false
theorem l1In_eq (a b c : Int) : spec_l1In.f a b c = some (decide (b ≤ a ∧ a ≤ c)) := by
  unfold spec_l1In.f; by_cases h : b ≤ a <;> simp [h]
theorem inside_eq (a b c : Int) : impl_inside.f a b c = some (decide (b ≤ a ∧ a ≤ c)) := by
  unfold impl_inside.f; by_cases h : b ≤ a <;> simp [h]
theorem rd_getElem (l : List Int) (i : Nat) (h : i < l.length) : rd l (i : Int) = l[i] := by simp [rd, h]
theorem wrap_next (i : Nat) (h : i < 9223372036854775807) : wrap64 ((i : Int) + 1) = ((i + 1 : Nat) : Int) := by unfold wrap64; omega
theorem all_drop (l : List Int) (p : Int → Bool) (i : Nat) (h : i < l.length) : (l.drop i).all p = (p (rd l (i : Int)) && (l.drop (i + 1)).all p) := by
  rw [List.drop_eq_getElem_cons h, List.all_cons, rd_getElem l i h]
theorem rd_mem (l : List Int) (i : Nat) (h : i < l.length) : rd l (i : Int) ∈ l := by rw [rd_getElem l i h]; exact List.getElem_mem h
theorem drop_rd (l : List Int) (i : Nat) (h : i < l.length) : l.drop i = rd l (i : Int) :: l.drop (i + 1) := by rw [rd_getElem l i h]; exact List.drop_eq_getElem_cons h
theorem l1All_l0 (l : List Int) (lo hi : Int) (hl : l.length ≤ 1000000) (d : Nat) : ∀ (k i : Nat), i ≤ l.length → l.length - i = d → d < k → spec_l1All.l0 k lo hi l (l.length : Int) (i : Int) = some ((l.drop i).all fun x => decide (lo ≤ x ∧ x ≤ hi)) := by
  induction d with
  | zero =>
    intro k i h1 hd hk
    obtain ⟨k, rfl⟩ : ∃ m, k = m + 1 := ⟨k - 1, by omega⟩
    simp only [spec_l1All.l0]; rw [if_neg (by omega), List.drop_eq_nil_of_le (by omega)]; rfl
  | succ d ih =>
    intro k i h1 hd hk
    obtain ⟨k, rfl⟩ : ∃ m, k = m + 1 := ⟨k - 1, by omega⟩
    simp only [spec_l1All.l0]
    rw [if_pos (by omega), if_pos (by omega), if_pos (by omega), l1In_eq, Option.bind_some, wrap_next i (by omega), all_drop l _ i (by omega)]
    by_cases hp : lo ≤ rd l (i : Int) ∧ rd l (i : Int) ≤ hi
    · rw [if_pos (decide_eq_true hp), decide_eq_true hp, ih k (i + 1) (by omega) (by omega) (by omega)]; rfl
    · rw [if_neg (by rw [decide_eq_false hp]; decide), decide_eq_false hp]; rfl
theorem l1All_eq (l : List Int) (lo hi : Int) (hl : l.length ≤ 1000000) (k : Nat) (hk : l.length < k) : spec_l1All.f k l lo hi = some (l.all fun x => decide (lo ≤ x ∧ x ≤ hi)) := by
  unfold spec_l1All.f
  have h := l1All_l0 l lo hi hl l.length k 0 (by omega) (by omega) hk
  simpa using h
def smallB (l : List Int) : Bool := l.all fun x => decide ((-1000000) ≤ x ∧ x ≤ 1000000)
def lastB (l : List Int) : Bool := if l.length = 0 then true else (rd l ((l.length : Int) - 1) != 0)
/-- A single polynomial. -/
def goodB (l : List Int) : Bool := decide (l.length ≤ 9) && (smallB l && lastB l)
theorem sgGood_eq (l : List Int) (hl : l.length ≤ 1000000) (k : Nat) (hk : l.length < k) : spec_sgGood.f k l = some (goodB l) := by
  unfold spec_sgGood.f goodB
  by_cases h9 : l.length ≤ 9
  · rw [if_neg (by omega), l1All_eq l _ _ hl k hk, Option.bind_some, decide_eq_true h9, Bool.true_and]
    change (if smallB l = true then _ else _) = _
    cases hs : smallB l with
    | false => rfl
    | true =>
      rw [if_pos rfl, Bool.true_and]
      unfold lastB
      by_cases h0 : l.length = 0
      · rw [if_pos (by omega), if_pos h0]
      · rw [if_neg (by omega), if_neg h0, show wrap64 ((l.length : Int) - 1) = (l.length : Int) - 1 by unfold wrap64; omega, if_pos (by omega), if_pos (by omega)]
  · rw [if_pos (by omega), decide_eq_false h9]; rfl
theorem isSingle_l0 (l : List Int) (hl : l.length ≤ 1000000) (d : Nat) : ∀ (k i : Nat), i ≤ l.length → l.length - i = d → d < k → impl_isSingle.l0 k l l (l.length : Int) (i : Int) = some (((l.drop i).all fun x => decide ((-1000000) ≤ x ∧ x ≤ 1000000)) && (if l.length = 0 then true else decide (l.length ≤ 9) && (rd l ((l.length : Int) - 1) != 0))) := by
  induction d with
  | zero =>
    intro k i h1 hd hk
    obtain ⟨k, rfl⟩ : ∃ m, k = m + 1 := ⟨k - 1, by omega⟩
    simp only [impl_isSingle.l0]; rw [if_neg (by omega), List.drop_eq_nil_of_le (by omega)]
    by_cases h0 : l.length = 0
    · rw [if_pos (by omega), if_pos h0]; rfl
    · rw [if_neg (by omega), if_neg h0]
      by_cases h9 : l.length ≤ 9
      · rw [if_pos (by omega), show wrap64 ((l.length : Int) - 1) = (l.length : Int) - 1 by unfold wrap64; omega, if_pos (by omega), if_pos (by omega), decide_eq_true h9]; rfl
      · rw [if_neg (by omega), decide_eq_false h9]; rfl
  | succ d ih =>
    intro k i h1 hd hk
    obtain ⟨k, rfl⟩ : ∃ m, k = m + 1 := ⟨k - 1, by omega⟩
    simp only [impl_isSingle.l0]
    rw [if_pos (by omega), if_pos (by omega), if_pos (by omega), inside_eq, Option.bind_some, wrap_next i (by omega), all_drop l _ i (by omega)]
    by_cases hp : (-1000000) ≤ rd l (i : Int) ∧ rd l (i : Int) ≤ 1000000
    · rw [if_pos (decide_eq_true hp), decide_eq_true hp, ih k (i + 1) (by omega) (by omega) (by omega)]; rfl
    · rw [if_neg (by rw [decide_eq_false hp]; decide), decide_eq_false hp]; rfl
theorem isSingle_eq (l : List Int) (hl : l.length ≤ 1000000) (k : Nat) (hk : l.length < k) : impl_isSingle.f k l = some (goodB l) := by
  unfold impl_isSingle.f
  have h := isSingle_l0 l hl l.length k 0 (by omega) (by omega) hk
  simp only [List.drop_zero] at h
  rw [show ((0 : Nat) : Int) = 0 from rfl] at h
  rw [h]
  congr 1
  unfold goodB lastB
  change (smallB l && _) = _
  cases smallB l <;> by_cases h0 : l.length = 0 <;> simp [h0]
theorem sgGood_ev (l : List Int) (hl : l.length ≤ 1000000) : Ev (fun k => spec_sgGood.f k l) (goodB l) := ⟨l.length + 1, fun k hk => sgGood_eq l hl k (by omega)⟩
theorem isSingle_ev (l : List Int) (hl : l.length ≤ 1000000) : Ev (fun k => impl_isSingle.f k l) (goodB l) := ⟨l.length + 1, fun k hk => isSingle_eq l hl k (by omega)⟩
theorem good_bound (l : List Int) (h : goodB l = true) : ∀ x ∈ l, (-1000000 : Int) ≤ x ∧ x ≤ 1000000 := by
  unfold goodB smallB at h
  simp only [Bool.and_eq_true, List.all_eq_true, decide_eq_true_eq] at h
  exact h.2.1
theorem good_length (l : List Int) (h : goodB l = true) : l.length ≤ 9 := by
  unfold goodB at h
  simp only [Bool.and_eq_true, decide_eq_true_eq] at h
  exact h.1
theorem good_last (l : List Int) (h : goodB l = true) (h0 : 0 < l.length) : rd l ((l.length : Int) - 1) ≠ 0 := by
  unfold goodB lastB at h
  simp only [Bool.and_eq_true] at h
  have := h.2.2
  rw [if_neg (by omega)] at this
  simpa using this
theorem Ev_both {α β : Type} {g : Nat → Option α} {f : Nat → Option β} {r : α} {q : β} (h : Ev g r) (h' : Ev f q) : ∃ ks ki, g ks = some r ∧ f ki = some q := by
  obtain ⟨a, ha⟩ := h.rounds
  obtain ⟨b, hb⟩ := h'.rounds
  exact ⟨a, b, ha, hb⟩
def absI (x : Int) : Int := (x.natAbs : Int)
theorem l1Abs_eq (x : Int) (h : -4611686018427387904 ≤ x ∧ x ≤ 4611686018427387904) : spec_l1Abs.f x = some (absI x) := by
  unfold spec_l1Abs.f spec_l1Most.f absI
  have : wrap64 (-x) = -x := by unfold wrap64; omega
  rw [this]
  by_cases hx : x > -x
  · rw [if_pos hx]; simp only [Option.bind_some]; congr 1; omega
  · rw [if_neg hx]; simp only [Option.bind_some]; congr 1; omega
theorem mxAbs_eq (x : Int) (h : -4611686018427387904 ≤ x ∧ x ≤ 4611686018427387904) : mx x (wrap64 (-x)) = absI x := by
  have : wrap64 (-x) = -x := by unfold wrap64; omega
  rw [this]; unfold mx absI; split <;> omega
theorem Ev_if {α : Type} {c : Prop} [Decidable c] {g f : Nat → Option α} {r : α} (hp : c → Ev g r) (hn : ¬ c → Ev f r) : Ev (fun k => if c then g k else f k) r := by
  by_cases h : c
  · simp only [if_pos h]; exact hp h
  · simp only [if_neg h]; exact hn h
theorem Ev_bindS {α β : Type} {a : Option α} {x : α} {f : Nat → α → Option β} {r : β} (h : a = some x) (k : Ev (fun n => f n x) r) : Ev (fun n => a.bind (f n)) r := by
  subst h; simpa only [Option.bind_some] using k
theorem Ev_eq {α : Type} {g : Nat → Option α} {r r' : α} (h : Ev g r) (e : r = r') : Ev g r' := e ▸ h
theorem pow30 (n : Nat) (h : n ≤ 30) : (2 : Int) ^ n ≤ 2 ^ 30 := by have := Nat.pow_le_pow_right (show 0 < 2 by omega) h; exact_mod_cast this
def sumAbs (l : List Int) : Int := (l.map absI).foldr (· + ·) 0
theorem sumAbs_bound (l : List Int) (m : Int) (hm : 0 ≤ m) (h : ∀ x ∈ l, -m ≤ x ∧ x ≤ m) : 0 ≤ sumAbs l ∧ sumAbs l ≤ m * l.length := by
  induction l with
  | nil => simp [sumAbs]
  | cons a l ih =>
    have h1 := ih (fun x hx => h x (List.mem_cons_of_mem _ hx))
    have h2 := h a List.mem_cons_self
    have e : sumAbs (a :: l) = absI a + sumAbs l := rfl
    have e2 : m * ((a :: l).length : Int) = m * (l.length : Int) + m := by simp [Int.mul_add]
    rw [e, e2]; unfold absI; omega
theorem shl_one (x k : Int) (h0 : 0 ≤ k ∧ k ≤ 30) (hx : 0 ≤ x ∧ x ≤ 1000000000) : shl .i64 x k = x * 2 ^ k.toNat := by
  unfold shl
  obtain ⟨n, rfl⟩ := Int.eq_ofNat_of_zero_le h0.1
  have hn : n ≤ 30 := by omega
  rw [Int.toNat_natCast, Nat.min_eq_left (by show n ≤ 64; omega), i64_w]
  have h1 := pow30 n hn
  have h2 : (0 : Int) < 2 ^ n := Int.pow_pos (by omega)
  have h3 : x * 2 ^ n ≤ 1000000000 * 2 ^ 30 := Int.mul_le_mul hx.2 h1 (by omega) (by omega)
  have h4 : 0 ≤ x * 2 ^ n := Int.mul_nonneg hx.1 (by omega)
  unfold wrap64; omega
theorem dyPower_eq (k : Int) (h0 : 0 ≤ k ∧ k ≤ 30) : spec_dyPower.f k = some (2 ^ k.toNat) := by
  unfold spec_dyPower.f
  have e : IntKind.u64.wrap k = k := by simp [IntKind.wrap, IntKind.signed, IntKind.bits]; omega
  rw [e, if_pos h0.1, shl_one 1 k h0 ⟨by omega, by omega⟩, Int.one_mul]
theorem mul_pow_bound (x : Int) (k : Nat) (hk : k ≤ 30) (hx : 0 ≤ x ∧ x ≤ 1000000000) : 0 ≤ x * 2 ^ k ∧ x * 2 ^ k ≤ 1073741824000000000 := by
  have h1 := pow30 k hk
  have h2 : (0 : Int) < 2 ^ k := Int.pow_pos (by omega)
  have h3 : x * 2 ^ k ≤ 1000000000 * 2 ^ 30 := Int.mul_le_mul hx.2 h1 (by omega) (by omega)
  have h4 : 0 ≤ x * 2 ^ k := Int.mul_nonneg hx.1 (by omega)
  omega
theorem absI_pos (a : Int) (h : a ≠ 0) : 1 ≤ absI a := by unfold absI; omega
theorem roots_step (l : List Int) (sum a : Int) (hl : 0 < l.length ∧ l.length ≤ 1000000) (ha : rd l ((l.length : Int) - 1) = a) (hab : -1000000 ≤ a ∧ a ≤ 1000000) (h1 : a ≠ 0) (hs : 0 ≤ sum ∧ sum ≤ 8000000) (k : Nat) (hk : k ≤ 23)
    (ih : sum > absI a * 2 ^ k → ∃ r, Ev (fun q => spec_sgRoots.l1 q l sum ((k + 1 : Nat) : Int)) r ∧ Ev (fun q => impl_RootPower.l1 q sum a ((k + 1 : Nat) : Int)) (r, true)) :
    ∃ r, Ev (fun q => spec_sgRoots.l1 q l sum (k : Int)) r ∧ Ev (fun q => impl_RootPower.l1 q sum a (k : Int)) (r, true) := by
  have hA : 0 ≤ absI a ∧ absI a ≤ 1000000000 := by unfold absI; omega
  have hb := mul_pow_bound (absI a) k (by omega) hA
  have hw : wrap64 (2 ^ (k : Int).toNat * absI a) = absI a * 2 ^ k := by rw [Int.toNat_natCast, Int.mul_comm]; unfold wrap64; omega
  have hw2 : shl .i64 (mx a (wrap64 (-a))) (k : Int) = absI a * 2 ^ k := by rw [mxAbs_eq a ⟨by omega, by omega⟩, shl_one _ _ ⟨by omega, by omega⟩ hA, Int.toNat_natCast]
  have hspec : ∀ r, (sum > absI a * 2 ^ k → Ev (fun q => spec_sgRoots.l1 q l sum ((k + 1 : Nat) : Int)) r) → (¬ sum > absI a * 2 ^ k → (k : Int) = r) → Ev (fun q => spec_sgRoots.l1 q l sum (k : Int)) r := by
    intro r hy hn
    refine Ev.step (fun q => rfl) ?_
    refine Ev_bindS (dyPower_eq k ⟨by omega, by omega⟩) ?_
    rw [show wrap64 ((l.length : Int) - 1) = (l.length : Int) - 1 by unfold wrap64; omega, ha]
    refine Ev_if (fun _ => Ev_if (fun _ => ?_) (fun h => by omega)) (fun h => by omega)
    refine Ev_bindS (l1Abs_eq _ ⟨by omega, by omega⟩) ?_
    rw [hw, wrap_next k (by omega)]
    exact Ev_if hy (fun h => Ev_eq (Ev.now _) (hn h))
  have himpl : ∀ r, (sum > absI a * 2 ^ k → Ev (fun q => impl_RootPower.l1 q sum a ((k + 1 : Nat) : Int)) (r, true)) → (¬ sum > absI a * 2 ^ k → (k : Int) = r) → Ev (fun q => impl_RootPower.l1 q sum a (k : Int)) (r, true) := by
    intro r hy hn
    refine Ev.step (fun q => rfl) ?_
    simp only [impl_RootPower.l1]
    rw [hw2, wrap_next k (by omega)]
    exact Ev_if (fun _ => Ev_if hy (fun h => Ev_eq (Ev.now _) (by rw [hn h]))) (fun h => by omega)
  by_cases h : sum > absI a * 2 ^ k
  · obtain ⟨r, e1, e2⟩ := ih h
    exact ⟨r, hspec r (fun _ => e1) (fun h2 => absurd h h2), himpl r (fun _ => e2) (fun h2 => absurd h h2)⟩
  · exact ⟨k, hspec _ (fun h2 => absurd h2 h) (fun _ => rfl), himpl _ (fun h2 => absurd h2 h) (fun _ => rfl)⟩
theorem roots_l1 (l : List Int) (sum a : Int) (hl : 0 < l.length ∧ l.length ≤ 1000000) (ha : rd l ((l.length : Int) - 1) = a) (hab : -1000000 ≤ a ∧ a ≤ 1000000) (h1 : a ≠ 0) (hs : 0 ≤ sum ∧ sum ≤ 8000000) (n : Nat) : ∀ (k : Nat), k ≤ 23 → 23 - k = n →
    ∃ r, Ev (fun q => spec_sgRoots.l1 q l sum (k : Int)) r ∧ Ev (fun q => impl_RootPower.l1 q sum a (k : Int)) (r, true) := by
  induction n with
  | zero =>
    intro k hk hn
    obtain ⟨rfl⟩ : k = 23 := by omega
    exact roots_step l sum a hl ha hab h1 hs 23 (by omega) (fun h => by exfalso; have := absI_pos a h1; omega)
  | succ n ih =>
    intro k hk hn
    exact roots_step l sum a hl ha hab h1 hs k hk (fun _ => ih (k + 1) (by omega) (by omega))
theorem roots_l0 (l q : List Int) (r : Int) (hq : ∀ x ∈ q, (-1000000 : Int) ≤ x ∧ x ≤ 1000000) (hql : q.length ≤ 8)
    (h1 : ∀ s, 0 ≤ s ∧ s ≤ 8000000 → s = sumAbs q → Ev (fun k => spec_sgRoots.l1 k l s 0) r) (n : Nat) : ∀ (i : Nat) (s : Int), i ≤ q.length → q.length - i = n → 0 ≤ s ∧ s ≤ 1000000 * (i : Int) → s + sumAbs (q.drop i) = sumAbs q → Ev (fun k => spec_sgRoots.l0 k l s q (q.length : Int) (i : Int)) r := by
  induction n with
  | zero =>
    intro i s hi hn hs he
    refine Ev.step (fun k => rfl) ?_
    refine Ev_if (fun h => by omega) (fun h => ?_)
    rw [List.drop_eq_nil_of_le (by omega)] at he
    exact h1 s ⟨by omega, by omega⟩ (by simpa [sumAbs] using he)
  | succ n ih =>
    intro i s hi hn hs he
    have hr := hq _ (rd_mem q i (by omega))
    refine Ev.step (fun k => rfl) ?_
    refine Ev_if (fun _ => Ev_if (fun _ => Ev_if (fun _ => ?_) (fun h => by omega)) (fun h => by omega)) (fun h => by omega)
    refine Ev_bindS (l1Abs_eq _ ⟨by omega, by omega⟩) ?_
    have ha : 0 ≤ absI (rd q (i : Int)) ∧ absI (rd q (i : Int)) ≤ 1000000 := by unfold absI; omega
    rw [wrap_next i (by omega), show wrap64 (s + absI (rd q (i : Int))) = s + absI (rd q (i : Int)) by unfold wrap64; omega]
    rw [drop_rd q i (by omega)] at he
    refine ih (i + 1) _ (by omega) (by omega) ⟨by omega, by omega⟩ ?_
    have e : sumAbs (rd q (i : Int) :: q.drop (i + 1)) = absI (rd q (i : Int)) + sumAbs (q.drop (i + 1)) := rfl
    omega
theorem rootsI_l0 (a : Int) (q : List Int) (r : Int × Bool) (hq : ∀ x ∈ q, (-1000000 : Int) ≤ x ∧ x ≤ 1000000) (hql : q.length ≤ 8)
    (h1 : ∀ s, 0 ≤ s ∧ s ≤ 8000000 → s = sumAbs q → Ev (fun k => impl_RootPower.l1 k s a 0) r) (n : Nat) : ∀ (i : Nat) (s : Int), i ≤ q.length → q.length - i = n → 0 ≤ s ∧ s ≤ 1000000 * (i : Int) → s + sumAbs (q.drop i) = sumAbs q → Ev (fun k => impl_RootPower.l0 k s a q (q.length : Int) (i : Int)) r := by
  induction n with
  | zero =>
    intro i s hi hn hs he
    refine Ev.step (fun k => rfl) ?_
    refine Ev_if (fun h => by omega) (fun h => ?_)
    rw [List.drop_eq_nil_of_le (by omega)] at he
    exact h1 s ⟨by omega, by omega⟩ (by simpa [sumAbs] using he)
  | succ n ih =>
    intro i s hi hn hs he
    have hr := hq _ (rd_mem q i (by omega))
    refine Ev.step (fun k => rfl) ?_
    simp only [impl_RootPower.l0]
    refine Ev_if (fun _ => Ev_if (fun _ => Ev_if (fun _ => ?_) (fun h => by omega)) (fun h => by omega)) (fun h => by omega)
    rw [mxAbs_eq _ ⟨by omega, by omega⟩]
    have ha : 0 ≤ absI (rd q (i : Int)) ∧ absI (rd q (i : Int)) ≤ 1000000 := by unfold absI; omega
    rw [wrap_next i (by omega), show wrap64 (s + absI (rd q (i : Int))) = s + absI (rd q (i : Int)) by unfold wrap64; omega]
    rw [drop_rd q i (by omega)] at he
    refine ih (i + 1) _ (by omega) (by omega) ⟨by omega, by omega⟩ ?_
    have e : sumAbs (rd q (i : Int) :: q.drop (i + 1)) = absI (rd q (i : Int)) + sumAbs (q.drop (i + 1)) := rfl
    omega
theorem Pure_holds : Pure := by
  intro l hl _
  have key : ∃ r1 r2, Ev (fun k => spec_RootPower.f k l) (r1, r2) ∧ Ev (fun k => impl_RootPower.f k l) (r1, r2) := by
    cases hg : goodB l with
    | false =>
      refine ⟨0, false, ?_, ?_⟩
      · refine Ev.bind (sgGood_ev l hl) ?_; rw [hg]; exact Ev.now _
      · refine Ev.bind (isSingle_ev l hl) ?_; rw [hg]
        refine Ev.step (f := fun _ => some (0, false)) (fun k => ?_) (Ev.now _)
        rfl
    | true =>
      have hb := good_bound l hg
      have h9 := good_length l hg
      by_cases h0 : l.length = 0
      · refine ⟨0, false, ?_, ?_⟩
        · refine Ev.bind (sgGood_ev l hl) ?_; rw [hg]
          refine Ev_if (fun _ => ?_) (fun h => absurd rfl h)
          exact Ev_if (fun _ => Ev.now _) (fun h => by omega)
        · refine Ev.bind (isSingle_ev l hl) ?_; rw [hg]
          refine Ev_if (fun _ => ?_) (fun h => absurd rfl h)
          have e : ((l.length : Int) == 0) = true := by rw [h0]; rfl
          rw [e]
          exact Ev.step (f := fun _ => some (0, false)) (fun k => rfl) (Ev.now _)
      · have hlast := good_last l hg (by omega)
        obtain ⟨q, hq⟩ : ∃ q, q = l.take (l.length - 1) := ⟨_, rfl⟩
        have hqb : ∀ x ∈ q, (-1000000 : Int) ≤ x ∧ x ≤ 1000000 := fun x hx => hb x (by rw [hq] at hx; exact List.mem_of_mem_take hx)
        have hql : q.length = l.length - 1 := by rw [hq, List.length_take]; omega
        have hs := sumAbs_bound q 1000000 (by omega) hqb
        have hlm : rd l ((l.length : Int) - 1) ∈ l := by
          have e : ((l.length : Int) - 1) = ((l.length - 1 : Nat) : Int) := by omega
          rw [e]; exact rd_mem l _ (by omega)
        obtain ⟨r, e1, e2⟩ := roots_l1 l (sumAbs q) (rd l ((l.length : Int) - 1)) ⟨by omega, hl⟩ rfl (hb _ hlm) hlast ⟨hs.1, by omega⟩ 23 0 (by omega) (by omega)
        have hw : wrap64 ((l.length : Int) - 1) = (l.length : Int) - 1 := by unfold wrap64; omega
        have htk : l.take ((l.length : Int) - 1).toNat = q := by rw [hq]; congr 1; omega
        refine ⟨r, true, ?_, ?_⟩
        · refine Ev.bind (sgGood_ev l hl) ?_; rw [hg]
          refine Ev_if (fun _ => ?_) (fun h => absurd rfl h)
          refine Ev_if (fun h => by omega) (fun _ => ?_)
          refine Ev.bind ?_ (Ev.now _)
          unfold spec_sgRoots.f
          rw [hw, htk]
          refine Ev_if (fun _ => Ev_if (fun _ => ?_) (fun h => by omega)) (fun h => by omega)
          exact roots_l0 l q r hqb (by omega) (fun s _ he => by rw [he]; exact e1) q.length 0 0 (by omega) (by omega) ⟨by omega, by omega⟩ (by simp)
        · refine Ev.bind (isSingle_ev l hl) ?_; rw [hg]
          refine Ev_if (fun _ => ?_) (fun h => absurd rfl h)
          have e : ((l.length : Int) == 0) = false := by simp only [beq_eq_false_iff_ne]; omega
          rw [e]
          refine Ev.step (fun k => rfl) ?_
          simp only [impl_RootPower.j0]
          refine Ev_if (fun h => absurd h (by decide)) (fun _ => ?_)
          rw [hw, htk]
          refine Ev_if (fun _ => Ev_if (fun _ => Ev_if (fun _ => ?_) (fun h => by omega)) (fun h => by omega)) (fun h => by omega)
          exact rootsI_l0 _ q (r, true) hqb (by omega) (fun s _ he => by rw [he]; exact e2) q.length 0 0 (by omega) (by omega) ⟨by omega, by omega⟩ (by simp)
  obtain ⟨r1, r2, h1, h2⟩ := key
  obtain ⟨ks, ki, h⟩ := Ev_both h1 h2
  exact ⟨ks, ki, r1, r2, h⟩
end Go.Proofs.Ytipnbjamkhhmbaa.QRootPower
