/- What the models of the law FnIntervals come to: numbers and lists alone. -/
import Derived.Test.YtneceomekgophaaEvIv
set_option linter.unusedVariables false
set_option linter.unusedSimpArgs false
namespace Go.Proofs.Ytneceomekgophaa.Ev
open Go Go.RowKit Go.Proofs Go.Proofs.YtneceomekgophaaW.PrintWords
def Et {α : Type} (g : Nat → Nat → Option α) (r : α) : Prop := ∃ K, ∀ k n, K ≤ k → K ≤ n → g k n = some r
theorem Et.now {α : Type} (r : α) : Et (fun _ _ => some r) r := ⟨0, fun _ _ _ _ => rfl⟩
theorem Et.bind {α β : Type} {g : Nat → Nat → Option α} {f : Nat → Nat → α → Option β} {a : α} {r : β} (h : Et g a) (k : Et (fun z n => f z n a) r) : Et (fun z n => (g z n).bind (f z n)) r := by
  obtain ⟨K, hK⟩ := h
  obtain ⟨L, hL⟩ := k
  refine ⟨max K L, fun z n h1 h2 => ?_⟩
  show (g z n).bind (f z n) = some r
  rw [hK z n (by omega) (by omega)]
  exact hL z n (by omega) (by omega)
theorem Et.step {α : Type} {g f : Nat → Nat → Option α} {r : α} (h : ∀ z n, g z (n + 1) = f z n) (k : Et f r) : Et g r := by
  obtain ⟨K, hK⟩ := k
  refine ⟨K + 1, fun z n h1 h2 => ?_⟩
  obtain ⟨m, rfl⟩ : ∃ m, n = m + 1 := ⟨n - 1, by omega⟩
  rw [h]
  exact hK z m (by omega) (by omega)
theorem Et.diag {α : Type} {g : Nat → Nat → Option α} {r : α} (h : Et g r) : Et (fun z _ => g z z) r := by
  obtain ⟨K, hK⟩ := h
  exact ⟨K, fun z n h1 h2 => hK z z h1 h1⟩
theorem Et_if {α : Type} {c : Prop} [Decidable c] {g f : Nat → Nat → Option α} {r : α} (hp : c → Et g r) (hn : ¬ c → Et f r) : Et (fun z n => if c then g z n else f z n) r := by
  by_cases h : c
  · simp only [if_pos h]; exact hp h
  · simp only [if_neg h]; exact hn h
theorem Et_bindS {α β : Type} {a : Option α} {x : α} {f : Nat → Nat → α → Option β} {r : β} (h : a = some x) (k : Et (fun z n => f z n x) r) : Et (fun z n => a.bind (f z n)) r := by
  subst h; simpa only [Option.bind_some] using k
theorem Et_eq {α : Type} {g : Nat → Nat → Option α} {r r' : α} (h : Et g r) (e : r = r') : Et g r' := e ▸ h
theorem Et_both {α β : Type} {g : Nat → Nat → Option α} {f : Nat → Nat → Option β} {r : α} {q : β} (h : Et g r) (h' : Et f q) : ∃ k, g k k = some r ∧ f k k = some q := by
  obtain ⟨K, hK⟩ := h
  obtain ⟨L, hL⟩ := h'
  exact ⟨max K L, hK _ _ (by omega) (by omega), hL _ _ (by omega) (by omega)⟩
theorem Et_unique {α : Type} {g : Nat → Nat → Option α} {r r' : α} (h : Et g r) (h' : Et g r') : r = r' := by
  obtain ⟨K, hK⟩ := h
  obtain ⟨L, hL⟩ := h'
  exact Option.some.inj ((hK (max K L) (max K L) (by omega) (by omega)).symm.trans (hL _ _ (by omega) (by omega)))
theorem cnd3 {α : Type} (c : Bool) (a b : α) : (bif !c then a else b) = if c = true then b else a := by cases c <;> rfl
theorem cnd4 {α : Type} (c : Bool) (a b : α) : (bif c then a else b) = if c = true then a else b := by cases c <;> rfl
theorem u64r (n : Int) (h : 0 ≤ n ∧ n < 18446744073709551616) : IntKind.u64.wrap n = n := by simp [IntKind.wrap, IntKind.signed, IntKind.bits]; omega
theorem u64m (n : Int) : IntKind.u64.wrap n = n % 18446744073709551616 := by simp [IntKind.wrap, IntKind.signed, IntKind.bits]
theorem wrap_next (i : Nat) (h : i < 9223372036854775807) : wrap64 ((i : Int) + 1) = ((i + 1 : Nat) : Int) := by unfold wrap64; omega
theorem l1In_eq (a b c : Int) : spec_l1In.f a b c = some (decide (b ≤ a ∧ a ≤ c)) := by
  unfold spec_l1In.f spec_l1In.g; by_cases h : b ≤ a <;> simp [h]
theorem inside_eq (a b c : Int) : impl_inside.f a b c = some (decide (b ≤ a ∧ a ≤ c)) := by
  unfold impl_inside.f impl_inside.g; by_cases h : b ≤ a <;> simp [h]
def sgnI (x : Int) : Int := if x > 0 then 1 else if x < 0 then -1 else 0
theorem l1Sign_eq (x : Int) : spec_l1Sign.f x = some (sgnI x) := by
  unfold spec_l1Sign.f spec_l1Sign.g sgnI; simp only [cnd4, decide_eq_true_eq, gt_iff_lt]; split
  · rfl
  · split <;> rfl
theorem or64 (a b : Int) (n : Nat) (ha : 0 ≤ a) (hb : 0 ≤ b ∧ b < 2 ^ n) (hab : a * 2 ^ n + b < 18446744073709551616) : orI .u64 (a * 2 ^ n) b = a * 2 ^ n + b := by
  obtain ⟨x, rfl⟩ := Int.eq_ofNat_of_zero_le ha
  obtain ⟨y, rfl⟩ := Int.eq_ofNat_of_zero_le hb.1
  have hy : y < 2 ^ n := by have := hb.2; exact_mod_cast this
  have e1 : (x : Int) * 2 ^ n = ((2 ^ n * x : Nat) : Int) := by push_cast; rw [Int.mul_comm]
  have hor := Nat.two_pow_add_eq_or_of_lt hy x
  have h64 : IntKind.u64.bits = 64 := rfl
  rw [e1] at hab ⊢
  obtain ⟨z, hz⟩ : ∃ z, 2 ^ n * x = z := ⟨_, rfl⟩
  rw [hz] at hab hor ⊢
  unfold orI
  simp only [h64, BitVec.toNat_or, BitVec.ofInt_natCast, BitVec.toNat_ofNat]
  rw [Nat.mod_eq_of_lt (show z < 2 ^ 64 by omega), Nat.mod_eq_of_lt (show y < 2 ^ 64 by omega), ← hor]
  rw [u64r _ ⟨by omega, by omega⟩]
  push_cast; rfl
theorem shl64 (x : Int) (s : Nat) (h : s ≤ 64) : shlI .u64 x (s : Int) = x * 2 ^ s % 18446744073709551616 := by
  unfold shlI
  show IntKind.u64.wrap _ = _
  rw [Int.toNat_natCast, Nat.min_eq_left (by show s ≤ 64; exact h), u64m]
theorem shr64 (x : Int) (s : Nat) (h : s ≤ 64) : shrI .u64 x (s : Int) = x / 2 ^ s := by
  unfold shrI
  have hp := Int.pow_pos (n := 2) (m := min (s : Int).toNat IntKind.u64.bits) (by omega)
  rw [Int.fdiv_eq_ediv_of_nonneg _ (by omega)]
  rw [Int.toNat_natCast, Nat.min_eq_left (by show s ≤ 64; exact h)]
theorem split64 (m : Int) (s : Nat) (h : s ≤ 64) : m * 2 ^ s / 18446744073709551616 = m / 2 ^ (64 - s) := by
  have e : (18446744073709551616 : Int) = 2 ^ (64 - s) * 2 ^ s := by rw [← Int.pow_add, show 64 - s + s = 64 by omega]; rfl
  rw [e, Int.mul_ediv_mul_of_pos_left _ _ (Int.pow_pos (by omega))]
theorem pow1 (n : Nat) : (1 : Int) ≤ 2 ^ n := Int.pow_pos (by omega)
theorem pow_split (a b : Nat) (h : b ≤ a) : (2 : Int) ^ a = 2 ^ (a - b) * 2 ^ b := by rw [← Int.pow_add, show a - b + b = a by omega]
theorem pow_le2 (a b : Nat) (h : a ≤ b) : (2 : Int) ^ a ≤ 2 ^ b := by have := Nat.pow_le_pow_right (show 0 < 2 by omega) h; exact_mod_cast this
theorem pow62 (n : Nat) (h : n ≤ 62) : (2 : Int) ^ n ≤ 4611686018427387904 := by
  have h1 := pow_le2 n 62 h
  have h2 : (2 : Int) ^ 62 = 4611686018427387904 := by decide
  omega
theorem sgn_mul (c x : Int) (h : 0 < c) : sgnI (c * x) = sgnI x := by
  unfold sgnI
  by_cases h1 : x > 0
  · rw [if_pos (Int.mul_pos h h1), if_pos h1]
  · rw [if_neg h1]
    by_cases h2 : x < 0
    · have := Int.mul_neg_of_pos_of_neg h h2
      rw [if_neg (by omega), if_pos this, if_pos h2]
    · have : x = 0 := by omega
      subst this; rw [if_neg (by simp), if_neg (by simp), if_neg (by omega)]
theorem sgn_pos (x : Int) (h : 0 < x) : sgnI x = 1 := by unfold sgnI; rw [if_pos h]
theorem sgn_neg (x : Int) (h : x < 0) : sgnI x = -1 := by unfold sgnI; rw [if_neg (by omega), if_pos h]
theorem sgn_zero : sgnI 0 = 0 := rfl
/-- A dyadic number, times 2^24. -/
def dv (n k : Int) : Int := n * 2 ^ (24 - k.toNat)
theorem dyPower62 (k : Int) (h : 0 ≤ k ∧ k ≤ 62) : spec_dyPower.f k = some (2 ^ k.toNat) := by
  have h1 := pow1 k.toNat
  have h2 := pow62 k.toNat (by omega)
  have h3 : shlI .i64 1 k = 2 ^ k.toNat := by
    unfold shlI
    show wrap64 _ = _
    rw [Nat.min_eq_left (by show k.toNat ≤ 64; omega), Int.one_mul]; unfold wrap64; omega
  unfold spec_dyPower.f spec_dyPower.g; try simp only [cnd3]
  try simp only [cnd4, decide_eq_true_eq]
  have e : IntKind.u64.wrap k = k := u64r _ ⟨by omega, by omega⟩
  rw [e, if_neg (by omega), h3]
theorem tdiv_floor (a b : Int) (hb : 0 < b) : Int.tdiv a b = if Int.tmod a b < 0 then a / b + 1 else a / b := by
  have h1 := Int.mul_ediv_add_emod a b
  have h2 := Int.mul_tdiv_add_tmod a b
  have h3 := Int.emod_nonneg a (show b ≠ 0 by omega)
  have h4 := Int.emod_lt_of_pos a hb
  have h5 : -b < Int.tmod a b ∧ Int.tmod a b < b := by
    have := Int.tmod_lt_of_pos a hb
    have := Int.lt_tmod_of_pos a hb
    omega
  obtain ⟨q, hq⟩ : ∃ q, Int.tdiv a b = q := ⟨_, rfl⟩
  obtain ⟨p, hp⟩ : ∃ p, a / b = p := ⟨_, rfl⟩
  rw [hq] at h2 ⊢
  rw [hp] at h1 ⊢
  by_cases h : Int.tmod a b < 0
  · rw [if_pos h]
    have e : b * (q - p - 1) = a % b - Int.tmod a b - b := by rw [Int.mul_sub, Int.mul_sub]; omega
    rcases Int.lt_trichotomy (q - p - 1) 0 with h6 | h6 | h6
    · have := Int.mul_le_mul_of_nonneg_left (show q - p - 1 ≤ -1 by omega) (show 0 ≤ b by omega)
      omega
    · omega
    · have := Int.mul_le_mul_of_nonneg_left (show 1 ≤ q - p - 1 by omega) (show 0 ≤ b by omega)
      omega
  · rw [if_neg h]
    have e : b * (q - p) = a % b - Int.tmod a b := by rw [Int.mul_sub]; omega
    rcases Int.lt_trichotomy (q - p) 0 with h6 | h6 | h6
    · have := Int.mul_le_mul_of_nonneg_left (show q - p ≤ -1 by omega) (show 0 ≤ b by omega)
      omega
    · omega
    · have := Int.mul_le_mul_of_nonneg_left (show 1 ≤ q - p by omega) (show 0 ≤ b by omega)
      omega
theorem dyDown_gen (a b : Int) (ha : -4611686018427387904 ≤ a ∧ a ≤ 4611686018427387904) (hb : 0 < b) : spec_dyDown.f a b = some (a / b) := by
  have h1 := tdiv_floor a b hb
  have h2 : -4611686018427387904 ≤ Int.tdiv a b ∧ Int.tdiv a b ≤ 4611686018427387904 := by
    have h3 : (Int.tdiv a b).natAbs ≤ a.natAbs := by rw [Int.natAbs_tdiv]; exact Nat.div_le_self _ _
    omega
  unfold spec_dyDown.f spec_dyDown.g; try simp only [cnd3]
  try simp only [cnd4, decide_eq_true_eq]
  rw [if_neg (by omega), if_neg (by omega)]
  by_cases h : Int.tmod a b < 0
  · rw [if_pos h] at h1 ⊢
    congr 1
    rw [show wrap64 (Int.tdiv a b) = Int.tdiv a b by unfold wrap64; omega]
    unfold wrap64; omega
  · rw [if_neg h] at h1 ⊢
    congr 1
    unfold wrap64; omega
theorem dyFloor_eq (n k : Int) (hn : -1099511627776 ≤ n ∧ n ≤ 1099511627776) (hk : 0 ≤ k ∧ k ≤ 24) : spec_dyFloor.f n k = some (n / 2 ^ k.toNat) := by
  unfold spec_dyFloor.f spec_dyFloor.g
  rw [dyPower62 k ⟨hk.1, by omega⟩, Option.bind_some, dyDown_gen n _ ⟨by omega, by omega⟩ (by have := pow1 k.toNat; omega)]; rfl
theorem dyAt_l0 (t k0 : Int) (d : Nat) : ∀ (n i : Int), 0 ≤ i → i ≤ t → t ≤ 1000 → (t - i).toNat = d → -1152921504606846976 ≤ n * 2 ^ d ∧ n * 2 ^ d ≤ 1152921504606846976 → Et (fun z zn => spec_dyAt.l0 z zn t i n k0) (n * 2 ^ d, true) := by
  induction d with
  | zero =>
    intro n i h0 hi ht hd hn
    refine Et.step (fun z zn => rfl) ?_
    simp only [spec_dyAt.l0, spec_dyAt.s0, cnd3]; simp only [cnd4, decide_eq_true_eq]
    refine Et_if (fun h => by omega) (fun _ => ?_)
    refine Et_eq (Et.now _) ?_
    simp
  | succ d ih =>
    intro n i h0 hi ht hd hn
    have e : n * 2 ^ (d + 1) = n * 2 * 2 ^ d := by rw [Int.pow_succ]; grind
    have hp := pow1 d
    have hn2 : -1152921504606846976 ≤ n * 2 ∧ n * 2 ≤ 1152921504606846976 := by
      rw [e] at hn
      obtain ⟨x, hx⟩ : ∃ x, n * 2 = x := ⟨_, rfl⟩
      rw [hx] at hn ⊢
      rcases Int.le_total 0 x with h | h
      · have := Int.mul_le_mul_of_nonneg_left hp h; omega
      · have := Int.mul_le_mul_of_nonneg_left hp (show 0 ≤ -x by omega)
        simp only [Int.neg_mul] at this; omega
    refine Et.step (fun z zn => rfl) ?_
    simp only [spec_dyAt.l0, spec_dyAt.s0, cnd3]; simp only [cnd4, decide_eq_true_eq]
    rw [show wrap64 (i + 1) = i + 1 by unfold wrap64; omega, show wrap64 (n * 2) = n * 2 by unfold wrap64; omega]
    refine Et_if (fun _ => Et_bindS (dyPower62 60 ⟨by omega, by omega⟩) (Et_bindS (dyPower62 60 ⟨by omega, by omega⟩) (Et_bindS (l1In_eq _ _ _) (Et_if (fun _ => ?_) (fun h => ?_))))) (fun h => by omega)
    · rw [e] at hn ⊢
      exact ih (n * 2) (i + 1) (by omega) (by omega) ht (by omega) hn
    · exfalso; apply h
      apply decide_eq_true
      have e60 : (2 : Int) ^ (60 : Int).toNat = 1152921504606846976 := by decide
      rw [e60, show wrap64 (-1152921504606846976) = -1152921504606846976 by unfold wrap64; omega]; omega
theorem dyAt_ev (n k t : Int) (hk : 0 ≤ k ∧ k ≤ t) (ht : t ≤ 1000) (hn : -1152921504606846976 ≤ n * 2 ^ (t - k).toNat ∧ n * 2 ^ (t - k).toNat ≤ 1152921504606846976) : Et (fun z zn => spec_dyAt.f z n k t) (n * 2 ^ (t - k).toNat, true) := by
  unfold spec_dyAt.f spec_dyAt.g; try simp only [cnd3]
  try simp only [cnd4, decide_eq_true_eq]
  refine Et_if (fun h => ?_) (fun _ => (dyAt_l0 t k _ n k hk.1 hk.2 ht rfl hn).diag)
  subst h; simp only [Int.zero_mul]; exact Et.now _
/-- The reference's comparison of dyadic numbers. -/
theorem dyCmp_ev (n1 k1 n2 k2 : Int) (hn1 : -1099511627776 ≤ n1 ∧ n1 ≤ 1099511627776) (hk1 : 0 ≤ k1 ∧ k1 ≤ 24) (hn2 : -1099511627776 ≤ n2 ∧ n2 ≤ 1099511627776) (hk2 : 0 ≤ k2 ∧ k2 ≤ 24) :
    Et (fun z zn => spec_dyCmp.f z n1 k1 n2 k2) (sgnI (dv n1 k1 - dv n2 k2)) := by
  have key : ∀ n k : Int, -1099511627776 ≤ n ∧ n ≤ 1099511627776 → 0 ≤ k ∧ k ≤ 24 → ∃ q r : Int, n / 2 ^ k.toNat = q ∧ -1099511627776 ≤ q ∧ q ≤ 1099511627776 ∧ wrap64 (n - wrap64 (q * 2 ^ k.toNat)) = r ∧ Et (fun z zn => spec_dyAt.f z r k 24) (r * 2 ^ (24 - k.toNat), true) ∧ dv n k = q * 16777216 + r * 2 ^ (24 - k.toNat) ∧ 0 ≤ r * 2 ^ (24 - k.toNat) ∧ r * 2 ^ (24 - k.toNat) < 16777216 := by
    intro n k hn hk
    obtain ⟨q, hq⟩ : ∃ q, n / 2 ^ k.toNat = q := ⟨_, rfl⟩
    have hp := pow1 k.toNat
    have hp2 := pow_le2 k.toNat 24 (by omega)
    have h1 := Int.mul_ediv_add_emod n (2 ^ k.toNat)
    have h2 := Int.emod_nonneg n (show (2 : Int) ^ k.toNat ≠ 0 by omega)
    have h3 := Int.emod_lt_of_pos n (show (0 : Int) < 2 ^ k.toNat by omega)
    rw [hq] at h1
    have hqr : -1099511627776 ≤ q ∧ q ≤ 1099511627776 := by
      rw [← hq]
      refine ⟨?_, ?_⟩
      · apply Int.le_ediv_of_mul_le (by omega)
        have := Int.mul_le_mul_of_nonneg_left hp (show (0 : Int) ≤ 1099511627776 by omega)
        omega
      · rcases Int.le_total 0 n with h | h
        · have := Int.ediv_le_self (2 ^ k.toNat) h; omega
        · have : n / 2 ^ k.toNat ≤ 0 := by
            have := Int.ediv_le_ediv (show (0 : Int) < 2 ^ k.toNat by omega) h
            simpa using this
          omega
    have hw : wrap64 (q * 2 ^ k.toNat) = q * 2 ^ k.toNat := by
      have : q * 2 ^ k.toNat = 2 ^ k.toNat * q := Int.mul_comm _ _
      unfold wrap64; omega
    have hr : wrap64 (n - wrap64 (q * 2 ^ k.toNat)) = n % 2 ^ k.toNat := by
      rw [hw]
      have : q * 2 ^ k.toNat = 2 ^ k.toNat * q := Int.mul_comm _ _
      unfold wrap64; omega
    have e24 : (24 : Int) - k = ((24 - k.toNat : Nat) : Int) := by omega
    have hp24 : (2 : Int) ^ (24 - k.toNat) * 2 ^ k.toNat = 16777216 := by rw [← pow_split 24 k.toNat (by omega)]; rfl
    have hb0 : 0 ≤ n % 2 ^ k.toNat * 2 ^ (24 - k.toNat) := Int.mul_nonneg h2 (by have := pow1 (24 - k.toNat); omega)
    have hb1 : n % 2 ^ k.toNat * 2 ^ (24 - k.toNat) < 16777216 := by
      have := Int.mul_lt_mul_of_pos_right h3 (show (0 : Int) < 2 ^ (24 - k.toNat) by have := pow1 (24 - k.toNat); omega)
      rw [Int.mul_comm (2 ^ k.toNat)] at this; omega
    refine ⟨q, n % 2 ^ k.toNat, hq, hqr.1, hqr.2, hr, ?_, ?_, hb0, hb1⟩
    · have h := dyAt_ev (n % 2 ^ k.toNat) k 24 hk (by omega) (by rw [e24, Int.toNat_natCast]; omega)
      rw [e24, Int.toNat_natCast] at h; exact h
    · unfold dv
      have e : n * 2 ^ (24 - k.toNat) = (2 ^ k.toNat * q + n % 2 ^ k.toNat) * 2 ^ (24 - k.toNat) := by rw [h1]
      rw [e, Int.add_mul, Int.mul_comm (2 ^ k.toNat) q, Int.mul_assoc, Int.mul_comm (2 ^ k.toNat) (2 ^ (24 - k.toNat)), hp24]
  obtain ⟨q1, r1, a1, a2, a3, a4, a5, a6, a7, a8⟩ := key n1 k1 hn1 hk1
  obtain ⟨q2, r2, b1, b2, b3, b4, b5, b6, b7, b8⟩ := key n2 k2 hn2 hk2
  have f1 := dyFloor_eq n1 k1 hn1 hk1
  have f2 := dyFloor_eq n2 k2 hn2 hk2
  rw [a1] at f1
  rw [b1] at f2
  rw [a6, b6]
  obtain ⟨x, hx⟩ : ∃ x, r1 * 2 ^ (24 - k1.toNat) = x := ⟨_, rfl⟩
  obtain ⟨y, hy⟩ : ∃ y, r2 * 2 ^ (24 - k2.toNat) = y := ⟨_, rfl⟩
  rw [hx] at a5 a7 a8 ⊢
  rw [hy] at b5 b7 b8 ⊢
  unfold spec_dyCmp.f spec_dyCmp.g; try simp only [cnd3]
  try simp only [cnd4, decide_eq_true_eq]
  refine Et_bindS f1 (Et_bindS f2 (Et_if (fun h => ?_) (fun h => ?_)))
  · subst h
    refine Et_bindS (dyPower62 k1 ⟨hk1.1, by omega⟩) ?_
    rw [a4]
    refine Et.bind a5 (Et_bindS (dyPower62 k2 ⟨hk2.1, by omega⟩) ?_)
    rw [b4]
    refine Et.bind b5 (Et_bindS (l1Sign_eq _) (Et_eq (Et.now _) ?_))
    rw [show wrap64 (x - y) = q1 * 16777216 + x - (q1 * 16777216 + y) by unfold wrap64; omega]
  · refine Et_bindS (l1Sign_eq _) (Et_eq (Et.now _) ?_)
    rw [show wrap64 (q1 - q2) = q1 - q2 by unfold wrap64; omega]
    rcases Int.lt_or_gt_of_ne h with h1 | h1
    · rw [sgn_neg _ (by omega), sgn_neg (q1 * 16777216 + x - (q2 * 16777216 + y)) (by omega)]
    · rw [sgn_pos _ (by omega), sgn_pos (q1 * 16777216 + x - (q2 * 16777216 + y)) (by omega)]
/-- A valid dyadic number. -/
def dyB (n k : Int) : Bool := if decide (0 ≤ k ∧ k ≤ 24) then (if decide ((-1099511627776) ≤ n ∧ n ≤ 1099511627776) then (if k = 0 then true else (Int.tmod n 2 != 0)) else false) else false
theorem bne_two (x : Int) : (!decide (Int.tmod x 2 = 0)) = (Int.tmod x 2 != 0) := by
  by_cases h : Int.tmod x 2 = 0 <;> simp [h]
theorem dyGood_eq (n k : Int) : spec_dyGood.f n k = some (dyB n k) := by
  unfold spec_dyGood.f spec_dyGood.g dyB; simp only [l1In_eq, Option.bind_some, bne_two, cnd4, decide_eq_true_eq]
  split <;> (try split) <;> (try split) <;> rfl
theorem dyB_range (n k : Int) (h : dyB n k = true) : (0 ≤ k ∧ k ≤ 24) ∧ ((-1099511627776) ≤ n ∧ n ≤ 1099511627776) := by
  unfold dyB at h
  by_cases h1 : 0 ≤ k ∧ k ≤ 24
  · rw [decide_eq_true h1, if_pos rfl] at h
    by_cases h2 : (-1099511627776) ≤ n ∧ n ≤ 1099511627776
    · exact ⟨h1, h2⟩
    · rw [decide_eq_false h2] at h; simp at h
  · rw [decide_eq_false h1] at h; simp at h
theorem sizeW_eq (n : Int) (h : -9223372036854775807 ≤ n ∧ n ≤ 9223372036854775807) : impl_size.f n = some ((n.natAbs : Nat) : Int) := by
  unfold impl_size.f impl_size.g; try simp only [cnd3]
  try simp only [cnd4, decide_eq_true_eq]
  by_cases h0 : n < 0
  · rw [if_pos h0, show wrap64 (-n) = -n by unfold wrap64; omega, u64r _ ⟨by omega, by omega⟩]; congr 1; omega
  · rw [if_neg h0, u64r _ ⟨by omega, by omega⟩]; congr 1; omega
theorem wideOf_eq (n : Int) (h : -9223372036854775807 ≤ n ∧ n ≤ 9223372036854775807) : impl_wideOf.f n = some (decide (n < 0), 0, ((n.natAbs : Nat) : Int)) := by
  unfold impl_wideOf.f impl_wideOf.g; rw [sizeW_eq n h]; rfl
/-- What a wide number is. -/
def wv (neg : Bool) (hi lo : Int) : Int := if neg = true then -(hi * 18446744073709551616 + lo) else hi * 18446744073709551616 + lo
def wordB (x : Int) : Prop := 0 ≤ x ∧ x < 18446744073709551616
theorem shift_left (neg : Bool) (m : Int) (hm : wordB m) (s : Nat) (hs : s ≤ 63) : impl_wide_shift.f neg 0 m (s : Int) = some (neg, m / 2 ^ (64 - s), m * 2 ^ s % 18446744073709551616) := by
  have e1 : wrap64 (64 - (s : Int)) = ((64 - s : Nat) : Int) := by unfold wrap64; omega
  unfold impl_wide_shift.f impl_wide_shift.g; try simp only [cnd3]
  try simp only [cnd4, decide_eq_true_eq]
  rw [if_pos (by omega), if_neg (by omega), if_neg (by omega), e1, if_neg (by omega), if_neg (by omega), shl64 _ s (by omega), shl64 _ s (by omega), shr64 _ _ (by omega)]
  have h1 := pow1 (64 - s)
  have h2 : 0 ≤ m / 2 ^ (64 - s) := Int.ediv_nonneg hm.1 (by omega)
  have h3 : m / 2 ^ (64 - s) ≤ m := Int.ediv_le_self _ hm.1
  have h4 := or64 0 (m / 2 ^ (64 - s)) 64 (by omega) ⟨h2, by have := hm.2; omega⟩ (by have := hm.2; omega)
  simp only [Int.zero_mul, Int.zero_add] at h4
  rw [show (0 : Int) * 2 ^ s % 18446744073709551616 = 0 by simp, h4]
theorem shift_val (neg : Bool) (m : Int) (s : Nat) (hs : s ≤ 63) : wv neg (m / 2 ^ (64 - s)) (m * 2 ^ s % 18446744073709551616) = if neg = true then -(m * 2 ^ s) else m * 2 ^ s := by
  unfold wv
  rw [← split64 m s (by omega)]
  have := Int.mul_ediv_add_emod (m * 2 ^ s) 18446744073709551616
  split <;> omega
theorem cmpU_eq (a b : Int) : cmp_Compare_uint64.f a b = some (sgnI (a - b)) := by
  unfold cmp_Compare_uint64.f cmp_Compare_uint64.g cmp_isNaN_uint64.f cmp_isNaN_uint64.g
  simp only [Option.bind_some, decide_true, Bool.not_true, cnd4, decide_eq_true_eq, Bool.false_eq_true, if_false]
  by_cases h : a < b
  · rw [if_pos h, sgn_neg _ (by omega)]
  · rw [if_neg h]
    by_cases h2 : b < a
    · rw [if_pos h2, sgn_pos _ (by omega)]
    · rw [if_neg h2, show a - b = 0 by omega]; rfl
theorem getD_at {α : Type} (l : List α) (d : α) (i : Nat) : l.getD (i : Int).toNat d = l.getD i d := by rw [Int.toNat_natCast]
/-- The first number that is not 0. -/
def firstN : List Int → Int
  | [] => 0
  | x :: l => if x = 0 then firstN l else x
theorem cmpOr_l0 (l : List Int) (hl : l.length ≤ 1000000) (d : Nat) : ∀ i : Nat, l.length - i = d → i ≤ l.length → Et (fun z zn => cmp_Or_int.l0 z zn 0 l (l.length : Int) (i : Int)) (firstN (l.drop i)) := by
  induction d with
  | zero =>
    intro i hd hi
    refine Et.step (fun z zn => rfl) ?_
    simp only [cmp_Or_int.l0, cmp_Or_int.s0, cnd3]; simp only [cnd4, decide_eq_true_eq]
    rw [List.drop_eq_nil_of_le (by omega)]
    exact Et_if (fun h => by omega) (fun _ => Et.now _)
  | succ d ih =>
    intro i hd hi
    have e : l.drop i = rd l (i : Int) :: l.drop (i + 1) := by
      rw [List.drop_eq_getElem_cons (by omega)]; congr 1; simp [rd, show i < l.length by omega]
    refine Et.step (fun z zn => rfl) ?_
    simp only [cmp_Or_int.l0, cmp_Or_int.s0, cnd3]; simp only [cnd4, decide_eq_true_eq]
    rw [e, wrap_next i (by omega)]
    simp only [firstN]
    refine Et_if (fun _ => Et_if (fun _ => Et_if (fun _ => Et_if (fun h => ?_) (fun h => ?_)) (fun h => by omega)) (fun h => by omega)) (fun h => by omega)
    · rw [if_pos h]; exact ih (i + 1) (by omega) (by omega)
    · rw [if_neg h]; exact Et.now _
theorem cmpOr_ev (l : List Int) (hl : l.length ≤ 1000000) : Et (fun z zn => cmp_Or_int.f z l) (firstN l) := by
  have := (cmpOr_l0 l hl l.length 0 (by omega) (by omega)).diag
  exact this
theorem cmpSizes_ev (n1 n2 : Bool) (h1 l1 h2 l2 : Int) (a1 : wordB h1) (a2 : wordB l1) (a3 : wordB h2) (a4 : wordB l2) : Et (fun k zn => impl_compareSizes.f k n1 h1 l1 n2 h2 l2) (sgnI ((h1 * 18446744073709551616 + l1) - (h2 * 18446744073709551616 + l2))) := by
  unfold impl_compareSizes.f impl_compareSizes.g
  refine Et_bindS (cmpU_eq _ _) (Et_bindS (cmpU_eq _ _) (Et.bind (cmpOr_ev _ (by simp)) ?_))
  refine Et_eq (Et.now _) ?_
  unfold wordB at *
  by_cases e1 : h1 - h2 > 0
  · rw [sgn_pos _ e1, sgn_pos (h1 * 18446744073709551616 + l1 - (h2 * 18446744073709551616 + l2)) (by omega)]; rfl
  · by_cases e2 : h1 - h2 < 0
    · rw [sgn_neg _ e2, sgn_neg (h1 * 18446744073709551616 + l1 - (h2 * 18446744073709551616 + l2)) (by omega)]; rfl
    · have : h1 = h2 := by omega
      subst this
      rw [Int.sub_self, show h1 * 18446744073709551616 + l1 - (h1 * 18446744073709551616 + l2) = l1 - l2 by omega]
      show (if (0 : Int) = 0 then (if sgnI (l1 - l2) = 0 then 0 else sgnI (l1 - l2)) else 0) = _
      rw [if_pos rfl]; split
      · rename_i h; exact h.symm
      · rfl
theorem isZero_eq (n : Bool) (h l : Int) (a1 : wordB h) (a2 : wordB l) : impl_wide_isZero.f n h l = some (decide (h * 18446744073709551616 + l = 0)) := by
  unfold impl_wide_isZero.f impl_wide_isZero.g; simp only [cnd4, decide_eq_true_eq]
  unfold wordB at *
  by_cases e : h = 0
  · subst e; rw [if_pos rfl]; congr 1
    by_cases e2 : l = 0
    · subst e2; rfl
    · rw [decide_eq_false (by omega)]; simp [e2]
  · rw [if_neg e, decide_eq_false (by omega)]
theorem cmpWide_ev (n1 n2 : Bool) (h1 l1 h2 l2 : Int) (a1 : wordB h1) (a2 : wordB l1) (a3 : wordB h2) (a4 : wordB l2) : Et (fun k zn => impl_compareWide.f k n1 h1 l1 n2 h2 l2) (sgnI (wv n1 h1 l1 - wv n2 h2 l2)) := by
  have s1 := cmpSizes_ev n1 n2 h1 l1 h2 l2 a1 a2 a3 a4
  have s2 := cmpSizes_ev n2 n1 h2 l2 h1 l1 a3 a4 a1 a2
  have z1 := isZero_eq n1 h1 l1 a1 a2
  have z2 := isZero_eq n2 h2 l2 a3 a4
  unfold wordB at *
  obtain ⟨m1, e1⟩ : ∃ m, h1 * 18446744073709551616 + l1 = m := ⟨_, rfl⟩
  obtain ⟨m2, e2⟩ : ∃ m, h2 * 18446744073709551616 + l2 = m := ⟨_, rfl⟩
  have p1 : 0 ≤ m1 := by omega
  have p2 : 0 ≤ m2 := by omega
  have v1 : wv n1 h1 l1 = if n1 = true then -m1 else m1 := by unfold wv; rw [e1]
  have v2 : wv n2 h2 l2 = if n2 = true then -m2 else m2 := by unfold wv; rw [e2]
  rw [e1, e2] at s1
  rw [e2, e1] at s2
  rw [e1] at z1
  rw [e2] at z2
  have fin : ∀ b c : Bool, ¬ (m1 = 0 ∧ m2 = 0) → Et (fun k zn => bif !(n1 == n2) then (bif n1 then some (-1) else some 1) else (bif n1 then (impl_compareSizes.f k n2 h2 l2 n1 h1 l1).bind fun t => some t else impl_compareWide.j105 k n1 h1 l1 n2 h2 l2 b c)) (sgnI (wv n1 h1 l1 - wv n2 h2 l2)) := by
    intro b c hz
    rw [v1, v2]
    cases n1 <;> cases n2
    · exact Et.bind s1 (Et.now _)
    · refine Et_eq (Et.now (1 : Int)) ?_
      rw [if_neg (by decide), if_pos rfl, sgn_pos _ (by omega)]
    · refine Et_eq (Et.now (-1 : Int)) ?_
      rw [if_pos rfl, if_neg (by decide), sgn_neg (-m1 - m2) (by omega)]
    · refine Et.bind s2 (Et_eq (Et.now _) ?_)
      rw [if_pos rfl, if_pos rfl, show -m1 - -m2 = m2 - m1 by omega]
  unfold impl_compareWide.f impl_compareWide.g
  refine Et_bindS z1 ?_
  by_cases h : m1 = 0
  · rw [decide_eq_true h]
    refine Et_bindS z2 ?_
    by_cases h2 : m2 = 0
    · rw [decide_eq_true h2]
      refine Et_eq (Et.now (0 : Int)) ?_
      rw [v1, v2, h, h2]; simp [sgnI]
    · rw [decide_eq_false h2]; exact fin true false (fun hh => h2 hh.2)
  · rw [decide_eq_false h]; exact fin false false (fun hh => h hh.1)
theorem maxI_if (a b : Int) : maxI a b = if a < b then b else a := by unfold maxI; rw [cnd4]; simp only [decide_eq_true_eq]
theorem dv_shift (n k K : Int) (hk : 0 ≤ k ∧ k ≤ K) (hK : K ≤ 24) : dv n k = 2 ^ (24 - K.toNat) * (n * 2 ^ (K - k).toNat) := by
  unfold dv
  have e : 24 - k.toNat = (24 - K.toNat) + (K - k).toNat := by omega
  rw [e, Int.pow_add, ← Int.mul_assoc, Int.mul_comm n, Int.mul_assoc]
theorem word_shift (m : Int) (hm : wordB m) (s : Nat) (hs : s ≤ 63) : wordB (m / 2 ^ (64 - s)) ∧ wordB (m * 2 ^ s % 18446744073709551616) := by
  have h1 := pow1 (64 - s)
  have h2 : 0 ≤ m / 2 ^ (64 - s) := Int.ediv_nonneg hm.1 (by omega)
  have h3 : m / 2 ^ (64 - s) ≤ m := Int.ediv_le_self _ hm.1
  have h4 := hm.2
  exact ⟨⟨h2, by omega⟩, ⟨Int.emod_nonneg _ (by omega), Int.emod_lt_of_pos _ (by omega)⟩⟩
/-- The program's comparison of dyadic numbers. -/
theorem compareD_ev (n1 k1 n2 k2 : Int) (hn1 : -1099511627776 ≤ n1 ∧ n1 ≤ 1099511627776) (hk1 : 0 ≤ k1 ∧ k1 ≤ 24) (hn2 : -1099511627776 ≤ n2 ∧ n2 ≤ 1099511627776) (hk2 : 0 ≤ k2 ∧ k2 ≤ 24) :
    Et (fun z zn => impl_compareD.f z n1 k1 n2 k2) (sgnI (dv n1 k1 - dv n2 k2)) := by
  obtain ⟨K, hK⟩ : ∃ K, maxI k1 k2 = K := ⟨_, rfl⟩
  have hKr : k1 ≤ K ∧ k2 ≤ K ∧ K ≤ 24 := by rw [← hK]; rw [maxI_if]; split <;> omega
  have w : ∀ n k : Int, -1099511627776 ≤ n ∧ n ≤ 1099511627776 → 0 ≤ k ∧ k ≤ K → impl_wideOf.f n = some (decide (n < 0), 0, ((n.natAbs : Nat) : Int)) ∧ wordB ((n.natAbs : Nat) : Int) ∧ wrap64 (K - k) = (((K - k).toNat : Nat) : Int) ∧ (K - k).toNat ≤ 63 := by
    intro n k hn hk
    exact ⟨wideOf_eq n ⟨by omega, by omega⟩, ⟨by omega, by omega⟩, by unfold wrap64; omega, by omega⟩
  obtain ⟨a1, b1, c1, d1⟩ := w n1 k1 hn1 ⟨hk1.1, by omega⟩
  obtain ⟨a2, b2, c2, d2⟩ := w n2 k2 hn2 ⟨hk2.1, by omega⟩
  have f1 := shift_left (decide (n1 < 0)) _ b1 _ d1
  have f2 := shift_left (decide (n2 < 0)) _ b2 _ d2
  obtain ⟨g1, g2⟩ := word_shift _ b1 _ d1
  obtain ⟨g3, g4⟩ := word_shift _ b2 _ d2
  have v : ∀ (n : Int) (s : Nat), s ≤ 63 → wv (decide (n < 0)) (((n.natAbs : Nat) : Int) / 2 ^ (64 - s)) (((n.natAbs : Nat) : Int) * 2 ^ s % 18446744073709551616) = n * 2 ^ s := by
    intro n s hs
    rw [shift_val _ _ s hs]
    by_cases h : n < 0
    · rw [decide_eq_true h, if_pos rfl, ← Int.neg_mul, show -((n.natAbs : Nat) : Int) = n by omega]
    · rw [decide_eq_false h, if_neg (by decide), show ((n.natAbs : Nat) : Int) = n by omega]
  unfold impl_compareD.f impl_compareD.g
  rw [hK, c1, c2]
  refine Et_bindS a1 (Et_bindS f1 (Et_bindS a2 (Et_bindS f2 (Et.bind (cmpWide_ev _ _ _ _ _ _ g1 g2 g3 g4) (Et_eq (Et.now _) ?_)))))
  rw [v n1 _ d1, v n2 _ d2, dv_shift n1 k1 K ⟨hk1.1, hKr.1⟩ hKr.2.2, dv_shift n2 k2 K ⟨hk2.1, hKr.2.1⟩ hKr.2.2, ← Int.mul_sub, sgn_mul _ _ (by have := pow1 (24 - K.toNat); omega)]
theorem absmul (x y a b : Int) (hx : -a ≤ x ∧ x ≤ a) (hy : -b ≤ y ∧ y ≤ b) : -(a * b) ≤ x * y ∧ x * y ≤ a * b := by
  have h1 : x.natAbs ≤ a.toNat := by omega
  have h2 : y.natAbs ≤ b.toNat := by omega
  have h := Nat.mul_le_mul h1 h2
  rw [← Int.natAbs_mul] at h
  have e : ((a.toNat * b.toNat : Nat) : Int) = a * b := by rw [Int.natCast_mul, Int.toNat_of_nonneg (by omega), Int.toNat_of_nonneg (by omega)]
  have h3 : (((x * y).natAbs : Nat) : Int) ≤ a * b := by rw [← e]; exact_mod_cast h
  omega
/-- n over 2 to the power of k, with the least k. -/
def nrm : Nat → Int → Int × Int
  | 0, n => (n, 0)
  | k + 1, n => if n % 2 = 0 then nrm k (n / 2) else (n, ((k + 1 : Nat) : Int))
theorem tmod2 (n : Int) : Int.tmod n 2 = 0 ↔ n % 2 = 0 := by
  constructor
  · intro h
    have h1 := Int.mul_tdiv_add_tmod n 2
    omega
  · intro h
    have h1 : n = 2 * (n / 2) := by omega
    rw [h1, Int.mul_comm, Int.mul_tmod_left]
theorem tdiv2 (n : Int) (h : n % 2 = 0) : Int.tdiv n 2 = n / 2 := by
  have h1 := Int.mul_tdiv_add_tmod n 2
  have h2 := (tmod2 n).2 h
  omega
theorem nrm_form (k : Nat) : ∀ n, (0 ≤ (nrm k n).2 ∧ (nrm k n).2 ≤ (k : Int)) ∧ ((nrm k n).2 = 0 ∨ (nrm k n).1 % 2 ≠ 0) := by
  induction k with
  | zero => intro n; simp [nrm]
  | succ k ih =>
    intro n
    simp only [nrm]
    split
    · obtain ⟨⟨h1, h2⟩, h3⟩ := ih (n / 2)
      exact ⟨⟨h1, by omega⟩, h3⟩
    · rename_i h
      exact ⟨⟨by simp only; omega, by simp⟩, .inr h⟩
theorem nrm_neg (k : Nat) : ∀ n, nrm k (-n) = (-(nrm k n).1, (nrm k n).2) := by
  induction k with
  | zero => intro n; rfl
  | succ k ih =>
    intro n
    simp only [nrm]
    by_cases h : n % 2 = 0
    · rw [if_pos h, if_pos (by omega), show -n / 2 = -(n / 2) by omega]; exact ih _
    · rw [if_neg h, if_neg (by omega)]
theorem nrm_scale (k s : Nat) (n : Int) : nrm (k + s) (n * 2 ^ s) = nrm k n := by
  induction s with
  | zero => simp
  | succ s ih =>
    rw [Int.pow_succ, ← Int.mul_assoc, ← Nat.add_assoc]
    simp only [nrm]
    rw [if_pos (by omega), show n * 2 ^ s * 2 / 2 = n * 2 ^ s by omega]
    exact ih
theorem dyB_nrm (k : Nat) (n : Int) : dyB (nrm k n).1 (nrm k n).2 = true ↔ (nrm k n).2 ≤ 24 ∧ (-1099511627776 ≤ (nrm k n).1 ∧ (nrm k n).1 ≤ 1099511627776) := by
  obtain ⟨⟨h1, h2⟩, h3⟩ := nrm_form k n
  generalize nrm k n = m at *
  constructor
  · intro h
    have := dyB_range _ _ h
    exact ⟨this.1.2, this.2⟩
  · rintro ⟨h4, h5⟩
    unfold dyB
    rw [decide_eq_true (show 0 ≤ m.2 ∧ m.2 ≤ 24 from ⟨h1, h4⟩), if_pos rfl, decide_eq_true h5, if_pos rfl]
    split
    · rfl
    · have h6 : ¬ Int.tmod m.1 2 = 0 := by
        rw [tmod2]; rcases h3 with h | h
        · contradiction
        · exact h
      simpa using h6
/-- What dyMake tells of its least form. -/
def mkR (m : Int × Int) : Int × Int × Bool := cond (dyB m.1 m.2) (m.1, m.2, true) (0, 0, false)
theorem good_ev (n k : Int) : Et (fun _ zn => (spec_dyGood.f n k).bind fun t => if t = true then some (n, k, true) else some (0, 0, false)) (mkR (n, k)) := by
  refine Et_bindS (dyGood_eq _ _) ?_
  unfold mkR
  simp only
  cases dyB n k with
  | true => exact Et.now _
  | false => exact Et.now _
theorem dyMake_l0 (b0 b1 : Int) (k : Nat) : ∀ n : Int, (-9000000000000000000 ≤ n ∧ n ≤ 9000000000000000000) → k ≤ 100 → Et (fun z zn => spec_dyMake.l0 z zn n (k : Int) b0 b1) (mkR (nrm k n)) := by
  induction k with
  | zero =>
    intro n hn hk
    refine Et.step (fun z zn => rfl) ?_
    simp only [spec_dyMake.l0, spec_dyMake.s0, cnd3]; simp only [cnd4, decide_eq_true_eq, nrm]
    exact Et_if (fun h => by omega) (fun _ => good_ev n 0)
  | succ k ih =>
    intro n hn hk
    refine Et.step (fun z zn => rfl) ?_
    simp only [spec_dyMake.l0, spec_dyMake.s0, cnd3]; simp only [cnd4, decide_eq_true_eq, nrm]
    refine Et_if (fun _ => Et_if (fun h => ?_) (fun h => ?_)) (fun h => by omega)
    · have h2 := (tmod2 n).1 h
      rw [if_pos h2, tdiv2 n h2, show wrap64 (n / 2) = n / 2 by unfold wrap64; omega, show wrap64 (((k + 1 : Nat) : Int) - 1) = (k : Int) by unfold wrap64; omega]
      exact ih (n / 2) (by omega) (by omega)
    · have h2 : ¬ n % 2 = 0 := fun h2 => h ((tmod2 n).2 h2)
      rw [if_neg h2]
      exact good_ev n _
theorem dyMake_ev (k : Nat) (n : Int) (hn : -9000000000000000000 ≤ n ∧ n ≤ 9000000000000000000) (hk : k ≤ 100) (h0 : n ≠ 0) : Et (fun z zn => spec_dyMake.f z n (k : Int)) (mkR (nrm k n)) := by
  unfold spec_dyMake.f spec_dyMake.g spec_dyMake.j101; simp only [cnd4, decide_eq_true_eq]
  exact Et_if (fun h => absurd h h0) (fun _ => (dyMake_l0 0 0 k n hn hk).diag)
theorem dyMake_zero (k : Nat) : Et (fun z zn => spec_dyMake.f z 0 (k : Int)) (0, 0, true) := by
  have h0 : Et (fun z zn => spec_dyMake.l0 z zn 0 0 0 0) (0, 0, true) := dyMake_l0 0 0 0 0 (by omega) (by omega)
  unfold spec_dyMake.f spec_dyMake.g spec_dyMake.j101; simp only [cnd4, decide_eq_true_eq]
  refine Et_if (fun _ => Et_if (fun _ => h0.diag) (fun h => ?_)) (fun h => absurd trivial h)
  have hk : (k : Int) = 0 := by omega
  rw [hk]
  exact h0.diag
/-- What fit tells of a size and its places. -/
def fitR (neg : Bool) (m : Int × Int) : Int × Int × Bool := if m.2 > 24 ∨ m.1 > 1099511627776 then (0, 0, false) else (if neg = true then -m.1 else m.1, m.2, true)
theorem or_comm64 (a b : Int) : orI .u64 a b = orI .u64 b a := by
  unfold orI
  simp only [BitVec.or_comm]
/-- Half of a number of two words. -/
theorem shift_half2 (neg : Bool) (h l : Int) (hh : wordB h) (hl : wordB l) : impl_wide_shift.f neg h l (-1) = some (neg, h / 2, l / 2 + h % 2 * 9223372036854775808) := by
  have s1 : shrI .u64 h 1 = h / 2 := by have := shr64 h 1 (by omega); simpa using this
  have s2 : shrI .u64 l 1 = l / 2 := by have := shr64 l 1 (by omega); simpa using this
  have s3 : shlI .u64 h 63 = h % 2 * 9223372036854775808 := by
    have := shl64 h 63 (by omega)
    rw [show ((63 : Nat) : Int) = 63 from rfl, show (2 : Int) ^ 63 = 9223372036854775808 by decide] at this
    rw [this]; omega
  have s4 : orI .u64 (l / 2) (h % 2 * 9223372036854775808) = l / 2 + h % 2 * 9223372036854775808 := by
    unfold wordB at hh hl
    have := or64 (h % 2) (l / 2) 63 (by omega) ⟨by omega, by rw [show (2 : Int) ^ 63 = 9223372036854775808 by decide]; omega⟩ (by rw [show (2 : Int) ^ 63 = 9223372036854775808 by decide]; omega)
    rw [show (2 : Int) ^ 63 = 9223372036854775808 by decide] at this
    rw [or_comm64, this]; omega
  unfold impl_wide_shift.f impl_wide_shift.g; try simp only [cnd3]
  try simp only [cnd4, decide_eq_true_eq]
  rw [if_neg (by omega), show wrap64 (-(-1 : Int)) = 1 by unfold wrap64; omega, if_neg (by omega), if_neg (by omega), if_neg (by omega), show wrap64 (64 - (1 : Int)) = 63 by unfold wrap64; omega, if_neg (by omega), s1, s2, s3, s4]
theorem fit_j1W (neg : Bool) (h l k : Int) (hh : wordB h) (hl : wordB l) : Et (fun z zn => if 24 < k then some (0, 0, false) else if 0 < h then some (0, 0, false) else if 1099511627776 < l then some (0, 0, false) else if neg = true then some (wrap64 (-wrap64 l), k, true) else some (wrap64 l, k, true)) (fitR neg (h * 18446744073709551616 + l, k)) := by
  unfold wordB at hh hl
  unfold fitR
  refine Et_if (fun h1 => ?_) (fun h1 => Et_if (fun h2 => ?_) (fun h2 => ?_))
  · rw [if_pos (.inl h1)]; exact Et.now _
  · rw [if_pos (.inr (by show h * 18446744073709551616 + l > 1099511627776; omega))]; exact Et.now _
  · have h0 : h = 0 := by omega
    subst h0
    refine Et_if (fun h2 => ?_) (fun h2 => ?_)
    · rw [if_pos (.inr (by show (0 : Int) * 18446744073709551616 + l > 1099511627776; omega))]; exact Et.now _
    · have hc : ¬ (k > 24 ∨ (0 : Int) * 18446744073709551616 + l > 1099511627776) := by rintro (h5 | h5); exact h1 h5; omega
      rw [show wrap64 l = l by unfold wrap64; omega, show wrap64 (-l) = -l by unfold wrap64; omega, if_neg hc]
      simp only [Int.zero_mul, Int.zero_add]
      exact Et_if (fun h => by rw [if_pos h]; exact Et.now _) (fun h => by rw [if_neg h]; exact Et.now _)
theorem fit_l0W (neg : Bool) (b0 b1 : Int) (k : Nat) : ∀ h l : Int, wordB h → wordB l → k ≤ 200 → Et (fun z zn => impl_wide_fit.l0 z zn (k : Int) neg h l b0 b1) (fitR neg (nrm k (h * 18446744073709551616 + l))) := by
  induction k with
  | zero =>
    intro h l hh hl hk
    refine Et.step (fun z zn => rfl) ?_
    simp only [impl_wide_fit.l0, impl_wide_fit.s0, cnd3]; simp only [cnd4, decide_eq_true_eq, nrm]
    exact Et_if (fun h => by omega) (fun _ => fit_j1W neg h l 0 hh hl)
  | succ k ih =>
    intro h l hh hl hk
    refine Et.step (fun z zn => rfl) ?_
    simp only [impl_wide_fit.l0, impl_wide_fit.s0, cnd3]; simp only [cnd4, decide_eq_true_eq, nrm]
    refine Et_if (fun _ => Et_if (fun h1 => ?_) (fun h1 => ?_)) (fun h => by omega)
    · have h2 := (tmod2 l).1 h1
      rw [if_pos (by omega), shift_half2 neg h l hh hl, show wrap64 (((k + 1 : Nat) : Int) - 1) = (k : Int) by unfold wrap64; omega]
      simp only [Option.bind_some]
      unfold wordB at hh hl
      have e := ih (h / 2) (l / 2 + h % 2 * 9223372036854775808) (by unfold wordB; omega) (by unfold wordB; omega) (by omega)
      rw [show h / 2 * 18446744073709551616 + (l / 2 + h % 2 * 9223372036854775808) = (h * 18446744073709551616 + l) / 2 by omega] at e
      exact e
    · have h2 : ¬ l % 2 = 0 := fun h2 => h1 ((tmod2 l).2 h2)
      rw [if_neg (show ¬ (h * 18446744073709551616 + l) % 2 = 0 by omega)]
      exact fit_j1W neg h l _ hh hl
/-- A whole number over 2 to the power of k, in its form, if that is a valid one. -/
def FIT (k : Nat) (R : Int) : Int × Int × Bool := if R = 0 then (0, 0, true) else mkR (nrm k R)
theorem nrm_sgn (k : Nat) : ∀ n, (n < 0 → (nrm k n).1 < 0) ∧ (0 < n → 0 < (nrm k n).1) := by
  induction k with
  | zero => intro n; simp only [nrm]; omega
  | succ k ih =>
    intro n
    simp only [nrm]
    split
    · obtain ⟨i1, i2⟩ := ih (n / 2)
      exact ⟨fun h => i1 (by omega), fun h => i2 (by omega)⟩
    · simp only; omega
theorem fitR_mkR (neg : Bool) (k : Nat) (m : Int) (hm : 0 < m) : fitR neg (nrm k m) = mkR (nrm k (if neg = true then -m else m)) := by
  have hs := (nrm_sgn k m).2 hm
  have e : nrm k (if neg = true then -m else m) = ((if neg = true then -(nrm k m).1 else (nrm k m).1), (nrm k m).2) := by
    cases neg with
    | true => rw [if_pos rfl, if_pos rfl, nrm_neg]
    | false => rw [if_neg (by decide), if_neg (by decide)]
  have hd := dyB_nrm k (if neg = true then -m else m)
  rw [e] at hd ⊢
  unfold fitR mkR
  generalize nrm k m = q at *
  obtain ⟨a, b⟩ := q
  simp only at hd hs ⊢
  by_cases hc : b > 24 ∨ a > 1099511627776
  · rw [if_pos hc]
    have : ¬ dyB (if neg = true then -a else a) b = true := by
      rw [hd]; intro h
      cases neg with
      | true => rw [if_pos rfl] at h; omega
      | false => rw [if_neg (by decide)] at h; omega
    rw [Bool.eq_false_iff.2 this]; rfl
  · rw [if_neg hc]
    have : dyB (if neg = true then -a else a) b = true := by
      rw [hd]
      cases neg with
      | true => rw [if_pos rfl]; omega
      | false => rw [if_neg (by decide)]; omega
    rw [this]; rfl
/-- The program's fit. -/
theorem fit_ev (neg : Bool) (h l : Int) (hh : wordB h) (hl : wordB l) (k : Nat) (hk : k ≤ 200) : Et (fun z zn => impl_wide_fit.f z neg h l (k : Int)) (FIT k (if neg = true then -(h * 18446744073709551616 + l) else h * 18446744073709551616 + l)) := by
  unfold impl_wide_fit.f impl_wide_fit.g; simp only [cnd4]
  refine Et_bindS (isZero_eq _ _ _ hh hl) (Et_if (fun h0 => ?_) (fun h0 => ?_))
  · have h1 : h * 18446744073709551616 + l = 0 := of_decide_eq_true h0
    rw [h1]
    unfold FIT
    rw [if_pos (by split <;> rfl)]
    exact Et.now _
  · have h1 : ¬ h * 18446744073709551616 + l = 0 := fun h1 => h0 (decide_eq_true h1)
    have h2 : 0 < h * 18446744073709551616 + l := by unfold wordB at hh hl; omega
    unfold FIT
    rw [if_neg (by split <;> omega), ← fitR_mkR neg k _ h2]
    exact (fit_l0W neg 0 0 k h l hh hl hk).diag
/-- The reference's form. -/
theorem dyMake_fit (k : Nat) (n : Int) (hn : -9000000000000000000 ≤ n ∧ n ≤ 9000000000000000000) (hk : k ≤ 100) : Et (fun z zn => spec_dyMake.f z n (k : Int)) (FIT k n) := by
  unfold FIT
  by_cases h0 : n = 0
  · subst h0; rw [if_pos rfl]; exact dyMake_zero k
  · rw [if_neg h0]; exact dyMake_ev k n hn hk h0
theorem nrm_val (k : Nat) : ∀ n, (nrm k n).1 * 2 ^ k = n * 2 ^ (nrm k n).2.toNat := by
  induction k with
  | zero => intro n; simp [nrm]
  | succ k ih =>
    intro n
    simp only [nrm]
    split
    · rename_i h
      have h1 := ih (n / 2)
      rw [Int.pow_succ, ← Int.mul_assoc, h1]
      obtain ⟨c, hc⟩ : ∃ c, n / 2 = c := ⟨_, rfl⟩
      have : n = 2 * c := by omega
      rw [hc, this]; grind
    · simp
theorem dyB_odd (n k : Int) (h : dyB n k = true) : k = 0 ∨ n % 2 ≠ 0 := by
  have hr := dyB_range n k h
  unfold dyB at h
  rw [decide_eq_true hr.1, if_pos rfl, decide_eq_true hr.2, if_pos rfl] at h
  by_cases hk : k = 0
  · exact .inl hk
  · rw [if_neg hk] at h
    refine .inr (fun h2 => ?_)
    have := (tmod2 n).2 h2
    simp [this] at h
theorem dyB_zero (k : Int) (h : dyB 0 k = true) : k = 0 := by
  rcases dyB_odd 0 k h with h1 | h1
  · exact h1
  · exact absurd rfl h1
/-- Two least forms of one number are one. -/
theorem form_one (n k n' k' : Int) (hk : 0 ≤ k) (hk' : 0 ≤ k') (ho : k = 0 ∨ n % 2 ≠ 0) (ho' : k' = 0 ∨ n' % 2 ≠ 0) (he : n * 2 ^ k'.toNat = n' * 2 ^ k.toNat) : n = n' ∧ k = k' := by
  have key : ∀ n k n' k' : Int, 0 ≤ k → 0 ≤ k' → (k = 0 ∨ n % 2 ≠ 0) → n * 2 ^ k'.toNat = n' * 2 ^ k.toNat → ¬ k' < k := by
    intro n k n' k' hk hk' ho he hlt
    have e : k.toNat = (k.toNat - k'.toNat - 1) + 1 + k'.toNat := by omega
    rw [e, Int.pow_add, ← Int.mul_assoc] at he
    have h2 := Int.eq_of_mul_eq_mul_right (show (2 : Int) ^ k'.toNat ≠ 0 by have := pow1 k'.toNat; omega) he
    rw [Int.pow_succ, ← Int.mul_assoc] at h2
    rcases ho with h3 | h3
    · omega
    · omega
  have e1 := key n k n' k' hk hk' ho he
  have e2 := key n' k' n k hk' hk ho' he.symm
  have e3 : k = k' := by omega
  subst e3
  exact ⟨Int.eq_of_mul_eq_mul_right (show (2 : Int) ^ k.toNat ≠ 0 by have := pow1 k.toNat; omega) he, rfl⟩
theorem FIT_some (k : Nat) (R n K : Int) (h : FIT k R = (n, K, true)) : dyB n K = true ∧ n * 2 ^ k = R * 2 ^ K.toNat := by
  unfold FIT at h
  by_cases h0 : R = 0
  · rw [if_pos h0] at h
    injection h with h1 h2
    injection h2 with h2 _
    subst h1; subst h2; subst h0
    exact ⟨by decide, by simp⟩
  · rw [if_neg h0] at h
    have hv := nrm_val k R
    unfold mkR at h
    cases hb : dyB (nrm k R).1 (nrm k R).2 with
    | true =>
      rw [hb] at h
      injection h with h1 h2
      injection h2 with h2 _
      rw [h1, h2] at hb hv
      exact ⟨hb, hv⟩
    | false =>
      rw [hb] at h
      injection h with h1 h2
      injection h2 with h2 h3
      cases h3
theorem FIT_of (k : Nat) (R n K : Int) (hb : dyB n K = true) (he : n * 2 ^ k = R * 2 ^ K.toNat) : FIT k R = (n, K, true) := by
  have hr := dyB_range n K hb
  unfold FIT
  by_cases h0 : R = 0
  · rw [if_pos h0]
    subst h0
    rw [Int.zero_mul] at he
    have hn : n = 0 := by
      rcases Int.mul_eq_zero.1 he with h | h
      · exact h
      · have := pow1 k; omega
    subst hn
    rw [dyB_zero K hb]
  · rw [if_neg h0]
    have hv := nrm_val k R
    obtain ⟨⟨f1, f2⟩, f3⟩ := nrm_form k R
    have hq : n * 2 ^ (nrm k R).2.toNat = (nrm k R).1 * 2 ^ K.toNat := by
      have h1 : n * 2 ^ (nrm k R).2.toNat * 2 ^ k = (nrm k R).1 * 2 ^ K.toNat * 2 ^ k := by
        rw [Int.mul_assoc, Int.mul_comm (2 ^ (nrm k R).2.toNat), ← Int.mul_assoc, he, Int.mul_assoc (nrm k R).1, Int.mul_comm (2 ^ K.toNat), ← Int.mul_assoc, hv]
        grind
      exact Int.eq_of_mul_eq_mul_right (show (2 : Int) ^ k ≠ 0 by have := pow1 k; omega) h1
    obtain ⟨e1, e2⟩ := form_one n K (nrm k R).1 (nrm k R).2 hr.1.1 f1 (dyB_odd n K hb) f3 hq
    unfold mkR
    rw [← e1, ← e2, hb]; rfl
theorem FIT_false (k : Nat) (R : Int) (h : (FIT k R).2.2 = false) : FIT k R = (0, 0, false) := by
  unfold FIT at h ⊢
  by_cases h0 : R = 0
  · rw [if_pos h0] at h; cases h
  · rw [if_neg h0] at h ⊢
    unfold mkR at h ⊢
    cases hb : dyB (nrm k R).1 (nrm k R).2 with
    | true => rw [hb] at h; cases h
    | false => rfl
theorem dv_pow (n k : Int) (hk : 0 ≤ k ∧ k ≤ 24) : dv n k * 2 ^ k.toNat = n * 16777216 := by
  unfold dv
  rw [Int.mul_assoc, ← Int.pow_add, show 24 - k.toNat + k.toNat = 24 by omega]; rfl
theorem pow24 (K : Nat) (h : K ≤ 24) : (2 : Int) ^ (24 - K) * 2 ^ K = 16777216 := by rw [← Int.pow_add, show 24 - K + K = 24 by omega]; rfl
/-- A form is found just where its value is the one asked for. -/
theorem FIT_dv (K : Nat) (hK : K ≤ 24) (R n k : Int) (hb : dyB n k = true) : FIT K R = (n, k, true) ↔ dv n k = 2 ^ (24 - K) * R := by
  have hr := dyB_range n k hb
  have p1 := pow1 k.toNat
  have p2 := pow1 (24 - K)
  have e1 := dv_pow n k hr.1
  have e2 := pow24 K hK
  constructor
  · intro h
    obtain ⟨_, h2⟩ := FIT_some K R n k h
    apply Int.eq_of_mul_eq_mul_right (show (2 : Int) ^ k.toNat ≠ 0 by omega)
    rw [e1, Int.mul_assoc, ← h2, ← e2]; grind
  · intro h
    apply FIT_of K R n k hb
    apply Int.eq_of_mul_eq_mul_left (show (2 : Int) ^ (24 - K) ≠ 0 by omega)
    rw [← Int.mul_assoc (2 ^ (24 - K)) R, ← h, e1, ← e2]; grind
theorem FIT_half (K : Nat) (hK : K ≤ 24) (R n k : Int) (hb : dyB n k = true) : FIT (K + 1) R = (n, k, true) ↔ 2 * dv n k = 2 ^ (24 - K) * R := by
  have hr := dyB_range n k hb
  have p1 := pow1 k.toNat
  have p2 := pow1 (24 - K)
  have e1 := dv_pow n k hr.1
  have e2 := pow24 K hK
  constructor
  · intro h
    obtain ⟨_, h2⟩ := FIT_some (K + 1) R n k h
    apply Int.eq_of_mul_eq_mul_right (show (2 : Int) ^ k.toNat ≠ 0 by omega)
    rw [Int.mul_assoc 2, e1, Int.mul_assoc, ← h2, Int.pow_succ, ← e2]; grind
  · intro h
    apply FIT_of (K + 1) R n k hb
    apply Int.eq_of_mul_eq_mul_left (show (2 : Int) ^ (24 - K) ≠ 0 by omega)
    rw [← Int.mul_assoc (2 ^ (24 - K)) R, ← h, Int.mul_assoc 2, e1, Int.pow_succ, ← e2]; grind
theorem dv_one (n k n' k' : Int) (hb : dyB n k = true) (hb' : dyB n' k' = true) (h : dv n k = dv n' k') : n = n' ∧ k = k' := by
  have hr := dyB_range n k hb
  have hr' := dyB_range n' k' hb'
  have e1 := dv_pow n k hr.1
  have e2 := dv_pow n' k' hr'.1
  refine form_one n k n' k' hr.1.1 hr'.1.1 (dyB_odd n k hb) (dyB_odd n' k' hb') ?_
  apply Int.eq_of_mul_eq_mul_left (show (16777216 : Int) ≠ 0 by omega)
  rw [h] at e1
  grind
theorem dv_neg (n k : Int) : dv (-n) k = -dv n k := by unfold dv; grind
theorem dyB_neg (n k : Int) (hb : dyB n k = true) : dyB (-n) k = true := by
  have hr := dyB_range n k hb
  have ho := dyB_odd n k hb
  unfold dyB
  rw [decide_eq_true hr.1, if_pos rfl, decide_eq_true (by omega), if_pos rfl]
  by_cases hk : k = 0
  · rw [if_pos hk]
  · rw [if_neg hk]
    have h2 : ¬ Int.tmod (-n) 2 = 0 := by rw [tmod2]; omega
    simpa using h2
/-- Two numbers over one power of 2. -/
theorem dv_sum (n1 k1 n2 k2 : Int) (h1 : 0 ≤ k1 ∧ k1 ≤ 24) (h2 : 0 ≤ k2 ∧ k2 ≤ 24) : dv n1 k1 + dv n2 k2 = 2 ^ (24 - (maxI k1 k2).toNat) * (n1 * 2 ^ (maxI k1 k2 - k1).toNat + n2 * 2 ^ (maxI k1 k2 - k2).toNat) := by
  have hm : k1 ≤ maxI k1 k2 ∧ k2 ≤ maxI k1 k2 ∧ maxI k1 k2 ≤ 24 := by rw [maxI_if]; split <;> omega
  rw [dv_shift n1 k1 (maxI k1 k2) ⟨h1.1, hm.1⟩ hm.2.2, dv_shift n2 k2 (maxI k1 k2) ⟨h2.1, hm.2.1⟩ hm.2.2, ← Int.mul_add]
theorem add64l_eq (x y c : Int) (hx : wordB x) (hy : wordB y) (hc : 0 ≤ c ∧ c ≤ 1) : add64l x y c = (x + y + c) % 18446744073709551616 := by
  unfold add64l wordB at *; omega
theorem add64c_eq (x y c : Int) (hx : wordB x) (hy : wordB y) (hc : 0 ≤ c ∧ c ≤ 1) : add64c x y c = (x + y + c) / 18446744073709551616 := by
  unfold add64c wordB at *; omega
theorem sub64l_eq (x y c : Int) (hx : wordB x) (hy : wordB y) (hc : 0 ≤ c ∧ c ≤ 1) : sub64l x y c = (x - y - c) % 18446744073709551616 := by
  unfold sub64l wordB at *; omega
theorem sub64c_eq (x y c : Int) (hx : wordB x) (hy : wordB y) (hc : 0 ≤ c ∧ c ≤ 1) : sub64c x y c = if x < y + c then 1 else 0 := by
  unfold sub64c wordB at *; split <;> split <;> omega
theorem add64_some (x y c : Int) (h : 0 ≤ c ∧ c ≤ 1) : bits_Add64.f x y c = some (add64l x y c, add64c x y c) := by
  unfold bits_Add64.f; rw [decide_eq_true h.1, decide_eq_true (show c < 2 by omega)]; rfl
theorem sub64_some (x y c : Int) (h : 0 ≤ c ∧ c ≤ 1) : bits_Sub64.f x y c = some (sub64l x y c, sub64c x y c) := by
  unfold bits_Sub64.f; rw [decide_eq_true h.1, decide_eq_true (show c < 2 by omega)]; rfl
/-- The program's sum of wide numbers. -/
theorem addW_ev (n1 n2 : Bool) (h1 l1 h2 l2 : Int) (a1 : wordB h1 ∧ h1 < 9223372036854775808) (a2 : wordB l1) (a3 : wordB h2 ∧ h2 < 9223372036854775808) (a4 : wordB l2) :
    ∃ n h l, Et (fun z zn => impl_wide_add.f z n1 h1 l1 n2 h2 l2) (n, h, l) ∧ wordB h ∧ wordB l ∧ wv n h l = wv n1 h1 l1 + wv n2 h2 l2 := by
  have c1 : (0 : Int) ≤ 0 ∧ (0 : Int) ≤ 1 := ⟨by omega, by omega⟩
  by_cases hn : n1 = n2
  · subst hn
    have e1 := add64c_eq l1 l2 0 a2 a4 c1
    have e2 := add64l_eq l1 l2 0 a2 a4 c1
    have hcr : 0 ≤ add64c l1 l2 0 ∧ add64c l1 l2 0 ≤ 1 := by rw [e1]; unfold wordB at *; omega
    have e3 := add64l_eq h1 h2 _ a1.1 a3.1 hcr
    rw [e1] at e3
    refine ⟨n1, add64l h1 h2 (add64c l1 l2 0), add64l l1 l2 0, ?_, ?_, ?_, ?_⟩
    · unfold impl_wide_add.f impl_wide_add.g; simp only [cnd4]
      exact Et_if (fun _ => Et_bindS (add64_some _ _ _ c1) (Et_bindS (add64_some _ _ _ hcr) (Et.now _))) (fun h => absurd (by simp) h)
    · rw [e1, e3]; unfold wordB at *; omega
    · rw [e2]; unfold wordB at *; omega
    · rw [e1, e2, e3]
      unfold wv wordB at *
      split <;> omega
  · have hne : ¬ (n1 == n2) = true := by simpa using hn
    have hc := cmpSizes_ev n1 n2 h1 l1 h2 l2 a1.1 a2 a3.1 a4
    obtain ⟨m1, hm1⟩ : ∃ m, h1 * 18446744073709551616 + l1 = m := ⟨_, rfl⟩
    obtain ⟨m2, hm2⟩ : ∃ m, h2 * 18446744073709551616 + l2 = m := ⟨_, rfl⟩
    rw [hm1, hm2] at hc
    by_cases hlt : m1 - m2 < 0
    · have e1 := sub64c_eq l2 l1 0 a4 a2 c1
      have e2 := sub64l_eq l2 l1 0 a4 a2 c1
      have hcr : 0 ≤ sub64c l2 l1 0 ∧ sub64c l2 l1 0 ≤ 1 := by rw [e1]; split <;> omega
      have e3 := sub64l_eq h2 h1 _ a3.1 a1.1 hcr
      have hcc : (l2 < l1 ∧ sub64c l2 l1 0 = 1) ∨ (¬ l2 < l1 ∧ sub64c l2 l1 0 = 0) := by rw [e1]; split <;> omega
      refine ⟨n2, sub64l h2 h1 (sub64c l2 l1 0), sub64l l2 l1 0, ?_, ?_, ?_, ?_⟩
      · unfold impl_wide_add.f impl_wide_add.g impl_wide_add.j104; simp only [cnd4, decide_eq_true_eq]
        refine Et_if (fun h => absurd h hne) (fun _ => Et.bind hc (Et_if (fun _ => Et_bindS (sub64_some _ _ _ c1) (Et_bindS (sub64_some _ _ _ hcr) (Et.now _))) (fun h => ?_)))
        rw [sgn_neg _ hlt] at h; omega
      · rw [e3]; unfold wordB at *; omega
      · rw [e2]; unfold wordB at *; omega
      · rw [e2, e3]
        clear e1 e2 e3 hc hcr
        generalize sub64c l2 l1 0 = cc at *
        unfold wv wordB at *
        cases n1 <;> cases n2 <;> simp at hn <;> simp <;> omega
    · have e1 := sub64c_eq l1 l2 0 a2 a4 c1
      have e2 := sub64l_eq l1 l2 0 a2 a4 c1
      have hcr : 0 ≤ sub64c l1 l2 0 ∧ sub64c l1 l2 0 ≤ 1 := by rw [e1]; split <;> omega
      have e3 := sub64l_eq h1 h2 _ a1.1 a3.1 hcr
      have hcc : (l1 < l2 ∧ sub64c l1 l2 0 = 1) ∨ (¬ l1 < l2 ∧ sub64c l1 l2 0 = 0) := by rw [e1]; split <;> omega
      refine ⟨n1, sub64l h1 h2 (sub64c l1 l2 0), sub64l l1 l2 0, ?_, ?_, ?_, ?_⟩
      · unfold impl_wide_add.f impl_wide_add.g impl_wide_add.j104; simp only [cnd4, decide_eq_true_eq]
        refine Et_if (fun h => absurd h hne) (fun _ => Et.bind hc (Et_if (fun h => ?_) (fun _ => Et_bindS (sub64_some _ _ _ c1) (Et_bindS (sub64_some _ _ _ hcr) (Et.now _)))))
        by_cases h0 : m1 - m2 = 0
        · rw [h0] at h; exact absurd h (by decide)
        · rw [sgn_pos _ (by omega)] at h; omega
      · rw [e3]; unfold wordB at *; omega
      · rw [e2]; unfold wordB at *; omega
      · rw [e2, e3]
        clear e1 e2 e3 hc hcr
        generalize sub64c l1 l2 0 = cc at *
        unfold wv wordB at *
        cases n1 <;> cases n2 <;> simp at hn <;> simp <;> omega
/-- A number over a greater power of 2, as the program has it. -/
theorem wide_at (n : Int) (hn : -1099511627776 ≤ n ∧ n ≤ 1099511627776) (s : Nat) (hs : s ≤ 63) : ∃ g h l, impl_wideOf.f n = some (g, 0, ((n.natAbs : Nat) : Int)) ∧ impl_wide_shift.f g 0 ((n.natAbs : Nat) : Int) (s : Int) = some (g, h, l) ∧ (wordB h ∧ h < 9223372036854775808) ∧ wordB l ∧ wv g h l = n * 2 ^ s := by
  have b1 : wordB ((n.natAbs : Nat) : Int) := ⟨by omega, by omega⟩
  have f1 := shift_left (decide (n < 0)) _ b1 s hs
  obtain ⟨g1, g2⟩ := word_shift _ b1 s hs
  have v := shift_val (decide (n < 0)) ((n.natAbs : Nat) : Int) s hs
  refine ⟨_, _, _, wideOf_eq n ⟨by omega, by omega⟩, f1, ⟨g1, ?_⟩, g2, ?_⟩
  · have p := pow1 (64 - s)
    have h2 : ((n.natAbs : Nat) : Int) / 2 ^ (64 - s) ≤ ((n.natAbs : Nat) : Int) := Int.ediv_le_self _ b1.1
    omega
  · rw [v]
    by_cases h : n < 0
    · rw [decide_eq_true h, if_pos rfl, ← Int.neg_mul, show -((n.natAbs : Nat) : Int) = n by omega]
    · rw [decide_eq_false h, if_neg (by decide), show ((n.natAbs : Nat) : Int) = n by omega]
theorem fit_wv (neg : Bool) (h l : Int) (hh : wordB h) (hl : wordB l) (k : Nat) (hk : k ≤ 200) : Et (fun z zn => impl_wide_fit.f z neg h l (k : Int)) (FIT k (wv neg h l)) := fit_ev neg h l hh hl k hk
/-- What both sum, over one power of 2. -/
def SUM (n1 k1 n2 k2 : Int) : Int := n1 * 2 ^ (maxI k1 k2 - k1).toNat + n2 * 2 ^ (maxI k1 k2 - k2).toNat
theorem mx_le (a b : Int) : a ≤ maxI a b ∧ b ≤ maxI a b ∧ (maxI a b = a ∨ maxI a b = b) := by rw [maxI_if]; split <;> omega
theorem sumW_ev (n1 k1 n2 k2 : Int) (hn1 : -1099511627776 ≤ n1 ∧ n1 ≤ 1099511627776) (hk1 : 0 ≤ k1 ∧ k1 ≤ 24) (hn2 : -1099511627776 ≤ n2 ∧ n2 ≤ 1099511627776) (hk2 : 0 ≤ k2 ∧ k2 ≤ 24) :
    ∃ g1 h1 l1 g2 h2 l2 g h l, impl_wideOf.f n1 = some (g1, 0, ((n1.natAbs : Nat) : Int)) ∧ impl_wide_shift.f g1 0 ((n1.natAbs : Nat) : Int) (wrap64 (maxI k1 k2 - k1)) = some (g1, h1, l1) ∧ impl_wideOf.f n2 = some (g2, 0, ((n2.natAbs : Nat) : Int)) ∧ impl_wide_shift.f g2 0 ((n2.natAbs : Nat) : Int) (wrap64 (maxI k1 k2 - k2)) = some (g2, h2, l2) ∧ Et (fun z zn => impl_wide_add.f z g1 h1 l1 g2 h2 l2) (g, h, l) ∧ wordB h ∧ wordB l ∧ wv g h l = SUM n1 k1 n2 k2 := by
  obtain ⟨m1, m2, m3⟩ := mx_le k1 k2
  obtain ⟨g1, h1, l1, a1, a2, a3, a4, a5⟩ := wide_at n1 hn1 (maxI k1 k2 - k1).toNat (by omega)
  obtain ⟨g2, h2, l2, b1, b2, b3, b4, b5⟩ := wide_at n2 hn2 (maxI k1 k2 - k2).toNat (by omega)
  obtain ⟨g, h, l, c1, c2, c3, c4⟩ := addW_ev g1 g2 h1 l1 h2 l2 a3 a4 b3 b4
  refine ⟨g1, h1, l1, g2, h2, l2, g, h, l, a1, ?_, b1, ?_, c1, c2, c3, ?_⟩
  · rw [show wrap64 (maxI k1 k2 - k1) = (((maxI k1 k2 - k1).toNat : Nat) : Int) by unfold wrap64; omega]; exact a2
  · rw [show wrap64 (maxI k1 k2 - k2) = (((maxI k1 k2 - k2).toNat : Nat) : Int) by unfold wrap64; omega]; exact b2
  · rw [c4, a5, b5]; rfl
theorem sumOf_ev (n1 k1 n2 k2 : Int) (hn1 : -1099511627776 ≤ n1 ∧ n1 ≤ 1099511627776) (hk1 : 0 ≤ k1 ∧ k1 ≤ 24) (hn2 : -1099511627776 ≤ n2 ∧ n2 ≤ 1099511627776) (hk2 : 0 ≤ k2 ∧ k2 ≤ 24) : Et (fun z zn => impl_sumOf.f z n1 k1 n2 k2) (FIT (maxI k1 k2).toNat (SUM n1 k1 n2 k2)) := by
  obtain ⟨g1, h1, l1, g2, h2, l2, g, h, l, a1, a2, a3, a4, a5, a6, a7, a8⟩ := sumW_ev n1 k1 n2 k2 hn1 hk1 hn2 hk2
  obtain ⟨m1, m2, m3⟩ := mx_le k1 k2
  have f := fit_wv g h l a6 a7 (maxI k1 k2).toNat (by omega)
  rw [a8, Int.toNat_of_nonneg (by omega)] at f
  unfold impl_sumOf.f impl_sumOf.g; try simp only [cnd3]
  try simp only [cnd4, decide_eq_true_eq]
  exact Et_bindS a1 (Et_bindS a2 (Et_bindS a3 (Et_bindS a4 (Et.bind a5 (Et.bind f (Et.now _))))))
theorem and32 (a : Int) (h : wordB a) : andI .u64 a 4294967295 = a % 4294967296 := by
  obtain ⟨x, rfl⟩ := Int.eq_ofNat_of_zero_le h.1
  have hx : x < 18446744073709551616 := by have := h.2; omega
  have h64 : IntKind.u64.bits = 64 := rfl
  unfold andI
  simp only [h64, BitVec.toNat_and, BitVec.ofInt_natCast, BitVec.toNat_ofNat]
  have e : (BitVec.ofInt IntKind.u64.bits 4294967295).toNat = 2 ^ 32 - 1 := by decide
  rw [e, Nat.mod_eq_of_lt (show x < 2 ^ 64 by omega), Nat.and_two_pow_sub_one_eq_mod, u64r _ ⟨by omega, by omega⟩]
  omega
theorem shrI32 (x : Int) : shrI .u64 x 32 = x / 4294967296 := by have := shr64 x 32 (by omega); simpa using this
theorem mul64_eq (x y : Int) (hx : 0 ≤ x ∧ x ≤ 1099511627776) (hy : 0 ≤ y ∧ y ≤ 1099511627776) : bits_Mul64.f x y = some (x * y / 18446744073709551616, x * y % 18446744073709551616) := by
  unfold bits_Mul64.f bits_Mul64.g; try simp only [cnd3]
  try simp only [cnd4, decide_eq_true_eq]
  rw [and32 x ⟨hx.1, by omega⟩, and32 y ⟨hy.1, by omega⟩]
  obtain ⟨x1, hx1⟩ : ∃ q, x / 4294967296 = q := ⟨_, rfl⟩
  obtain ⟨x0, hx0⟩ : ∃ q, x % 4294967296 = q := ⟨_, rfl⟩
  obtain ⟨y1, hy1⟩ : ∃ q, y / 4294967296 = q := ⟨_, rfl⟩
  obtain ⟨y0, hy0⟩ : ∃ q, y % 4294967296 = q := ⟨_, rfl⟩
  have ex : x = x1 * 4294967296 + x0 := by omega
  have ey : y = y1 * 4294967296 + y0 := by omega
  have bx1 : -256 ≤ x1 ∧ x1 ≤ 256 := by omega
  have by1 : -256 ≤ y1 ∧ y1 ≤ 256 := by omega
  have px1 : 0 ≤ x1 := by omega
  have py1 : 0 ≤ y1 := by omega
  have px0 : 0 ≤ x0 := by omega
  have py0 : 0 ≤ y0 := by omega
  have bx0 : -4294967295 ≤ x0 ∧ x0 ≤ 4294967295 := by omega
  have by0 : -4294967295 ≤ y0 ∧ y0 ≤ 4294967295 := by omega
  have m1 := absmul x1 y1 256 256 bx1 by1
  have m2 := absmul x1 y0 256 4294967295 bx1 by0
  have m3 := absmul x0 y1 4294967295 256 bx0 by1
  have m4 := absmul x0 y0 4294967295 4294967295 bx0 by0
  have n1 := Int.mul_nonneg px1 py1
  have n2 := Int.mul_nonneg px1 py0
  have n3 := Int.mul_nonneg px0 py1
  have n4 := Int.mul_nonneg px0 py0
  have hxy : x * y = x1 * y1 * 18446744073709551616 + (x1 * y0 + x0 * y1) * 4294967296 + x0 * y0 := by rw [ex, ey]; grind
  simp only [shrI32]
  rw [hx1, hx0, hy1, hy0, hxy]
  generalize x1 * y1 = a at *
  generalize x1 * y0 = b at *
  generalize x0 * y1 = c at *
  generalize x0 * y0 = d at *
  clear hxy ex ey
  have w1 : IntKind.u64.wrap d = d := u64r _ ⟨by omega, by omega⟩
  have w2 : IntKind.u64.wrap b = b := u64r _ ⟨by omega, by omega⟩
  have w3 : IntKind.u64.wrap c = c := u64r _ ⟨by omega, by omega⟩
  have w4 : IntKind.u64.wrap a = a := u64r _ ⟨by omega, by omega⟩
  rw [w1, w2, w3, w4, u64m (b + d / 4294967296), Int.emod_eq_of_lt (show 0 ≤ b + d / 4294967296 by omega) (by omega), and32 (b + d / 4294967296) ⟨by omega, by omega⟩, u64m ((b + d / 4294967296) % 4294967296 + c), u64m (a + (b + d / 4294967296) / 4294967296), u64m, u64m]
  congr 1
  refine Prod.ext ?_ rfl
  show _ = _
  simp only
  omega
theorem timesWide_eq (a b : Int) (ha : -1099511627776 ≤ a ∧ a ≤ 1099511627776) (hb : -1099511627776 ≤ b ∧ b ≤ 1099511627776) : ∃ g h l, impl_timesWide.f a b = some (g, h, l) ∧ (wordB h ∧ h < 9223372036854775808) ∧ wordB l ∧ wv g h l = a * b := by
  have e1 := sizeW_eq a ⟨by omega, by omega⟩
  have e2 := sizeW_eq b ⟨by omega, by omega⟩
  have e3 := mul64_eq ((a.natAbs : Nat) : Int) ((b.natAbs : Nat) : Int) ⟨by omega, by omega⟩ ⟨by omega, by omega⟩
  have hm := absmul ((a.natAbs : Nat) : Int) ((b.natAbs : Nat) : Int) 1099511627776 1099511627776 ⟨by omega, by omega⟩ ⟨by omega, by omega⟩
  have hp : 0 ≤ ((a.natAbs : Nat) : Int) * ((b.natAbs : Nat) : Int) := Int.mul_nonneg (by omega) (by omega)
  have hs : (if (decide (a < 0) != decide (b < 0)) = true then -(((a.natAbs : Nat) : Int) * ((b.natAbs : Nat) : Int)) else ((a.natAbs : Nat) : Int) * ((b.natAbs : Nat) : Int)) = a * b := by
    by_cases h1 : a < 0 <;> by_cases h2 : b < 0
    · rw [decide_eq_true h1, decide_eq_true h2, show ((a.natAbs : Nat) : Int) = -a by omega, show ((b.natAbs : Nat) : Int) = -b by omega, if_neg (by decide)]; grind
    · rw [decide_eq_true h1, decide_eq_false h2, show ((a.natAbs : Nat) : Int) = -a by omega, show ((b.natAbs : Nat) : Int) = b by omega, if_pos (by decide)]; grind
    · rw [decide_eq_false h1, decide_eq_true h2, show ((a.natAbs : Nat) : Int) = a by omega, show ((b.natAbs : Nat) : Int) = -b by omega, if_pos (by decide)]; grind
    · rw [decide_eq_false h1, decide_eq_false h2, show ((a.natAbs : Nat) : Int) = a by omega, show ((b.natAbs : Nat) : Int) = b by omega, if_neg (by decide)]
  generalize ((a.natAbs : Nat) : Int) * ((b.natAbs : Nat) : Int) = m at *
  refine ⟨(decide (a < 0) != decide (b < 0)), m / 18446744073709551616, m % 18446744073709551616, ?_, ⟨⟨by omega, by omega⟩, by omega⟩, ⟨by omega, by omega⟩, ?_⟩
  · unfold impl_timesWide.f impl_timesWide.g
    rw [e1, Option.bind_some, e2, Option.bind_some, e3, Option.bind_some]
    cases decide (a < 0) <;> cases decide (b < 0) <;> rfl
  · unfold wv
    rw [show m / 18446744073709551616 * 18446744073709551616 + m % 18446744073709551616 = m by omega, hs]
theorem productOf_ev (n1 k1 n2 k2 : Int) (hn1 : -1099511627776 ≤ n1 ∧ n1 ≤ 1099511627776) (hk1 : 0 ≤ k1 ∧ k1 ≤ 24) (hn2 : -1099511627776 ≤ n2 ∧ n2 ≤ 1099511627776) (hk2 : 0 ≤ k2 ∧ k2 ≤ 24) : Et (fun z zn => impl_productOf.f z n1 k1 n2 k2) (FIT (k1 + k2).toNat (n1 * n2)) := by
  obtain ⟨g, h, l, a1, a2, a3, a4⟩ := timesWide_eq n1 n2 hn1 hn2
  have f := fit_wv g h l a2.1 a3 (k1 + k2).toNat (by omega)
  rw [a4, show (((k1 + k2).toNat : Nat) : Int) = wrap64 (k1 + k2) by unfold wrap64; omega] at f
  unfold impl_productOf.f impl_productOf.g; try simp only [cnd3]
  try simp only [cnd4, decide_eq_true_eq]
  exact Et_bindS a1 (Et.bind f (Et.now _))
theorem FIT_big (j : Nat) (R : Int) (ho : j = 0 ∨ R % 2 ≠ 0) (hb : R < -1099511627776 ∨ 1099511627776 < R) : FIT j R = (0, 0, false) := by
  have e : nrm j R = (R, (j : Int)) := by
    cases j with
    | zero => rfl
    | succ j =>
      simp only [nrm]
      rw [if_neg (by omega)]
  unfold FIT mkR
  rw [if_neg (by omega), e]
  have : dyB R (j : Int) = false := by
    rw [Bool.eq_false_iff]
    intro h
    have := dyB_range _ _ h
    omega
  simp only [this]; rfl
theorem FIT_even (j : Nat) (m : Int) : FIT (j + 1) (2 * m) = FIT j m := by
  unfold FIT
  by_cases h : m = 0
  · rw [if_pos (by omega), if_pos h]
  · rw [if_neg (by omega), if_neg h]
    simp only [nrm]
    rw [if_pos (by omega), show 2 * m / 2 = m by omega]
theorem pow2_even (s : Nat) (h : 0 < s) (n : Int) : n * 2 ^ s % 2 = 0 := by
  obtain ⟨t, rfl⟩ : ∃ t, s = t + 1 := ⟨s - 1, by omega⟩
  rw [Int.pow_succ, ← Int.mul_assoc]; omega
/-- A number over a greater power of 2, as the reference has it: told, or far too large. -/
theorem dyAt_any (K k0 : Int) (d : Nat) : ∀ (n i : Int), 0 ≤ i → i ≤ K → K ≤ 1000 → (K - i).toNat = d → -2305843009213693952 ≤ n ∧ n ≤ 2305843009213693952 →
    (Et (fun z zn => spec_dyAt.l0 z zn K i n k0) (n * 2 ^ d, true) ∧ -2305843009213693952 ≤ n * 2 ^ d ∧ n * 2 ^ d ≤ 2305843009213693952) ∨ (Et (fun z zn => spec_dyAt.l0 z zn K i n k0) (0, false) ∧ 0 < d ∧ (n * 2 ^ d < -1152921504606846976 ∨ 1152921504606846976 < n * 2 ^ d)) := by
  induction d with
  | zero =>
    intro n i h0 hi ht hd hn
    refine .inl ⟨?_, by simpa using hn⟩
    refine Et.step (fun z zn => rfl) ?_
    simp only [spec_dyAt.l0, spec_dyAt.s0, cnd3]; simp only [cnd4, decide_eq_true_eq]
    refine Et_if (fun h => by omega) (fun _ => ?_)
    refine Et_eq (Et.now _) ?_
    simp
  | succ d ih =>
    intro n i h0 hi ht hd hn
    have e : n * 2 ^ (d + 1) = n * 2 * 2 ^ d := by rw [Int.pow_succ]; grind
    have hp := pow1 d
    have e60 : (2 : Int) ^ (60 : Int).toNat = 1152921504606846976 := by decide
    by_cases hs : -1152921504606846976 ≤ n ∧ n ≤ 1152921504606846976
    · have step : ∀ r : Int × Bool, Et (fun z zn => spec_dyAt.l0 z zn K (i + 1) (n * 2) k0) r → Et (fun z zn => spec_dyAt.l0 z zn K i n k0) r := by
        intro r hr
        refine Et.step (fun z zn => rfl) ?_
        simp only [spec_dyAt.l0, spec_dyAt.s0, cnd3]; simp only [cnd4, decide_eq_true_eq]
        rw [show wrap64 (i + 1) = i + 1 by unfold wrap64; omega, show wrap64 (n * 2) = n * 2 by unfold wrap64; omega]
        refine Et_if (fun _ => Et_bindS (dyPower62 60 ⟨by omega, by omega⟩) (Et_bindS (dyPower62 60 ⟨by omega, by omega⟩) (Et_bindS (l1In_eq _ _ _) (Et_if (fun _ => hr) (fun h => ?_))))) (fun h => by omega)
        exfalso; apply h; apply decide_eq_true
        rw [e60, show wrap64 (-1152921504606846976) = -1152921504606846976 by unfold wrap64; omega]; exact hs
      rcases ih (n * 2) (i + 1) (by omega) (by omega) ht (by omega) (by omega) with ⟨h1, h2⟩ | ⟨h1, h2, h3⟩
      · rw [e]; exact .inl ⟨step _ h1, h2⟩
      · rw [e]; exact .inr ⟨step _ h1, by omega, h3⟩
    · refine .inr ⟨?_, by omega, ?_⟩
      · refine Et.step (fun z zn => rfl) ?_
        simp only [spec_dyAt.l0, spec_dyAt.s0, cnd3]; simp only [cnd4, decide_eq_true_eq]
        refine Et_if (fun _ => Et_bindS (dyPower62 60 ⟨by omega, by omega⟩) (Et_bindS (dyPower62 60 ⟨by omega, by omega⟩) (Et_bindS (l1In_eq _ _ _) (Et_if (fun h => ?_) (fun h => Et.now _))))) (fun h => by omega)
        have h := of_decide_eq_true h
        rw [e60, show wrap64 (-1152921504606846976) = -1152921504606846976 by unfold wrap64; omega] at h
        omega
      · have hp2 := pow1 (d + 1)
        by_cases hneg : n < 0
        · have := Int.mul_le_mul_of_nonneg_left hp2 (show 0 ≤ -n by omega)
          simp only [Int.neg_mul] at this; omega
        · have := Int.mul_le_mul_of_nonneg_left hp2 (show 0 ≤ n by omega); omega
theorem dyAt_cases (n k K : Int) (hk : 0 ≤ k ∧ k ≤ K) (hK : K ≤ 24) (hn : -1099511627776 ≤ n ∧ n ≤ 1099511627776) :
    (Et (fun z zn => spec_dyAt.f z n k K) (n * 2 ^ (K - k).toNat, true) ∧ -2305843009213693952 ≤ n * 2 ^ (K - k).toNat ∧ n * 2 ^ (K - k).toNat ≤ 2305843009213693952) ∨ (Et (fun z zn => spec_dyAt.f z n k K) (0, false) ∧ k < K ∧ (n * 2 ^ (K - k).toNat < -1152921504606846976 ∨ 1152921504606846976 < n * 2 ^ (K - k).toNat)) := by
  by_cases h0 : n = 0
  · subst h0
    refine .inl ⟨?_, by simp⟩
    unfold spec_dyAt.f spec_dyAt.g; try simp only [cnd3]
    try simp only [cnd4, decide_eq_true_eq]
    exact Et_if (fun _ => by rw [Int.zero_mul]; exact Et.now _) (fun h => absurd trivial h)
  · have f : ∀ r : Int × Bool, Et (fun z zn => spec_dyAt.l0 z zn K k n k) r → Et (fun z zn => spec_dyAt.f z n k K) r := by
      intro r hr; unfold spec_dyAt.f spec_dyAt.g; simp only [cnd4, decide_eq_true_eq]; exact Et_if (fun h => absurd h h0) (fun _ => hr.diag)
    rcases dyAt_any K k (K - k).toNat n k hk.1 hk.2 (by omega) rfl ⟨by omega, by omega⟩ with ⟨h1, h2⟩ | ⟨h1, h2, h3⟩
    · exact .inl ⟨f _ h1, h2⟩
    · exact .inr ⟨f _ h1, by omega, h3⟩
theorem l1Most_mx (a b : Int) : spec_l1Most.f a b = some (maxI a b) := by
  unfold spec_l1Most.f spec_l1Most.g; simp only [cnd4, decide_eq_true_eq]
  rw [maxI_if]
  split
  · rw [if_neg (by omega)]
  · split
    · rfl
    · congr 1; omega
/-- What both numbers come to over their greater power of 2: both told, or their sum far too large and odd. -/
theorem both_at (n1 k1 n2 k2 : Int) (b1 : dyB n1 k1 = true) (b2 : dyB n2 k2 = true) :
    (Et (fun z zn => spec_dyAt.f z n1 k1 (maxI k1 k2)) (n1 * 2 ^ (maxI k1 k2 - k1).toNat, true) ∧ Et (fun z zn => spec_dyAt.f z n2 k2 (maxI k1 k2)) (n2 * 2 ^ (maxI k1 k2 - k2).toNat, true) ∧ wrap64 (n1 * 2 ^ (maxI k1 k2 - k1).toNat + n2 * 2 ^ (maxI k1 k2 - k2).toNat) = SUM n1 k1 n2 k2 ∧ -9000000000000000000 ≤ SUM n1 k1 n2 k2 ∧ SUM n1 k1 n2 k2 ≤ 9000000000000000000) ∨
    (∃ x y c d, Et (fun z zn => spec_dyAt.f z n1 k1 (maxI k1 k2)) (x, c) ∧ Et (fun z zn => spec_dyAt.f z n2 k2 (maxI k1 k2)) (y, d) ∧ (c = false ∨ d = false) ∧ SUM n1 k1 n2 k2 % 2 ≠ 0 ∧ (SUM n1 k1 n2 k2 < -1099511627776 ∨ 1099511627776 < SUM n1 k1 n2 k2)) := by
  obtain ⟨m1, m2, m3⟩ := mx_le k1 k2
  have r1 := dyB_range n1 k1 b1
  have r2 := dyB_range n2 k2 b2
  have o1 := dyB_odd n1 k1 b1
  have o2 := dyB_odd n2 k2 b2
  have c1 := dyAt_cases n1 k1 (maxI k1 k2) ⟨r1.1.1, m1⟩ (by omega) r1.2
  have c2 := dyAt_cases n2 k2 (maxI k1 k2) ⟨r2.1.1, m2⟩ (by omega) r2.2
  have z0 : ∀ m : Int, m * 2 ^ (0 : Nat) = m := fun m => by simp
  unfold SUM
  rcases c1 with ⟨c1, c1b⟩ | ⟨c1, c1b, c1c⟩
  · rcases c2 with ⟨c2, c2b⟩ | ⟨c2, c2b, c2c⟩
    · refine .inl ⟨c1, c2, ?_, ?_⟩
      · generalize n1 * 2 ^ (maxI k1 k2 - k1).toNat = x at *
        generalize n2 * 2 ^ (maxI k1 k2 - k2).toNat = y at *
        unfold wrap64; omega
      · omega
    · refine .inr ⟨_, _, _, _, c1, c2, .inr rfl, ?_⟩
      have hk : maxI k1 k2 = k1 := by omega
      have he := pow2_even (maxI k1 k2 - k2).toNat (by omega) n2
      rw [show (maxI k1 k2 - k1).toNat = 0 by omega, z0]
      generalize n2 * 2 ^ (maxI k1 k2 - k2).toNat = y at *
      omega
  · rcases c2 with ⟨c2, c2b⟩ | ⟨c2, c2b, c2c⟩
    · refine .inr ⟨_, _, _, _, c1, c2, .inl rfl, ?_⟩
      have hk : maxI k1 k2 = k2 := by omega
      have he := pow2_even (maxI k1 k2 - k1).toNat (by omega) n1
      rw [show (maxI k1 k2 - k2).toNat = 0 by omega, z0]
      generalize n1 * 2 ^ (maxI k1 k2 - k1).toNat = y at *
      omega
    · omega
theorem dyAdd_ev (n1 k1 n2 k2 : Int) (b1 : dyB n1 k1 = true) (b2 : dyB n2 k2 = true) : Et (fun z zn => spec_dyAdd.f z n1 k1 n2 k2) (FIT (maxI k1 k2).toNat (SUM n1 k1 n2 k2)) := by
  obtain ⟨m1, m2, m3⟩ := mx_le k1 k2
  have r1 := dyB_range n1 k1 b1
  have r2 := dyB_range n2 k2 b2
  unfold spec_dyAdd.f spec_dyAdd.g; try simp only [cnd3]
  try simp only [cnd4, decide_eq_true_eq]
  refine Et_bindS (l1Most_mx k1 k2) ?_
  rcases both_at n1 k1 n2 k2 b1 b2 with ⟨h1, h2, h3, h4⟩ | ⟨x, y, c, d, h1, h2, h3, h4, h5⟩
  · refine Et.bind h1 (Et.bind h2 (Et_if (fun _ => Et_if (fun _ => ?_) (fun h => absurd rfl h)) (fun h => absurd rfl h)))
    have hf := dyMake_fit (maxI k1 k2).toNat _ h4 (by omega)
    rw [Int.toNat_of_nonneg (by omega), ← h3] at hf
    rw [← h3]
    exact Et.bind hf (Et.now _)
  · rw [FIT_big _ _ (.inr h4) h5]
    refine Et.bind h1 (Et.bind h2 (Et_if (fun hc => Et_if (fun hd => ?_) (fun _ => Et.now _)) (fun _ => Et.now _)))
    simp only at hc hd
    rcases h3 with rfl | rfl
    · cases hc
    · cases hd
theorem l1Abs_eq (n : Int) (h : -9223372036854775807 ≤ n ∧ n ≤ 9223372036854775807) : spec_l1Abs.f n = some ((n.natAbs : Nat) : Int) := by
  unfold spec_l1Abs.f spec_l1Abs.g; try simp only [cnd3]
  try simp only [cnd4, decide_eq_true_eq]
  rw [show wrap64 (-n) = -n by unfold wrap64; omega, l1Most_mx, Option.bind_some]
  congr 1
  rw [maxI_if]; split <;> omega
theorem dyMul_j4 (j : Nat) (n1 k1 n2 k2 : Int) (hj : j ≤ 100) (h1 : n1 ≠ 0) (h2 : n2 ≠ 0) (b1 : -1099511627776 ≤ n1 ∧ n1 ≤ 1099511627776) (b2 : -1099511627776 ≤ n2 ∧ n2 ≤ 1099511627776) (ho : j = 0 ∨ n1 % 2 ≠ 0 ∧ n2 % 2 ≠ 0) : Et (fun z zn => (spec_l1Abs.f n1).bind fun t1 => (spec_l1Abs.f n2).bind fun t2 => if t2 = 0 then none else if wrap64 (Int.tdiv 1099511627776 t2) < t1 then some (0, 0, false) else (spec_dyMake.f z (wrap64 (n1 * n2)) (j : Int)).bind fun t3 => some (t3.1, t3.2.1, t3.2.2)) (FIT j (n1 * n2)) := by
  refine Et_bindS (l1Abs_eq n1 ⟨by omega, by omega⟩) (Et_bindS (l1Abs_eq n2 ⟨by omega, by omega⟩) (Et_if (fun h => by omega) (fun _ => ?_)))
  have hab : ((n1 * n2).natAbs : Nat) = n1.natAbs * n2.natAbs := Int.natAbs_mul n1 n2
  obtain ⟨a, ha⟩ : ∃ a, n1.natAbs = a := ⟨_, rfl⟩
  obtain ⟨b, hb⟩ : ∃ b, n2.natAbs = b := ⟨_, rfl⟩
  rw [ha, hb] at hab ⊢
  have hb0 : 0 < b := by omega
  have hqb : 1099511627776 / b ≤ 1099511627776 := Nat.div_le_self _ _
  obtain ⟨q, hq⟩ : ∃ q, 1099511627776 / b = q := ⟨_, rfl⟩
  have hdiv : (Int.tdiv 1099511627776 (b : Int)) = (q : Int) := by rw [← hq, Int.tdiv_eq_ediv_of_nonneg (by omega)]; simp
  rw [hq] at hqb
  rw [hdiv, show wrap64 (q : Int) = (q : Int) by unfold wrap64; omega]
  refine Et_if (fun h => ?_) (fun h => ?_)
  · have h3 : 1099511627776 < a * b := by
      have h4 : 1099511627776 / b < a := by rw [hq]; omega
      exact (Nat.div_lt_iff_lt_mul hb0).1 h4
    rw [FIT_big]
    · exact Et.now _
    · rcases ho with h5 | ⟨h5, h6⟩
      · exact .inl h5
      · refine .inr ?_
        obtain ⟨p, hp⟩ : ∃ p, n1 = 2 * p + 1 := ⟨n1 / 2, by omega⟩
        obtain ⟨u, hu⟩ : ∃ u, n2 = 2 * u + 1 := ⟨n2 / 2, by omega⟩
        have : n1 * n2 = 2 * (2 * p * u + p + u) + 1 := by rw [hp, hu]; grind
        omega
    · omega
  · have h3 : a * b ≤ 1099511627776 := by
      have h4 : a ≤ 1099511627776 / b := by rw [hq]; omega
      exact (Nat.le_div_iff_mul_le hb0).1 h4
    have hf := dyMake_fit j (n1 * n2) (by omega) hj
    rw [show wrap64 (n1 * n2) = n1 * n2 by unfold wrap64; omega]
    exact Et.bind hf (Et.now _)
theorem dyMul_l1 (c0 c1 : Int) (j : Nat) : ∀ (n1 k1 n2 k2 : Int), j ≤ 100 → n1 ≠ 0 → n2 ≠ 0 → (-1099511627776 ≤ n1 ∧ n1 ≤ 1099511627776) → (-1099511627776 ≤ n2 ∧ n2 ≤ 1099511627776) → (j = 0 ∨ n1 % 2 ≠ 0) → Et (fun z zn => spec_dyMul.l1 z zn (j : Int) n1 k1 n2 k2 c0 c1) (FIT j (n1 * n2)) := by
  induction j with
  | zero =>
    intro n1 k1 n2 k2 hj h1 h2 b1 b2 ho
    refine Et.step (fun z zn => rfl) ?_
    simp only [spec_dyMul.l1, spec_dyMul.s1, cnd3]; simp only [cnd4, decide_eq_true_eq]
    exact Et_if (fun h => by omega) (fun _ => dyMul_j4 0 n1 k1 n2 k2 hj h1 h2 b1 b2 (.inl rfl))
  | succ j ih =>
    intro n1 k1 n2 k2 hj h1 h2 b1 b2 ho
    refine Et.step (fun z zn => rfl) ?_
    simp only [spec_dyMul.l1, spec_dyMul.s1, cnd3]; simp only [cnd4, decide_eq_true_eq]
    refine Et_if (fun _ => Et_if (fun h => ?_) (fun h => ?_)) (fun h => by omega)
    · have h3 := (tmod2 n2).1 h
      rw [tdiv2 n2 h3, show wrap64 (n2 / 2) = n2 / 2 by unfold wrap64; omega, show wrap64 (((j + 1 : Nat) : Int) - 1) = (j : Int) by unfold wrap64; omega]
      obtain ⟨c, hc⟩ : ∃ c, n2 / 2 = c := ⟨_, rfl⟩
      have e : n1 * n2 = 2 * (n1 * c) := by rw [show n2 = 2 * c by omega]; grind
      rw [e, FIT_even, hc]
      exact ih n1 k1 c k2 (by omega) h1 (by omega) b1 (by omega) (by omega)
    · have h3 : ¬ n2 % 2 = 0 := fun h2 => h ((tmod2 n2).2 h2)
      exact dyMul_j4 (j + 1) n1 k1 n2 k2 hj h1 h2 b1 b2 (.inr ⟨by omega, h3⟩)
theorem dyMul_l0 (c0 c1 : Int) (j : Nat) : ∀ (n1 k1 n2 k2 : Int), j ≤ 100 → n1 ≠ 0 → n2 ≠ 0 → (-1099511627776 ≤ n1 ∧ n1 ≤ 1099511627776) → (-1099511627776 ≤ n2 ∧ n2 ≤ 1099511627776) → Et (fun z zn => spec_dyMul.l0 z zn (j : Int) n1 k1 n2 k2 c0 c1) (FIT j (n1 * n2)) := by
  induction j with
  | zero =>
    intro n1 k1 n2 k2 hj h1 h2 b1 b2
    refine Et.step (fun z zn => rfl) ?_
    simp only [spec_dyMul.l0, spec_dyMul.s0, cnd3]; simp only [cnd4, decide_eq_true_eq]
    exact Et_if (fun h => by omega) (fun _ => dyMul_l1 c0 c1 0 n1 k1 n2 k2 hj h1 h2 b1 b2 (.inl rfl))
  | succ j ih =>
    intro n1 k1 n2 k2 hj h1 h2 b1 b2
    refine Et.step (fun z zn => rfl) ?_
    simp only [spec_dyMul.l0, spec_dyMul.s0, cnd3]; simp only [cnd4, decide_eq_true_eq]
    refine Et_if (fun _ => Et_if (fun h => ?_) (fun h => ?_)) (fun h => by omega)
    · have h3 := (tmod2 n1).1 h
      rw [tdiv2 n1 h3, show wrap64 (n1 / 2) = n1 / 2 by unfold wrap64; omega, show wrap64 (((j + 1 : Nat) : Int) - 1) = (j : Int) by unfold wrap64; omega]
      obtain ⟨c, hc⟩ : ∃ c, n1 / 2 = c := ⟨_, rfl⟩
      have e : n1 * n2 = 2 * (c * n2) := by rw [show n1 = 2 * c by omega]; grind
      rw [e, FIT_even, hc]
      exact ih c k1 n2 k2 (by omega) (by omega) h2 (by omega) b2
    · have h3 : ¬ n1 % 2 = 0 := fun h2 => h ((tmod2 n1).2 h2)
      exact dyMul_l1 c0 c1 (j + 1) n1 k1 n2 k2 hj h1 h2 b1 b2 (.inr h3)
theorem dyMul_ev (n1 k1 n2 k2 : Int) (b1 : -1099511627776 ≤ n1 ∧ n1 ≤ 1099511627776) (hk1 : 0 ≤ k1 ∧ k1 ≤ 24) (b2 : -1099511627776 ≤ n2 ∧ n2 ≤ 1099511627776) (hk2 : 0 ≤ k2 ∧ k2 ≤ 24) : Et (fun z zn => spec_dyMul.f z n1 k1 n2 k2) (FIT (k1 + k2).toNat (n1 * n2)) := by
  have zero : n1 * n2 = 0 → FIT (k1 + k2).toNat (n1 * n2) = (0, 0, true) := fun h => by unfold FIT; rw [if_pos h]
  unfold spec_dyMul.f spec_dyMul.g; simp only [cnd4, decide_eq_true_eq]
  refine Et_if (fun h => ?_) (fun h => Et_if (fun h2 => ?_) (fun h2 => ?_))
  · rw [zero (by rw [h, Int.zero_mul])]; exact Et.now _
  · rw [zero (by rw [h2, Int.mul_zero])]; exact Et.now _
  · have h3 := dyMul_l0 0 0 (k1 + k2).toNat n1 k1 n2 k2 (by omega) h h2 b1 b2
    rw [show wrap64 (k1 + k2) = (((k1 + k2).toNat : Nat) : Int) by unfold wrap64; omega]
    exact h3.diag
/-! ### intervals, without a program -/
def dB (a : Int × Int) : Bool := dyB a.1 a.2
def dV (a : Int × Int) : Int := dv a.1 a.2
def ng (a : Int × Int) : Int × Int := (-a.1, a.2)
theorem FIT_dB (k : Nat) (R : Int) : dB ((FIT k R).1, (FIT k R).2.1) = true := by
  unfold FIT
  split
  · rfl
  · unfold mkR
    cases h : dyB (nrm k R).1 (nrm k R).2 with
    | true => exact h
    | false => rfl
theorem dB_range {a : Int × Int} (h : dB a = true) : (0 ≤ a.2 ∧ a.2 ≤ 24) ∧ ((-1099511627776) ≤ a.1 ∧ a.1 ≤ 1099511627776) := dyB_range _ _ h
theorem dB_ng {a : Int × Int} (h : dB a = true) : dB (ng a) = true := dyB_neg _ _ h
theorem dV_one {a b : Int × Int} (ha : dB a = true) (hb : dB b = true) (h : dV a = dV b) : a = b := by
  have := dv_one a.1 a.2 b.1 b.2 ha hb h
  exact Prod.ext this.1 this.2
def lessP (a b : Int × Int) : Int × Int := if dV b < dV a then b else a
def grtP (a b : Int × Int) : Int × Int := if dV a < dV b then b else a
theorem lessP_self (a : Int × Int) : lessP a a = a := by unfold lessP; split <;> rfl
theorem grtP_self (a : Int × Int) : grtP a a = a := by unfold grtP; split <;> rfl
theorem lessP4 (a b c d : Int × Int) : lessP (lessP a b) (lessP c d) = lessP (lessP (lessP a b) c) d := by
  unfold lessP
  by_cases h1 : dV b < dV a <;> simp only [h1, if_true, if_false] <;> by_cases h2 : dV d < dV c <;> simp only [h2, if_true, if_false] <;> (repeat' split) <;> first | rfl | omega
theorem grtP4 (a b c d : Int × Int) : grtP (grtP a b) (grtP c d) = grtP (grtP (grtP a b) c) d := by
  unfold grtP
  by_cases h1 : dV a < dV b <;> simp only [h1, if_true, if_false] <;> by_cases h2 : dV c < dV d <;> simp only [h2, if_true, if_false] <;> (repeat' split) <;> first | rfl | omega
theorem lessP_dB {a b : Int × Int} (ha : dB a = true) (hb : dB b = true) : dB (lessP a b) = true := by unfold lessP; split <;> assumption
theorem grtP_dB {a b : Int × Int} (ha : dB a = true) (hb : dB b = true) : dB (grtP a b) = true := by unfold grtP; split <;> assumption
/-- A product. -/
def PRp (a b : Int × Int) : Int × Int × Bool := FIT (a.2 + b.2).toNat (a.1 * b.1)
def SUp (a b : Int × Int) : Int × Int × Bool := FIT (maxI a.2 b.2).toNat (SUM a.1 a.2 b.1 b.2)
def nn (x : Int × Int × Bool) : Int × Int := (x.1, x.2.1)
theorem PRp_dB (a b : Int × Int) : dB (nn (PRp a b)) = true := FIT_dB _ _
theorem SUp_dB (a b : Int × Int) : dB (nn (SUp a b)) = true := FIT_dB _ _
theorem PRp_val {a b : Int × Int} (ha : dB a = true) (hb : dB b = true) (h : (PRp a b).2.2 = true) : dV (nn (PRp a b)) * 16777216 = dV a * dV b := by
  rcases h' : PRp a b with ⟨n, k, o⟩
  rw [h'] at h
  simp only at h
  subst h
  obtain ⟨f1, f2⟩ := FIT_some _ _ _ _ h'
  have r1 := dB_range ha
  have r2 := dB_range hb
  have r3 := dyB_range _ _ f1
  show dv n k * 16777216 = dv a.1 a.2 * dv b.1 b.2
  have v1 := dv_pow a.1 a.2 r1.1
  have v2 := dv_pow b.1 b.2 r2.1
  have v3 := dv_pow n k r3.1
  have e1 : (a.2 + b.2).toNat = a.2.toNat + b.2.toNat := by omega
  rw [e1, Int.pow_add] at f2
  have p1 := pow1 a.2.toNat
  have p2 := pow1 b.2.toNat
  have p3 := pow1 k.toNat
  obtain ⟨A, hA⟩ : ∃ A, (2 : Int) ^ a.2.toNat = A := ⟨_, rfl⟩
  obtain ⟨B, hB⟩ : ∃ B, (2 : Int) ^ b.2.toNat = B := ⟨_, rfl⟩
  obtain ⟨C, hC⟩ : ∃ C, (2 : Int) ^ k.toNat = C := ⟨_, rfl⟩
  rw [hA] at v1 p1 f2
  rw [hB] at v2 p2 f2
  rw [hC] at v3 p3 f2
  obtain ⟨x, hx⟩ : ∃ x, dv a.1 a.2 = x := ⟨_, rfl⟩
  obtain ⟨y, hy⟩ : ∃ y, dv b.1 b.2 = y := ⟨_, rfl⟩
  obtain ⟨z, hz⟩ : ∃ z, dv n k = z := ⟨_, rfl⟩
  rw [hx] at v1 ⊢
  rw [hy] at v2 ⊢
  rw [hz] at v3 ⊢
  have hp : A * B * C ≠ 0 := by
    have := Int.mul_pos (Int.mul_pos (show 0 < A by omega) (show 0 < B by omega)) (show 0 < C by omega); omega
  apply Int.eq_of_mul_eq_mul_right hp
  have e2 : z * 16777216 * (A * B * C) = (z * C) * 16777216 * (A * B) := by grind
  have e3 : x * y * (A * B * C) = (x * A) * (y * B) * C := by grind
  rw [e2, e3, v1, v2, v3]
  have e4 : n * 16777216 * 16777216 * (A * B) = n * (A * B) * 281474976710656 := by grind
  have e5 : a.1 * 16777216 * (b.1 * 16777216) * C = a.1 * b.1 * C * 281474976710656 := by grind
  rw [e4, e5, f2]
theorem PRp_one {a : Int × Int} (ha : dB a = true) : PRp (1, 0) a = (a.1, a.2, true) := by
  unfold PRp
  exact FIT_of _ _ _ _ ha (by simp)
/-- A power, where all on the way are valid. -/
def RAISE (a : Int × Int) : Nat → (Int × Int) → Option (Int × Int)
  | 0, x => some x
  | n + 1, x => if (PRp x a).2.2 = true then RAISE a n (nn (PRp x a)) else none
theorem RAISE_dB {a : Int × Int} (n : Nat) : ∀ x y, dB x = true → RAISE a n x = some y → dB y = true := by
  induction n with
  | zero => intro x y h e; simp only [RAISE, Option.some.injEq] at e; rw [← e]; exact h
  | succ n ih =>
    intro x y h e
    simp only [RAISE] at e
    split at e
    · exact ih _ _ (PRp_dB _ _) e
    · cases e
theorem sq_nn (x : Int) : 0 ≤ x * x := by
  rcases Int.le_total 0 x with h | h
  · exact Int.mul_nonneg h h
  · have := Int.mul_nonneg (show 0 ≤ -x by omega) (show 0 ≤ -x by omega); rwa [Int.neg_mul_neg] at this
theorem RAISE_even {a : Int × Int} (ha : dB a = true) (n : Nat) : ∀ x y, dB x = true → 0 ≤ dV x → RAISE a (2 * n) x = some y → 0 ≤ dV y := by
  induction n with
  | zero => intro x y h hx e; simp only [RAISE, Nat.mul_zero, Option.some.injEq] at e; rw [← e]; exact hx
  | succ n ih =>
    intro x y h hx e
    rw [show 2 * (n + 1) = 2 * n + 1 + 1 by omega] at e
    simp only [RAISE] at e
    split at e
    · rename_i h1
      split at e
      · rename_i h2
        have v1 := PRp_val h ha h1
        have v2 := PRp_val (PRp_dB x a) ha h2
        refine ih _ _ (PRp_dB _ _) ?_ e
        have := Int.mul_nonneg hx (sq_nn (dV a))
        have e1 : dV (nn (PRp (nn (PRp x a)) a)) * 16777216 * 16777216 = dV x * (dV a * dV a) := by
          rw [v2]
          have : dV (nn (PRp x a)) * dV a * 16777216 = dV (nn (PRp x a)) * 16777216 * dV a := by grind
          rw [this, v1]; grind
        omega
      · cases e
    · cases e
theorem cube_le (a b : Int) (h : a ≤ b) : a * a * a ≤ b * b * b := by
  have h1 := sq_nn a
  have h2 := sq_nn b
  have h3 := sq_nn (a + b)
  have e : 2 * (b * b * b - a * a * a) = (b - a) * (a * a + b * b + (a + b) * (a + b)) := by grind
  have := Int.mul_nonneg (show 0 ≤ b - a by omega) (show 0 ≤ a * a + b * b + (a + b) * (a + b) by omega)
  omega
theorem RAISE_odd {a b x y : Int × Int} (ha : dB a = true) (hb : dB b = true) (hab : dV a ≤ dV b) (n : Nat) (hn : n = 0 ∨ n = 2) (ex : RAISE a n a = some x) (ey : RAISE b n b = some y) : dV x ≤ dV y := by
  have key : ∀ {c z : Int × Int}, dB c = true → RAISE c 2 c = some z → dV z * 281474976710656 = dV c * dV c * dV c := by
    intro c z hc e
    simp only [RAISE] at e
    split at e
    · rename_i h1
      split at e
      · rename_i h2
        have v1 := PRp_val hc hc h1
        have v2 := PRp_val (PRp_dB c c) hc h2
        simp only [Option.some.injEq] at e
        rw [← e]
        have : dV (nn (PRp (nn (PRp c c)) c)) * 281474976710656 = dV (nn (PRp (nn (PRp c c)) c)) * 16777216 * 16777216 := by omega
        rw [this, v2]
        have : dV (nn (PRp c c)) * dV c * 16777216 = dV (nn (PRp c c)) * 16777216 * dV c := by grind
        rw [this, v1]
      · cases e
    · cases e
  rcases hn with rfl | rfl
  · simp only [RAISE, Option.some.injEq] at ex ey; rw [← ex, ← ey]; exact hab
  · have v1 := key ha ex
    have v2 := key hb ey
    have := cube_le _ _ hab
    omega
def RD (a : Int × Int) : Int × Int := if a.2 ≤ 16 then a else nn (FIT 16 (a.1 / 2 ^ (a.2 - 16).toNat))
def RU (a : Int × Int) : Int × Int := ng (RD (ng a))
theorem RD_dB {a : Int × Int} (h : dB a = true) : dB (RD a) = true := by
  unfold RD; split
  · exact h
  · exact FIT_dB _ _
theorem RU_dB {a : Int × Int} (h : dB a = true) : dB (RU a) = true := dB_ng (RD_dB (dB_ng h))
abbrev IV := (Int × Int) × Int × Int
def ivB (i : IV) : Prop := dB i.1 = true ∧ dB i.2 = true
def RO (lo hi : Int × Int) : IV := (RD lo, RU hi)
theorem RO_B {lo hi : Int × Int} (h : dB lo = true) (h' : dB hi = true) : ivB (RO lo hi) := ⟨RD_dB h, RU_dB h'⟩
def IMUL (i k : IV) : Option IV :=
  let a := PRp i.1 k.1; let b := PRp i.1 k.2; let c := PRp i.2 k.1; let d := PRp i.2 k.2
  if (a.2.2 && b.2.2 && c.2.2 && d.2.2) = true then some (RO (lessP (lessP (nn a) (nn b)) (lessP (nn c) (nn d))) (grtP (grtP (nn a) (nn b)) (grtP (nn c) (nn d)))) else none
def IADD (i k : IV) : Option IV :=
  let a := SUp i.1 k.1; let b := SUp i.2 k.2
  if (a.2.2 && b.2.2) = true then some (nn a, nn b) else none
theorem IMUL_B {i k x : IV} (h : IMUL i k = some x) : ivB x := by
  unfold IMUL at h
  simp only at h
  split at h
  · simp only [Option.some.injEq] at h
    rw [← h]
    exact RO_B (lessP_dB (lessP_dB (PRp_dB _ _) (PRp_dB _ _)) (lessP_dB (PRp_dB _ _) (PRp_dB _ _))) (grtP_dB (grtP_dB (PRp_dB _ _) (PRp_dB _ _)) (grtP_dB (PRp_dB _ _) (PRp_dB _ _)))
  · cases h
theorem IADD_B {i k x : IV} (h : IADD i k = some x) : ivB x := by
  unfold IADD at h
  simp only at h
  split at h
  · simp only [Option.some.injEq] at h
    rw [← h]; exact ⟨SUp_dB _ _, SUp_dB _ _⟩
  · cases h
/-- A power of an interval, as the reference has it. -/
def IPOW (i : IV) (n : Nat) : Option IV :=
  (RAISE i.1 n (1, 0)).bind fun lo => (RAISE i.2 n (1, 0)).bind fun hi =>
    some (if 0 < n ∧ n % 2 = 0 ∧ i.1.1 ≤ 0 ∧ 0 ≤ i.2.1 then RO (lessP (lessP lo hi) (0, 0)) (grtP (grtP lo hi) (0, 0)) else RO (lessP lo hi) (grtP lo hi))
theorem RAISE_first {a : Int × Int} (ha : dB a = true) (n : Nat) : RAISE a (n + 1) (1, 0) = RAISE a n a := by
  simp only [RAISE]
  rw [PRp_one ha, if_pos rfl]; rfl
/-- And as the program has it. -/
theorem IPOW_impl {i : IV} (hi : ivB i) (hle : dV i.1 ≤ dV i.2) (n : Nat) (hn : n ≤ 3) : IPOW i (n + 1) = (RAISE i.1 n i.1).bind fun lo => (RAISE i.2 n i.2).bind fun hi =>
    some (if (n + 1) % 2 = 0 then RO (if i.1.1 ≤ 0 ∧ 0 ≤ i.2.1 then (0, 0) else lessP lo hi) (grtP lo hi) else RO lo hi) := by
  unfold IPOW
  rw [RAISE_first hi.1, RAISE_first hi.2]
  cases e1 : RAISE i.1 n i.1 with
  | none => rfl
  | some lo =>
    cases e2 : RAISE i.2 n i.2 with
    | none => rfl
    | some h =>
      simp only [Option.bind_some]
      congr 1
      have b1 := RAISE_dB n _ _ hi.1 e1
      have b2 := RAISE_dB n _ _ hi.2 e2
      by_cases hp : (n + 1) % 2 = 0
      · rw [if_pos hp]
        by_cases hz : i.1.1 ≤ 0 ∧ 0 ≤ i.2.1
        · rw [if_pos ⟨by omega, hp, hz.1, hz.2⟩, if_pos hz]
          have r1 : RAISE i.1 (2 * ((n + 1) / 2)) (1, 0) = some lo := by rw [show 2 * ((n + 1) / 2) = n + 1 by omega, RAISE_first hi.1, e1]
          have r2 : RAISE i.2 (2 * ((n + 1) / 2)) (1, 0) = some h := by rw [show 2 * ((n + 1) / 2) = n + 1 by omega, RAISE_first hi.2, e2]
          have d1 : dB ((1, 0) : Int × Int) = true := rfl
          have d2 : 0 ≤ dV ((1, 0) : Int × Int) := by decide
          have p1 := RAISE_even hi.1 _ _ _ d1 d2 r1
          have p2 := RAISE_even hi.2 _ _ _ d1 d2 r2
          have z0 : dV ((0, 0) : Int × Int) = 0 := by decide
          have m1 : dB (lessP lo h) = true := lessP_dB b1 b2
          have m2 : 0 ≤ dV (lessP lo h) := by unfold lessP; split <;> assumption
          have m3 : 0 ≤ dV (grtP lo h) := by unfold grtP; split <;> assumption
          have q1 : lessP (lessP lo h) (0, 0) = (0, 0) := by
            obtain ⟨m, hm⟩ : ∃ m, lessP lo h = m := ⟨_, rfl⟩
            rw [hm] at m1 m2 ⊢
            unfold lessP
            rw [z0]
            split
            · rfl
            · exact dV_one m1 rfl (by rw [z0]; omega)
          have q2 : grtP (grtP lo h) (0, 0) = grtP lo h := by
            obtain ⟨m, hm⟩ : ∃ m, grtP lo h = m := ⟨_, rfl⟩
            rw [hm] at m3 ⊢
            unfold grtP
            rw [z0, if_neg (by omega)]
          rw [q1, q2]
        · rw [if_neg (fun hh => hz ⟨hh.2.2.1, hh.2.2.2⟩), if_neg hz]
      · rw [if_neg hp, if_neg (fun hh => hp hh.2.1)]
        have hle2 := RAISE_odd hi.1 hi.2 hle n (by omega) e1 e2
        have q1 : lessP lo h = lo := by unfold lessP; rw [if_neg (by omega)]
        have q2 : grtP lo h = h := by
          unfold grtP
          split
          · rfl
          · exact dV_one b1 b2 (by omega)
        rw [q1, q2]
theorem IPOW_B {i x : IV} {n : Nat} (h : IPOW i n = some x) (hi : ivB i) : ivB x := by
  unfold IPOW at h
  cases e1 : RAISE i.1 n (1, 0) with
  | none => rw [e1] at h; cases h
  | some lo =>
    cases e2 : RAISE i.2 n (1, 0) with
    | none => rw [e1, e2] at h; cases h
    | some hh =>
      rw [e1, e2] at h
      simp only [Option.bind_some, Option.some.injEq] at h
      have b1 := RAISE_dB n _ _ rfl e1
      have b2 := RAISE_dB n _ _ rfl e2
      rw [← h]
      split
      · exact RO_B (lessP_dB (lessP_dB b1 b2) rfl) (grtP_dB (grtP_dB b1 b2) rfl)
      · exact RO_B (lessP_dB b1 b2) (grtP_dB b1 b2)
theorem sgn_lt (x : Int) : sgnI x < 0 ↔ x < 0 := by
  unfold sgnI; split
  · omega
  · split <;> omega
theorem sgn_gt (x : Int) : 0 < sgnI x ↔ 0 < x := by
  unfold sgnI; split
  · omega
  · split <;> omega
/-- What keep tells. -/
def KP (ok : Bool) (x : Int × Int × Bool) : Int × Int × Bool := if (ok && x.2.2) = true then x else (0, 0, false)
theorem keep_eq (ok : Bool) (x : Int × Int × Bool) : impl_reckoner_keep.f ok x.1 x.2.1 x.2.2 = some (KP ok x) := by
  obtain ⟨n, k, o⟩ := x
  unfold impl_reckoner_keep.f impl_reckoner_keep.g KP
  cases ok <;> cases o <;> rfl
theorem KP_dB {ok : Bool} {x : Int × Int × Bool} (h : dB (nn x) = true) : dB (nn (KP ok x)) = true := by
  unfold KP; split
  · exact h
  · rfl
theorem product_ev (ok : Bool) {a b : Int × Int} (ha : dB a = true) (hb : dB b = true) : Et (fun z zn => impl_reckoner_product.f z ok a.1 a.2 b.1 b.2) (KP ok (PRp a b)) := by
  have r1 := dB_range ha
  have r2 := dB_range hb
  exact Et.bind (productOf_ev a.1 a.2 b.1 b.2 r1.2 r1.1 r2.2 r2.1) (Et_bindS (keep_eq ok _) (Et.now _))
theorem sum_ev (ok : Bool) {a b : Int × Int} (ha : dB a = true) (hb : dB b = true) : Et (fun z zn => impl_reckoner_sum.f z ok a.1 a.2 b.1 b.2) (KP ok (SUp a b)) := by
  have r1 := dB_range ha
  have r2 := dB_range hb
  exact Et.bind (sumOf_ev a.1 a.2 b.1 b.2 r1.2 r1.1 r2.2 r2.1) (Et_bindS (keep_eq ok _) (Et.now _))
theorem lesser_ev {a b : Int × Int} (ha : dB a = true) (hb : dB b = true) : Et (fun z zn => impl_lesser.f z a.1 a.2 b.1 b.2) (lessP a b) := by
  have r1 := dB_range ha
  have r2 := dB_range hb
  unfold impl_lesser.f impl_lesser.g; simp only [cnd4, decide_eq_true_eq]
  refine Et.bind (compareD_ev b.1 b.2 a.1 a.2 r2.2 r2.1 r1.2 r1.1) (Et_if (fun h => ?_) (fun h => ?_))
  · have h1 := (sgn_lt _).1 h
    unfold lessP dV; rw [if_pos (by omega)]; exact Et.now _
  · have h1 := mt (sgn_lt _).2 h
    unfold lessP dV; rw [if_neg (by omega)]; exact Et.now _
theorem greater_ev {a b : Int × Int} (ha : dB a = true) (hb : dB b = true) : Et (fun z zn => impl_greater.f z a.1 a.2 b.1 b.2) (grtP a b) := by
  have r1 := dB_range ha
  have r2 := dB_range hb
  unfold impl_greater.f impl_greater.g; simp only [cnd4, decide_eq_true_eq]
  refine Et.bind (compareD_ev b.1 b.2 a.1 a.2 r2.2 r2.1 r1.2 r1.1) (Et_if (fun h => ?_) (fun h => ?_))
  · have h1 := (sgn_gt _).1 h
    unfold grtP dV; rw [if_pos (by omega)]; exact Et.now _
  · have h1 := mt (sgn_gt _).2 h
    unfold grtP dV; rw [if_neg (by omega)]; exact Et.now _
theorem shrI64 (n k : Int) (hk : 0 ≤ k ∧ k ≤ 64) : shrI .i64 n k = n / 2 ^ k.toNat := by
  unfold shrI
  have hp := Int.pow_pos (n := 2) (m := min k.toNat IntKind.i64.bits) (by omega)
  rw [Int.fdiv_eq_ediv_of_nonneg _ (by omega), Nat.min_eq_left (by show k.toNat ≤ 64; omega)]
theorem div_range (n : Int) (s : Nat) (h : -1099511627776 ≤ n ∧ n ≤ 1099511627776) : -1099511627776 ≤ n / 2 ^ s ∧ n / 2 ^ s ≤ 1099511627776 := by
  have hp := pow1 s
  refine ⟨?_, ?_⟩
  · apply Int.le_ediv_of_mul_le (by omega)
    have := Int.mul_le_mul_of_nonneg_left hp (show (0 : Int) ≤ 1099511627776 by omega)
    omega
  · rcases Int.le_total 0 n with h' | h'
    · have := Int.ediv_le_self (2 ^ s) h'; omega
    · have : n / 2 ^ s ≤ 0 := by
        have := Int.ediv_le_ediv (show (0 : Int) < 2 ^ s by omega) h'
        simpa using this
      omega
theorem wv_of (n : Int) : wv (decide (n < 0)) 0 ((n.natAbs : Nat) : Int) = n := by
  unfold wv
  by_cases h0 : n < 0
  · rw [decide_eq_true h0, if_pos rfl]; omega
  · rw [decide_eq_false h0, if_neg (by decide)]; omega
theorem fitOf_ev (n : Int) (hn : -9000000000000000000 ≤ n ∧ n ≤ 9000000000000000000) (k : Nat) (hk : k ≤ 200) : Et (fun z zn => (impl_wideOf.f n).bind fun t => impl_wide_fit.f z t.1 t.2.1 t.2.2 (k : Int)) (FIT k n) := by
  refine Et_bindS (wideOf_eq n ⟨by omega, by omega⟩) ?_
  have f := fit_wv (decide (n < 0)) 0 ((n.natAbs : Nat) : Int) ⟨by omega, by omega⟩ ⟨by omega, by omega⟩ k hk
  rw [wv_of] at f
  exact f
theorem roundDown_ev {a : Int × Int} (ha : dB a = true) : Et (fun z zn => impl_roundDown.f z a.1 a.2 16) (RD a) := by
  have r := dB_range ha
  unfold impl_roundDown.f impl_roundDown.g RD; simp only [cnd4, decide_eq_true_eq]
  refine Et_if (fun h => ?_) (fun h => ?_)
  · rw [if_pos h]; exact Et.now _
  · rw [if_neg h, show wrap64 (a.2 - 16) = a.2 - 16 by unfold wrap64; omega]
    refine Et_if (fun h => by omega) (fun _ => ?_)
    rw [shrI64 _ _ ⟨by omega, by omega⟩]
    have hr := div_range a.1 (a.2 - 16).toNat r.2
    have f := fit_wv (decide (a.1 / 2 ^ (a.2 - 16).toNat < 0)) 0 (((a.1 / 2 ^ (a.2 - 16).toNat).natAbs : Nat) : Int) ⟨by omega, by omega⟩ ⟨by omega, by omega⟩ 16 (by omega)
    rw [wv_of] at f
    exact Et_bindS (wideOf_eq _ ⟨by omega, by omega⟩) (Et.bind f (Et.now _))
theorem minus_eq {a : Int × Int} (h : dB a = true) : impl_minus.f a.1 a.2 = some (ng a) := by
  have r := dB_range h
  unfold impl_minus.f impl_minus.g
  rw [show wrap64 (-a.1) = -a.1 by unfold wrap64; omega]; rfl
theorem dyMinus_eq {a : Int × Int} (h : dB a = true) : spec_dyMinus.f a.1 a.2 = some (ng a) := by
  have r := dB_range h
  unfold spec_dyMinus.f spec_dyMinus.g
  rw [show wrap64 (-a.1) = -a.1 by unfold wrap64; omega]; rfl
def fl4 (x : IV) : Int × Int × Int × Int := (x.1.1, x.1.2, x.2.1, x.2.2)
def fl5 (x : IV) (o : Bool) : Int × Int × Int × Int × Bool := (x.1.1, x.1.2, x.2.1, x.2.2, o)
theorem roundOut_ev {lo hi : Int × Int} (h1 : dB lo = true) (h2 : dB hi = true) : Et (fun z zn => impl_roundOut.f z lo.1 lo.2 hi.1 hi.2 16) (fl4 (RO lo hi)) := by
  exact Et.bind (roundDown_ev h1) (Et_bindS (minus_eq h2) (Et.bind (roundDown_ev (dB_ng h2)) (Et_bindS (minus_eq (RD_dB (dB_ng h2))) (Et.now _))))
theorem dyRound_ev {a : Int × Int} (ha : dB a = true) : Et (fun z zn => spec_dyRound.f z a.1 a.2 16) (RD a) := by
  have r := dB_range ha
  unfold spec_dyRound.f spec_dyRound.g RD; simp only [cnd4, decide_eq_true_eq]
  refine Et_if (fun h => ?_) (fun h => ?_)
  · rw [if_pos h]; exact Et.now _
  · rw [if_neg h, show wrap64 (a.2 - 16) = a.2 - 16 by unfold wrap64; omega]
    have hr := div_range a.1 (a.2 - 16).toNat r.2
    have hp := pow1 (a.2 - 16).toNat
    exact Et_bindS (dyPower62 _ ⟨by omega, by omega⟩) (Et_bindS (dyDown_gen _ _ ⟨by omega, by omega⟩ (by omega)) (Et.bind (dyMake_fit 16 _ ⟨by omega, by omega⟩ (by omega)) (Et.now _)))
theorem ivUp_ev {a : Int × Int} (h : dB a = true) : Et (fun z zn => spec_ivUp.f z a.1 a.2 16) (RU a) := by
  unfold spec_ivUp.f spec_ivUp.g
  exact Et_bindS (dyMinus_eq h) (Et.bind (dyRound_ev (dB_ng h)) (Et_bindS (dyMinus_eq (RD_dB (dB_ng h))) (Et.now _)))
theorem ivRound_ev {lo hi : Int × Int} (h1 : dB lo = true) (h2 : dB hi = true) : Et (fun z zn => spec_ivRound.f z lo.1 lo.2 hi.1 hi.2 16) (fl4 (RO lo hi)) := by
  exact Et.bind (dyRound_ev h1) (Et.bind (ivUp_ev h2) (Et.now _))
/-- The reference's ends. -/
theorem ends_l0 (l : List (Int × Int)) (hl : l.length ≤ 1000000) (hb : ∀ x ∈ l, dB x = true) (c0 c1 c2 c3 : Int) (d : Nat) : ∀ (i : Nat) (lo hi : Int × Int), i ≤ l.length → l.length - i = d → dB lo = true → dB hi = true →
    Et (fun z zn => spec_ivEnds.l0 z zn l (l.length : Int) (i : Int) c0 c1 c2 c3 lo.1 lo.2 hi.1 hi.2) (fl4 ((l.drop i).foldl lessP lo, (l.drop i).foldl grtP hi)) := by
  induction d with
  | zero =>
    intro i lo hi h1 h2 h3 h4
    refine Et.step (fun z zn => rfl) ?_
    simp only [spec_ivEnds.l0, spec_ivEnds.s0, cnd3]; simp only [cnd4, decide_eq_true_eq]
    rw [List.drop_eq_nil_of_le (by omega)]
    exact Et_if (fun h => by omega) (fun _ => Et.now _)
  | succ d ih =>
    intro i lo hi h1 h2 h3 h4
    have hlt : i < l.length := by omega
    obtain ⟨x, hx⟩ : ∃ x, l.getD i (0, 0) = x := ⟨_, rfl⟩
    have hx2 : l[i] = x := by rw [← hx]; simp [hlt]
    have hxB : dB x = true := hb x (by rw [← hx2]; exact List.getElem_mem hlt)
    have rl := dB_range h3
    have rh := dB_range h4
    have rx := dB_range hxB
    refine Et.step (fun z zn => rfl) ?_
    simp only [spec_ivEnds.l0, spec_ivEnds.s0, spec_ivEnds.j102, cnd3]; simp only [cnd4, decide_eq_true_eq, getD_at, hx, wrap_next i (show i < 9223372036854775807 by omega)]
    rw [List.drop_eq_getElem_cons hlt, hx2, List.foldl_cons, List.foldl_cons]
    refine Et_if (fun _ => Et_if (fun _ => Et_if (fun _ => Et.bind (dyCmp_ev x.1 x.2 lo.1 lo.2 rx.2 rx.1 rl.2 rl.1) ?_) (fun h => by omega)) (fun h => by omega)) (fun h => by omega)
    have cmp2 := dyCmp_ev hi.1 hi.2 x.1 x.2 rh.2 rh.1 rx.2 rx.1
    have fin : ∀ lo2 : Int × Int, lo2 = lessP lo x → dB lo2 = true → Et (fun z zn => (spec_dyCmp.f z hi.1 hi.2 x.1 x.2).bind fun t => if t < 0 then spec_ivEnds.l0 z zn l (l.length : Int) ((i + 1 : Nat) : Int) c0 c1 c2 c3 lo2.1 lo2.2 x.1 x.2 else spec_ivEnds.l0 z zn l (l.length : Int) ((i + 1 : Nat) : Int) c0 c1 c2 c3 lo2.1 lo2.2 hi.1 hi.2) (fl4 ((l.drop (i + 1)).foldl lessP (lessP lo x), (l.drop (i + 1)).foldl grtP (grtP hi x))) := by
      intro lo2 e2 b2
      rw [← e2]
      refine Et.bind cmp2 (Et_if (fun h => ?_) (fun h => ?_))
      · have := (sgn_lt _).1 h
        have e : grtP hi x = x := by unfold grtP dV; rw [if_pos (by omega)]
        rw [e]; exact ih (i + 1) lo2 x (by omega) (by omega) b2 hxB
      · have := mt (sgn_lt _).2 h
        have e : grtP hi x = hi := by unfold grtP dV; rw [if_neg (by omega)]
        rw [e]; exact ih (i + 1) lo2 hi (by omega) (by omega) b2 h4
    refine Et_if (fun h => ?_) (fun h => ?_)
    · have := (sgn_lt _).1 h
      exact fin x (by unfold lessP dV; rw [if_pos (by omega)]) hxB
    · have := mt (sgn_lt _).2 h
      exact fin lo (by unfold lessP dV; rw [if_neg (by omega)]) h3
theorem ends_ev (x : Int × Int) (l : List (Int × Int)) (hl : l.length ≤ 1000) (hb : ∀ y ∈ x :: l, dB y = true) : Et (fun z zn => spec_ivEnds.f z (x :: l)) (fl4 (l.foldl lessP x, l.foldl grtP x)) := by
  have h := (ends_l0 (x :: l) (by simp; omega) hb 0 0 0 0 (l.length + 1) 0 x x (by simp) (by simp) (hb x (by simp)) (hb x (by simp))).diag
  simp only [List.drop_zero, List.foldl_cons, lessP_self, grtP_self] at h
  unfold spec_ivEnds.f spec_ivEnds.g; simp only [cnd4, decide_eq_true_eq]
  refine Et_if (fun _ => Et_if (fun _ => ?_) (fun h => absurd (by simp) h)) (fun h => absurd (by simp) h)
  exact h
def flo (o : Option IV) : Int × Int × Int × Int × Bool := match o with
  | some x => fl5 x true
  | none => (0, 0, 0, 0, false)
theorem w01 : wrap64 (0 + 1) = 1 := by unfold wrap64; omega
theorem w12 : wrap64 (1 + 1) = 2 := by unfold wrap64; omega
theorem KP_ok (ok : Bool) (x : Int × Int × Bool) : (KP ok x).2.2 = (ok && x.2.2) := by
  obtain ⟨n, k, o⟩ := x
  cases ok <;> cases o <;> rfl
theorem KP_val {ok : Bool} {x : Int × Int × Bool} (h : (KP ok x).2.2 = true) : KP ok x = x := by
  rw [KP_ok] at h
  unfold KP; rw [if_pos h]
theorem dyMulP {x y : Int × Int} (hx : dB x = true) (hy : dB y = true) : Et (fun z zn => spec_dyMul.f z x.1 x.2 y.1 y.2) (PRp x y) := by
  have rx := dB_range hx
  have ry := dB_range hy
  exact dyMul_ev x.1 x.2 y.1 y.2 rx.2 rx.1 ry.2 ry.1
theorem mul_l1 (L M : List (Int × Int)) (n ii : Int) (hMl : M.length ≤ 1000) (hM : ∀ y ∈ M, dB y = true) (x : Int × Int) (hx : dB x = true) (b0 b1 b2 b3 b4 b5 b6 b7 b8 b9 b10 b11 : Int) (R : Int × Int × Int × Int × Bool) (d : Nat) : ∀ (j : Nat) (acc : List (Int × Int)), j ≤ M.length → M.length - j = d → acc.length + d ≤ 1000 →
    ((∀ y ∈ M.drop j, (PRp x y).2.2 = true) → Et (fun z zn => spec_ivMul.l0 z zn L n (wrap64 (ii + 1)) (acc ++ (M.drop j).map fun y => nn (PRp x y)) b0 b1 b2 b3 b4 b5 b6 b7 b8 b9 b10 b11) R) →
    (∀ y ∈ M.drop j, (PRp x y).2.2 = false → R = (0, 0, 0, 0, false)) →
    Et (fun z zn => spec_ivMul.l1 z zn L n ii M (M.length : Int) (j : Int) acc b0 b1 b2 b3 b4 b5 b6 b7 b8 b9 b10 b11 x.1 x.2) R := by
  induction d with
  | zero =>
    intro j acc h1 h2 h3 hk hf
    refine Et.step (fun z zn => rfl) ?_
    simp only [spec_ivMul.l1, spec_ivMul.s1, cnd3]; simp only [cnd4, decide_eq_true_eq]
    rw [List.drop_eq_nil_of_le (by omega)] at hk
    simp only [List.map_nil, List.append_nil] at hk
    exact Et_if (fun h => by omega) (fun _ => hk (fun y hy => by cases hy))
  | succ d ih =>
    intro j acc h1 h2 h3 hk hf
    have hlt : j < M.length := by omega
    obtain ⟨y, hy⟩ : ∃ y, M.getD j (0, 0) = y := ⟨_, rfl⟩
    have hy2 : M[j] = y := by rw [← hy]; simp [hlt]
    have hyB : dB y = true := hM y (by rw [← hy2]; exact List.getElem_mem hlt)
    have rx := dB_range hx
    have ry := dB_range hyB
    rw [List.drop_eq_getElem_cons hlt, hy2] at hk hf
    refine Et.step (fun z zn => rfl) ?_
    simp only [spec_ivMul.l1, spec_ivMul.s1, cnd3]; simp only [cnd4, decide_eq_true_eq, getD_at, hy, wrap_next j (show j < 9223372036854775807 by omega)]
    refine Et_if (fun _ => Et_if (fun _ => Et_if (fun _ => Et.bind (dyMulP hx hyB) ?_) (fun h => by omega)) (fun h => by omega)) (fun h => by omega)
    refine Et_if (fun h => Et_if (fun _ => ?_) (fun h => by exfalso; apply h; simp; omega)) (fun h => ?_)
    · refine ih (j + 1) _ (by omega) (by omega) (by simp; omega) (fun hh => ?_) (fun u hu => hf u (List.mem_cons_of_mem _ hu))
      have := hk (fun u hu => by rcases List.mem_cons.1 hu with rfl | hu; exact h; exact hh u hu)
      rw [List.map_cons, List.append_cons] at this
      exact this
    · rw [hf y (by simp) (Bool.eq_false_iff.2 h)]; exact Et.now _
theorem ivMul_ev {i k : IV} (hi : ivB i) (hk : ivB k) : Et (fun z zn => spec_ivMul.f z i.1.1 i.1.2 i.2.1 i.2.2 k.1.1 k.1.2 k.2.1 k.2.2) (flo (IMUL i k)) := by
  have hM : ∀ y ∈ [k.1, k.2], dB y = true := by
    intro y hy
    simp only [List.mem_cons, List.not_mem_nil, or_false] at hy
    rcases hy with rfl | rfl
    · exact hk.1
    · exact hk.2
  have none_ : ∀ y ∈ [k.1, k.2], ∀ x ∈ [i.1, i.2], (PRp x y).2.2 = false → flo (IMUL i k) = (0, 0, 0, 0, false) := by
    intro y hy x hx h
    simp only [List.mem_cons, List.not_mem_nil, or_false] at hy hx
    have : IMUL i k = none := by
      unfold IMUL
      simp only
      rcases hy with rfl | rfl <;> rcases hx with rfl | rfl <;> rw [h] <;> simp
    rw [this]; rfl
  have h1 : Et (fun z zn => spec_ivMul.l0 z zn [i.1, i.2] 2 0 [] i.1.1 i.1.2 i.2.1 i.2.2 k.1.1 k.1.2 k.2.1 k.2.2 0 0 0 0) (flo (IMUL i k)) := by
    refine Et.step (fun z zn => rfl) ?_
    simp only [spec_ivMul.l0, spec_ivMul.s0, cnd3]; simp only [cnd4, decide_eq_true_eq]
    refine Et_if (fun _ => Et_if (fun _ => Et_if (fun _ => ?_) (fun h => absurd (by simp) h)) (fun h => absurd (by simp) h)) (fun h => absurd (by simp) h)
    refine mul_l1 [i.1, i.2] [k.1, k.2] 2 0 (by simp) hM i.1 hi.1 _ _ _ _ _ _ _ _ _ _ _ _ _ 2 0 [] (by simp) (by simp) (by simp) (fun ok1 => ?_) (fun y hy h => none_ y hy i.1 (by simp) h)
    rw [w01]
    refine Et.step (fun z zn => rfl) ?_
    simp only [spec_ivMul.l0, spec_ivMul.s0, cnd3]; simp only [cnd4, decide_eq_true_eq]
    refine Et_if (fun _ => Et_if (fun _ => Et_if (fun _ => ?_) (fun h => absurd (by simp) h)) (fun h => absurd (by simp) h)) (fun h => absurd (by simp) h)
    refine mul_l1 [i.1, i.2] [k.1, k.2] 2 1 (by simp) hM i.2 hi.2 _ _ _ _ _ _ _ _ _ _ _ _ _ 2 0 _ (by simp) (by simp) (by simp) (fun ok2 => ?_) (fun y hy h => none_ y hy i.2 (by simp) h)
    rw [w12]
    refine Et.step (fun z zn => rfl) ?_
    simp only [spec_ivMul.l0, spec_ivMul.s0, cnd3]; simp only [cnd4, decide_eq_true_eq]
    refine Et_if (fun h => absurd h (by decide)) (fun _ => ?_)
    have e : IMUL i k = some (RO (lessP (lessP (nn (PRp i.1 k.1)) (nn (PRp i.1 k.2))) (lessP (nn (PRp i.2 k.1)) (nn (PRp i.2 k.2)))) (grtP (grtP (nn (PRp i.1 k.1)) (nn (PRp i.1 k.2))) (grtP (nn (PRp i.2 k.1)) (nn (PRp i.2 k.2))))) := by
      unfold IMUL
      simp only
      rw [ok1 k.1 (by simp), ok1 k.2 (by simp), ok2 k.1 (by simp), ok2 k.2 (by simp)]; rfl
    have he := ends_ev (nn (PRp i.1 k.1)) [nn (PRp i.1 k.2), nn (PRp i.2 k.1), nn (PRp i.2 k.2)] (by simp) (by
      intro y hy
      simp only [List.mem_cons, List.not_mem_nil, or_false] at hy
      rcases hy with rfl | rfl | rfl | rfl <;> exact PRp_dB _ _)
    simp only [List.foldl_cons, List.foldl_nil, ← lessP4, ← grtP4] at he
    rw [e]
    have dl : dB (lessP (lessP (nn (PRp i.1 k.1)) (nn (PRp i.1 k.2))) (lessP (nn (PRp i.2 k.1)) (nn (PRp i.2 k.2)))) = true := lessP_dB (lessP_dB (PRp_dB _ _) (PRp_dB _ _)) (lessP_dB (PRp_dB _ _) (PRp_dB _ _))
    have dg : dB (grtP (grtP (nn (PRp i.1 k.1)) (nn (PRp i.1 k.2))) (grtP (nn (PRp i.2 k.1)) (nn (PRp i.2 k.2)))) = true := grtP_dB (grtP_dB (PRp_dB _ _) (PRp_dB _ _)) (grtP_dB (PRp_dB _ _) (PRp_dB _ _))
    exact Et.bind he (Et.bind (ivRound_ev dl dg) (Et.now _))
  exact h1.diag
/-- What the program's steps tell: an interval, and whether all was valid. -/
def stepOk (ok : Bool) (o : Option IV) (x : IV) (ok' : Bool) : Prop := ivB x ∧ ok' = (ok && o.isSome) ∧ (ok' = true → o = some x)
theorem multiply_ev (ok : Bool) {i k : IV} (hi : ivB i) (hk : ivB k) : ∃ x ok', Et (fun z zn => impl_reckoner_multiply.f z ok i.1.1 i.1.2 i.2.1 i.2.2 k.1.1 k.1.2 k.2.1 k.2.2) (fl5 x ok') ∧ stepOk ok (IMUL i k) x ok' := by
  obtain ⟨a, ha⟩ : ∃ a, KP ok (PRp i.1 k.1) = a := ⟨_, rfl⟩
  obtain ⟨b, hb⟩ : ∃ b, KP a.2.2 (PRp i.1 k.2) = b := ⟨_, rfl⟩
  obtain ⟨c, hc⟩ : ∃ c, KP b.2.2 (PRp i.2 k.1) = c := ⟨_, rfl⟩
  obtain ⟨d, hd⟩ : ∃ d, KP c.2.2 (PRp i.2 k.2) = d := ⟨_, rfl⟩
  have p1 := product_ev ok hi.1 hk.1
  have p2 := product_ev a.2.2 hi.1 hk.2
  have p3 := product_ev b.2.2 hi.2 hk.1
  have p4 := product_ev c.2.2 hi.2 hk.2
  rw [ha] at p1; rw [hb] at p2; rw [hc] at p3; rw [hd] at p4
  have d1 : dB (nn a) = true := by rw [← ha]; exact KP_dB (PRp_dB _ _)
  have d2 : dB (nn b) = true := by rw [← hb]; exact KP_dB (PRp_dB _ _)
  have d3 : dB (nn c) = true := by rw [← hc]; exact KP_dB (PRp_dB _ _)
  have d4 : dB (nn d) = true := by rw [← hd]; exact KP_dB (PRp_dB _ _)
  have D1 := lessP_dB (lessP_dB d1 d2) (lessP_dB d3 d4)
  have D2 := grtP_dB (grtP_dB d1 d2) (grtP_dB d3 d4)
  have q1 := lesser_ev d1 d2
  have q2 := lesser_ev d3 d4
  have q3 := lesser_ev (lessP_dB d1 d2) (lessP_dB d3 d4)
  have q4 := greater_ev d1 d2
  have q5 := greater_ev d3 d4
  have q6 := greater_ev (grtP_dB d1 d2) (grtP_dB d3 d4)
  have q7 := roundOut_ev D1 D2
  have hB : ivB (RO (lessP (lessP (nn a) (nn b)) (lessP (nn c) (nn d))) (grtP (grtP (nn a) (nn b)) (grtP (nn c) (nn d)))) := RO_B D1 D2
  refine ⟨RO (lessP (lessP (nn a) (nn b)) (lessP (nn c) (nn d))) (grtP (grtP (nn a) (nn b)) (grtP (nn c) (nn d))), d.2.2, ?_, hB, ?_, ?_⟩
  · unfold impl_reckoner_multiply.f impl_reckoner_multiply.g
    generalize RO (lessP (lessP (nn a) (nn b)) (lessP (nn c) (nn d))) (grtP (grtP (nn a) (nn b)) (grtP (nn c) (nn d))) = X at *
    generalize lessP (lessP (nn a) (nn b)) (lessP (nn c) (nn d)) = m at *
    generalize grtP (grtP (nn a) (nn b)) (grtP (nn c) (nn d)) = M at *
    generalize lessP (nn a) (nn b) = m1 at *
    generalize lessP (nn c) (nn d) = m2 at *
    generalize grtP (nn a) (nn b) = m3 at *
    generalize grtP (nn c) (nn d) = m4 at *
    exact Et.bind p1 (Et.bind p2 (Et.bind p3 (Et.bind p4 (Et.bind q1 (Et.bind q2 (Et.bind q3 (Et.bind q4 (Et.bind q5 (Et.bind q6 (Et.bind q7 (Et.now _)))))))))))
  · rw [← hd, KP_ok, ← hc, KP_ok, ← hb, KP_ok, ← ha, KP_ok]
    unfold IMUL
    simp only
    split
    · rename_i h; simp only [Bool.and_eq_true] at h; rw [h.1.1.1, h.1.1.2, h.1.2, h.2]; simp
    · rename_i h
      simp only [Option.isSome_none, Bool.and_false, Bool.and_assoc] at h ⊢
      rw [Bool.eq_false_iff.2 h]; simp
  · intro h
    have h4 : d.2.2 = true := h
    have e4 : d = PRp i.2 k.2 := by rw [← hd] at h4 ⊢; exact KP_val h4
    have k4 := h4
    rw [← hd, KP_ok, Bool.and_eq_true] at k4
    have e3 : c = PRp i.2 k.1 := by have := k4.1; rw [← hc] at this ⊢; exact KP_val this
    have k3 := k4.1
    rw [← hc, KP_ok, Bool.and_eq_true] at k3
    have e2 : b = PRp i.1 k.2 := by have := k3.1; rw [← hb] at this ⊢; exact KP_val this
    have k2 := k3.1
    rw [← hb, KP_ok, Bool.and_eq_true] at k2
    have e1 : a = PRp i.1 k.1 := by have := k2.1; rw [← ha] at this ⊢; exact KP_val this
    have k1 := k2.1
    rw [← ha, KP_ok, Bool.and_eq_true] at k1
    unfold IMUL
    simp only
    rw [if_pos (by rw [k1.2, k2.2, k3.2, k4.2]; rfl), e1, e2, e3, e4]
theorem dyAddP {x y : Int × Int} (hx : dB x = true) (hy : dB y = true) : Et (fun z zn => spec_dyAdd.f z x.1 x.2 y.1 y.2) (SUp x y) := dyAdd_ev x.1 x.2 y.1 y.2 hx hy
theorem ivAdd_ev {i k : IV} (hi : ivB i) (hk : ivB k) : Et (fun z zn => spec_ivAdd.f z i.1.1 i.1.2 i.2.1 i.2.2 k.1.1 k.1.2 k.2.1 k.2.2) (flo (IADD i k)) := by
  have p1 := dyAddP hi.1 hk.1
  have p2 := dyAddP hi.2 hk.2
  unfold IADD
  simp only
  generalize SUp i.1 k.1 = A at *
  generalize SUp i.2 k.2 = B at *
  obtain ⟨a, b, c⟩ := A
  obtain ⟨d, e, f⟩ := B
  unfold spec_ivAdd.f spec_ivAdd.g
  cases c <;> cases f <;> exact Et.bind p1 (Et.bind p2 (Et_bindS rfl (Et.now _)))
theorem add_ev (ok : Bool) {i k : IV} (hi : ivB i) (hk : ivB k) : ∃ x ok', Et (fun z zn => impl_reckoner_add.f z ok i.1.1 i.1.2 i.2.1 i.2.2 k.1.1 k.1.2 k.2.1 k.2.2) (fl5 x ok') ∧ stepOk ok (IADD i k) x ok' := by
  obtain ⟨a, ha⟩ : ∃ a, KP ok (SUp i.1 k.1) = a := ⟨_, rfl⟩
  obtain ⟨b, hb⟩ : ∃ b, KP a.2.2 (SUp i.2 k.2) = b := ⟨_, rfl⟩
  have p1 := sum_ev ok hi.1 hk.1
  have p2 := sum_ev a.2.2 hi.2 hk.2
  rw [ha] at p1; rw [hb] at p2
  have d1 : dB (nn a) = true := by rw [← ha]; exact KP_dB (SUp_dB _ _)
  have d2 : dB (nn b) = true := by rw [← hb]; exact KP_dB (SUp_dB _ _)
  refine ⟨(nn a, nn b), b.2.2, ?_, ⟨d1, d2⟩, ?_, ?_⟩
  · unfold impl_reckoner_add.f impl_reckoner_add.g
    exact Et.bind p1 (Et.bind p2 (Et.now _))
  · rw [← hb, KP_ok, ← ha, KP_ok]
    unfold IADD
    simp only
    split
    · rename_i h; simp only [Bool.and_eq_true] at h; rw [h.1, h.2]; simp
    · rename_i h
      simp only [Option.isSome_none, Bool.and_false, Bool.and_assoc] at h ⊢
      rw [Bool.eq_false_iff.2 h]; simp
  · intro h
    have h4 : b.2.2 = true := h
    have e4 : b = SUp i.2 k.2 := by rw [← hb] at h4 ⊢; exact KP_val h4
    have k4 := h4
    rw [← hb, KP_ok, Bool.and_eq_true] at k4
    have e3 : a = SUp i.1 k.1 := by have := k4.1; rw [← ha] at this ⊢; exact KP_val this
    have k3 := k4.1
    rw [← ha, KP_ok, Bool.and_eq_true] at k3
    unfold IADD
    simp only
    rw [if_pos (by rw [k3.2, k4.2]; rfl), e3, e4]
/-! ### what holds of intervals -/
theorem maxI_comm (a b : Int) : maxI a b = maxI b a := by rw [maxI_if, maxI_if]; split <;> split <;> omega
theorem PR_comm (a b : Int × Int) : PRp a b = PRp b a := by unfold PRp; rw [Int.mul_comm, Int.add_comm]
theorem SU_comm (a b : Int × Int) : SUp a b = SUp b a := by unfold SUp SUM; rw [maxI_comm a.2 b.2, Int.add_comm]
theorem SU_val {a b : Int × Int} (ha : dB a = true) (hb : dB b = true) (h : (SUp a b).2.2 = true) : dV (nn (SUp a b)) = dV a + dV b := by
  have ra := dB_range ha
  have rb := dB_range hb
  have hK : (maxI a.2 b.2).toNat ≤ 24 := by rw [maxI_if]; split <;> omega
  have e : FIT (maxI a.2 b.2).toNat (SUM a.1 a.2 b.1 b.2) = ((nn (SUp a b)).1, (nn (SUp a b)).2, true) := by
    show SUp a b = _
    unfold nn
    rw [← h]
  have := (FIT_dv _ hK _ _ _ (SUp_dB a b)).1 e
  show dv _ _ = dv a.1 a.2 + dv b.1 b.2
  rw [this, dv_sum _ _ _ _ ra.1 rb.1]; rfl
theorem dV_less (a b : Int × Int) : dV (lessP a b) = if dV b < dV a then dV b else dV a := by unfold lessP; split <;> rfl
theorem dV_grt (a b : Int × Int) : dV (grtP a b) = if dV a < dV b then dV b else dV a := by unfold grtP; split <;> rfl
theorem dV_ng (a : Int × Int) : dV (ng a) = -dV a := dv_neg a.1 a.2
theorem IADD_comm (i k : IV) : IADD i k = IADD k i := by unfold IADD; rw [SU_comm i.1 k.1, SU_comm i.2 k.2]
theorem IMUL_comm (i k : IV) : IMUL i k = IMUL k i := by
  unfold IMUL
  simp only
  rw [PR_comm k.1 i.1, PR_comm k.1 i.2, PR_comm k.2 i.1, PR_comm k.2 i.2]
  have d1 := PRp_dB i.1 k.1
  have d2 := PRp_dB i.1 k.2
  have d3 := PRp_dB i.2 k.1
  have d4 := PRp_dB i.2 k.2
  generalize PRp i.1 k.1 = A at *
  generalize PRp i.1 k.2 = B at *
  generalize PRp i.2 k.1 = C at *
  generalize PRp i.2 k.2 = D at *
  have e : (A.2.2 && B.2.2 && C.2.2 && D.2.2) = (A.2.2 && C.2.2 && B.2.2 && D.2.2) := by cases A.2.2 <;> cases B.2.2 <;> cases C.2.2 <;> cases D.2.2 <;> rfl
  rw [e]
  generalize nn A = a at *
  generalize nn B = b at *
  generalize nn C = c at *
  generalize nn D = d at *
  have e1 : lessP (lessP a b) (lessP c d) = lessP (lessP a c) (lessP b d) := by
    refine dV_one (lessP_dB (lessP_dB d1 d2) (lessP_dB d3 d4)) (lessP_dB (lessP_dB d1 d3) (lessP_dB d2 d4)) ?_
    simp only [dV_less]
    generalize dV a = x; generalize dV b = y; generalize dV c = z; generalize dV d = u
    repeat' split
    all_goals omega
  have e2 : grtP (grtP a b) (grtP c d) = grtP (grtP a c) (grtP b d) := by
    refine dV_one (grtP_dB (grtP_dB d1 d2) (grtP_dB d3 d4)) (grtP_dB (grtP_dB d1 d3) (grtP_dB d2 d4)) ?_
    simp only [dV_grt]
    generalize dV a = x; generalize dV b = y; generalize dV c = z; generalize dV d = u
    repeat' split
    all_goals omega
  rw [e1, e2]
theorem nrm_abs (k : Nat) : ∀ n : Int, -1099511627776 ≤ n ∧ n ≤ 1099511627776 → -1099511627776 ≤ (nrm k n).1 ∧ (nrm k n).1 ≤ 1099511627776 := by
  induction k with
  | zero => intro n h; exact h
  | succ k ih =>
    intro n h
    simp only [nrm]
    split
    · exact ih _ ⟨by omega, by omega⟩
    · exact h
theorem FIT_ok (k : Nat) (hk : k ≤ 24) (n : Int) (h : -1099511627776 ≤ n ∧ n ≤ 1099511627776) : FIT k n = ((FIT k n).1, (FIT k n).2.1, true) := by
  unfold FIT
  by_cases h0 : n = 0
  · rw [if_pos h0]
  · rw [if_neg h0]
    have r1 := nrm_abs k n h
    have r2 := (nrm_form k n).1
    have : dyB (nrm k n).1 (nrm k n).2 = true := (dyB_nrm _ _).2 ⟨by omega, by omega⟩
    unfold mkR
    rw [this]; rfl
theorem RD_le {a : Int × Int} (h : dB a = true) : dV (RD a) ≤ dV a := by
  have r := dB_range h
  unfold RD
  split
  · exact Int.le_refl _
  · rename_i hk
    have hr := div_range a.1 (a.2 - 16).toNat r.2
    have f := FIT_ok 16 (by omega) _ hr
    have v := (FIT_dv 16 (by omega) _ _ _ (FIT_dB _ _)).1 f
    show dv _ _ ≤ dv a.1 a.2
    rw [show dv (nn (FIT 16 (a.1 / 2 ^ (a.2 - 16).toNat))).1 (nn (FIT 16 (a.1 / 2 ^ (a.2 - 16).toNat))).2 = _ from v]
    unfold dv
    have e : (2 : Int) ^ (24 - 16) = 2 ^ (a.2 - 16).toNat * 2 ^ (24 - a.2.toNat) := by rw [← Int.pow_add]; congr 1; omega
    have hp := pow1 (a.2 - 16).toNat
    have hq := pow1 (24 - a.2.toNat)
    rw [e, Int.mul_comm (2 ^ (a.2 - 16).toNat), Int.mul_assoc, Int.mul_comm a.1]
    refine Int.mul_le_mul_of_nonneg_left ?_ (by omega)
    rw [Int.mul_comm]
    exact Int.ediv_mul_le _ (by omega)
theorem RU_ge {a : Int × Int} (h : dB a = true) : dV a ≤ dV (RU a) := by
  have := RD_le (dB_ng h)
  unfold RU
  rw [dV_ng]
  rw [dV_ng] at this
  omega
/-- A valid interval. -/
def ivG (i : IV) : Bool := dB i.1 && (dB i.2 && decide (dV i.1 ≤ dV i.2))
theorem ivG_B {i : IV} (h : ivG i = true) : ivB i ∧ dV i.1 ≤ dV i.2 := by
  unfold ivG at h
  simp only [Bool.and_eq_true, decide_eq_true_eq] at h
  exact ⟨⟨h.1, h.2.1⟩, h.2.2⟩
theorem ivG_of {i : IV} (h : ivB i) (h' : dV i.1 ≤ dV i.2) : ivG i = true := by
  unfold ivG
  rw [h.1, h.2, decide_eq_true h']; rfl
theorem IADD_val {i k x : IV} (hi : ivB i) (hk : ivB k) (h : IADD i k = some x) : dV x.1 = dV i.1 + dV k.1 ∧ dV x.2 = dV i.2 + dV k.2 := by
  unfold IADD at h
  simp only at h
  split at h
  · rename_i hc
    simp only [Bool.and_eq_true] at hc
    simp only [Option.some.injEq] at h
    rw [← h]
    exact ⟨SU_val hi.1 hk.1 hc.1, SU_val hi.2 hk.2 hc.2⟩
  · cases h
theorem IADD_G {i k x : IV} (hi : ivG i = true) (hk : ivG k = true) (h : IADD i k = some x) : ivG x = true := by
  obtain ⟨a, b⟩ := ivG_B hi
  obtain ⟨c, d⟩ := ivG_B hk
  have := IADD_val a c h
  exact ivG_of (IADD_B h) (by omega)
/-- A product of ends lies in the product. -/
theorem IMUL_in {i k x : IV} (hi : ivB i) (hk : ivB k) (h : IMUL i k = some x) {a b : Int × Int} (ha : a = i.1 ∨ a = i.2) (hb : b = k.1 ∨ b = k.2) : dV x.1 ≤ dV (nn (PRp a b)) ∧ dV (nn (PRp a b)) ≤ dV x.2 := by
  unfold IMUL at h
  simp only at h
  split at h
  · simp only [Option.some.injEq] at h
    rw [← h]
    have d1 := PRp_dB i.1 k.1
    have d2 := PRp_dB i.1 k.2
    have d3 := PRp_dB i.2 k.1
    have d4 := PRp_dB i.2 k.2
    have l1 := RD_le (lessP_dB (lessP_dB d1 d2) (lessP_dB d3 d4))
    have l2 := RU_ge (grtP_dB (grtP_dB d1 d2) (grtP_dB d3 d4))
    unfold RO
    simp only
    generalize RD (lessP (lessP (nn (PRp i.1 k.1)) (nn (PRp i.1 k.2))) (lessP (nn (PRp i.2 k.1)) (nn (PRp i.2 k.2)))) = u at *
    generalize RU (grtP (grtP (nn (PRp i.1 k.1)) (nn (PRp i.1 k.2))) (grtP (nn (PRp i.2 k.1)) (nn (PRp i.2 k.2)))) = v at *
    simp only [dV_less] at l1
    simp only [dV_grt] at l2
    rcases ha with rfl | rfl <;> rcases hb with rfl | rfl <;>
      (generalize dV (nn (PRp i.1 k.1)) = p1 at *; generalize dV (nn (PRp i.1 k.2)) = p2 at *; generalize dV (nn (PRp i.2 k.1)) = p3 at *; generalize dV (nn (PRp i.2 k.2)) = p4 at *; refine ⟨?_, ?_⟩) <;>
      first | (clear l2; repeat' split at l1
               all_goals omega) | (clear l1; repeat' split at l2
                                   all_goals omega)
  · cases h
/-- The hull. -/
def HUL (i k : IV) : IV := (lessP i.1 k.1, grtP i.2 k.2)
theorem HUL_spec {i k : IV} (hi : ivG i = true) (hk : ivG k = true) : (lessP (lessP (lessP i.1 i.2) k.1) k.2, grtP (grtP (grtP i.1 i.2) k.1) k.2) = HUL i k := by
  obtain ⟨⟨a1, a2⟩, a3⟩ := ivG_B hi
  obtain ⟨⟨b1, b2⟩, b3⟩ := ivG_B hk
  unfold HUL
  congr 1
  · refine dV_one (lessP_dB (lessP_dB (lessP_dB a1 a2) b1) b2) (lessP_dB a1 b1) ?_
    simp only [dV_less]
    repeat' split
    all_goals omega
  · refine dV_one (grtP_dB (grtP_dB (grtP_dB a1 a2) b1) b2) (grtP_dB a2 b2) ?_
    simp only [dV_grt]
    repeat' split
    all_goals omega
end Go.Proofs.Ytneceomekgophaa.Ev
