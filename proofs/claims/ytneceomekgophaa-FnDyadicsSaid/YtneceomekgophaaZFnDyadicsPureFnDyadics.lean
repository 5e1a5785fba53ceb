import Derived.Test.YtneceomekgophaaZFnDyadicsQDysx
namespace Go.Proofs.Ytneceomekgophaa.QDys
open Go.RowKit Go.Proofs.YtneceomekgophaaW.PrintWords Go.Proofs.YtneceomekgophaaW.PrintLast Go.Proofs.YtneceomekgophaaW.PrintMore
set_option linter.unusedVariables false
set_option linter.unusedSimpArgs false
theorem Ev_if {α : Type} {c : Prop} [Decidable c] {g f : Nat → Option α} {r : α} (hp : c → Ev g r) (hn : ¬ c → Ev f r) : Ev (fun k => if c then g k else f k) r := by
 by_cases h : c
 ·simp only [if_pos h]; exact hp h
 ·simp only [if_neg h]; exact hn h
theorem Ev_bindS {α β : Type} {a : Option α} {x : α} {f : Nat → α → Option β} {r : β} (h : a = some x) (k : Ev (fun n => f n x) r) : Ev (fun n => a.bind (f n)) r := by
 subst h; simpa only [Option.bind_some] using k
theorem Ev_eq {α : Type} {g : Nat → Option α} {r r' : α} (h : Ev g r) (e : r = r') : Ev g r' := e ▸ h
theorem l1In_eq (a b c : Int) : spec_l1In.f a b c = some (decide (b ≤ a ∧ a ≤ c)) := by
 unfold spec_l1In.f; by_cases h : b ≤ a <;> simp [h]
theorem inside_eq (a b c : Int) : impl_inside.f a b c = some (decide (b ≤ a ∧ a ≤ c)) := by
 unfold impl_inside.f; by_cases h : b ≤ a <;> simp [h]
theorem rd_getElem (l : List Int) (i : Nat) (h : i < l.length) : rd l (i : Int) = l[i] := by simp [rd, h]
theorem rd_mem (l : List Int) (i : Nat) (h : i < l.length) : rd l (i : Int) ∈ l := by rw [rd_getElem l i h]; exact List.getElem_mem h
def sgnI (x : Int) : Int := if x > 0 then 1 else if x < 0 then -1 else 0
theorem l1Sign_eq (x : Int) : spec_l1Sign.f x = some (sgnI x) := by
 unfold spec_l1Sign.f sgnI; split
 ·rfl
 ·split <;> rfl
theorem u64r (n : Int) (h : 0 ≤ n ∧ n < 18446744073709551616) : IntKind.u64.wrap n = n := by simp [IntKind.wrap, IntKind.signed, IntKind.bits]; omega
theorem u64m (n : Int) : IntKind.u64.wrap n = n % 18446744073709551616 := by simp [IntKind.wrap, IntKind.signed, IntKind.bits]
theorem or64 (a b : Int) (n : Nat) (ha : 0 ≤ a) (hb : 0 ≤ b ∧ b < 2 ^ n) (hab : a * 2 ^ n + b < 18446744073709551616) : Go.bits .or .u64 (a * 2 ^ n) b = a * 2 ^ n + b := by
 obtain ⟨x, rfl⟩ := Int.eq_ofNat_of_zero_le ha
 obtain ⟨y, rfl⟩ := Int.eq_ofNat_of_zero_le hb.1
 have hy : y < 2 ^ n := by have := hb.2; exact_mod_cast this
 have e1 : (x : Int) * 2 ^ n = ((2 ^ n * x : Nat) : Int) := by push_cast; rw [Int.mul_comm]
 have hor := Nat.two_pow_add_eq_or_of_lt hy x
 have h64 : IntKind.u64.bits = 64 := rfl
 rw [e1] at hab ⊢
 obtain ⟨z, hz⟩ : ∃ z, 2 ^ n * x = z := ⟨_, rfl⟩
 rw [hz] at hab hor ⊢
 unfold Go.bits
 simp only [h64, BitVec.toNat_or, BitVec.ofInt_natCast, BitVec.toNat_ofNat]
 rw [Nat.mod_eq_of_lt (show z < 2 ^ 64 by omega), Nat.mod_eq_of_lt (show y < 2 ^ 64 by omega), ← hor]
 rw [u64r _ ⟨by omega, by omega⟩]
 push_cast; rfl
theorem shl64 (x : Int) (s : Nat) (h : s ≤ 64) : shl .u64 x (s : Int) = x * 2 ^ s % 18446744073709551616 := by
 unfold shl
 rw [Int.toNat_natCast, Nat.min_eq_left (by show s ≤ 64; exact h), u64m]
theorem shr64 (x : Int) (s : Nat) (h : s ≤ 64) : shr .u64 x (s : Int) = x / 2 ^ s := by
 unfold shr
 rw [Int.toNat_natCast, Nat.min_eq_left (by show s ≤ 64; exact h)]
theorem split64 (m : Int) (s : Nat) (h : s ≤ 64) : m * 2 ^ s / 18446744073709551616 = m / 2 ^ (64 - s) := by
 have e : (18446744073709551616 : Int) = 2 ^ (64 - s) * 2 ^ s := by rw [← Int.pow_add, show 64 - s + s = 64 by omega]; rfl
 rw [e, Int.mul_ediv_mul_of_pos_left _ _ (Int.pow_pos (by omega))]
theorem pow1 (n : Nat) : (1 : Int) ≤ 2 ^ n := Int.pow_pos (by omega)
theorem pow_split (a b : Nat) (h : b ≤ a) : (2 : Int) ^ a = 2 ^ (a - b) * 2 ^ b := by rw [← Int.pow_add, show a - b + b = a by omega]
theorem pow_le2 (a b : Nat) (h : a ≤ b) : (2 : Int) ^ a ≤ 2 ^ b := by have := Nat.pow_le_pow_right (show 0 < 2 by omega) h; exact_mod_cast this
theorem pow62 (n : Nat) (h : n ≤ 62) : (2 : Int) ^ n ≤ 4611686018427387904 := by
 have h1 := pow_le2 n 62 h
 have h2 : (2 : Int) ^ 62 = 4611686018427387904 := by decide
 omega
theorem sgn_mul (c x : Int) (h : 0 < c) : sgnI (c * x) = sgnI x := by
 unfold sgnI
 by_cases h1 : x > 0
 ·rw [if_pos (Int.mul_pos h h1), if_pos h1]
 ·rw [if_neg h1]
  by_cases h2 : x < 0
  ·have := Int.mul_neg_of_pos_of_neg h h2
   rw [if_neg (by omega), if_pos this, if_pos h2]
  ·have : x = 0 := by omega
   subst this; rw [if_neg (by simp), if_neg (by simp), if_neg (by omega)]
theorem sgn_pos (x : Int) (h : 0 < x) : sgnI x = 1 := by unfold sgnI; rw [if_pos h]
theorem sgn_neg (x : Int) (h : x < 0) : sgnI x = -1 := by unfold sgnI; rw [if_neg (by omega), if_pos h]
def dv (n k : Int) : Int := n * 2 ^ (24 - k.toNat)
theorem dyPower62 (k : Int) (h : 0 ≤ k ∧ k ≤ 62) : spec_dyPower.f k = some (2 ^ k.toNat) := by
 have h1 := pow1 k.toNat
 have h2 := pow62 k.toNat (by omega)
 have h3 : shl .i64 1 k = 2 ^ k.toNat := by
  unfold shl
  rw [Nat.min_eq_left (by show k.toNat ≤ 64; omega), Int.one_mul, i64_w]; unfold wrap64; omega
 unfold spec_dyPower.f
 have e : IntKind.u64.wrap k = k := u64r _ ⟨by omega, by omega⟩
 rw [e, if_pos h.1, h3]
theorem tdiv_floor (a b : Int) (hb : 0 < b) : Int.tdiv a b = if Int.tmod a b < 0 then a / b + 1 else a / b := by
 have h1 := Int.mul_ediv_add_emod a b
 have h2 := Int.mul_tdiv_add_tmod a b
 have h3 := Int.emod_nonneg a (show b ≠ 0 by omega)
 have h4 := Int.emod_lt_of_pos a hb
 have h5 : -b < Int.tmod a b ∧ Int.tmod a b < b := by
  have := Int.tmod_lt_of_pos a hb
  have := Int.lt_tmod_of_pos a hb
  omega
 obtain ⟨q, hq⟩ : ∃ q, Int.tdiv a b = q := ⟨_, rfl⟩
 obtain ⟨p, hp⟩ : ∃ p, a / b = p := ⟨_, rfl⟩
 rw [hq] at h2 ⊢
 rw [hp] at h1 ⊢
 by_cases h : Int.tmod a b < 0
 ·rw [if_pos h]
  have e : b * (q - p - 1) = a % b - Int.tmod a b - b := by rw [Int.mul_sub, Int.mul_sub]; omega
  rcases Int.lt_trichotomy (q - p - 1) 0 with h6 | h6 | h6
  ·have := Int.mul_le_mul_of_nonneg_left (show q - p - 1 ≤ -1 by omega) (show 0 ≤ b by omega)
   omega
  ·omega
  ·have := Int.mul_le_mul_of_nonneg_left (show 1 ≤ q - p - 1 by omega) (show 0 ≤ b by omega)
   omega
 ·rw [if_neg h]
  have e : b * (q - p) = a % b - Int.tmod a b := by rw [Int.mul_sub]; omega
  rcases Int.lt_trichotomy (q - p) 0 with h6 | h6 | h6
  ·have := Int.mul_le_mul_of_nonneg_left (show q - p ≤ -1 by omega) (show 0 ≤ b by omega)
   omega
  ·omega
  ·have := Int.mul_le_mul_of_nonneg_left (show 1 ≤ q - p by omega) (show 0 ≤ b by omega)
   omega
theorem dyDown_gen (a b : Int) (ha : -4611686018427387904 ≤ a ∧ a ≤ 4611686018427387904) (hb : 0 < b) : spec_dyDown.f a b = some (a / b) := by
 have h1 := tdiv_floor a b hb
 have h2 : -4611686018427387904 ≤ Int.tdiv a b ∧ Int.tdiv a b ≤ 4611686018427387904 := by
  have h3 : (Int.tdiv a b).natAbs ≤ a.natAbs := by rw [Int.natAbs_tdiv]; exact Nat.div_le_self _ _
  omega
 unfold spec_dyDown.f
 rw [if_neg (by omega)]
 by_cases h : Int.tmod a b < 0
 ·rw [if_pos h] at h1 ⊢
  congr 1
  rw [show wrap64 (Int.tdiv a b) = Int.tdiv a b by unfold wrap64; omega]
  unfold wrap64; omega
 ·rw [if_neg h] at h1 ⊢
  congr 1
  unfold wrap64; omega
theorem dyFloor_eq (n k : Int) (hn : -1099511627776 ≤ n ∧ n ≤ 1099511627776) (hk : 0 ≤ k ∧ k ≤ 24) : spec_dyFloor.f n k = some (n / 2 ^ k.toNat) := by
 unfold spec_dyFloor.f
 rw [dyPower62 k ⟨hk.1, by omega⟩, Option.bind_some, dyDown_gen n _ ⟨by omega, by omega⟩ (by have := pow1 k.toNat; omega)]; rfl
theorem dyAt_l0 (t k0 : Int) (d : Nat) : ∀ (n i : Int), 0 ≤ i → i ≤ t → t ≤ 1000 → (t - i).toNat = d → -1152921504606846976 ≤ n * 2 ^ d ∧ n * 2 ^ d ≤ 1152921504606846976 → Ev (fun z => spec_dyAt.l0 z t i n k0) (n * 2 ^ d, true) := by
 induction d with
 | zero =>
  intro n i h0 hi ht hd hn
  refine Ev.step (fun z => rfl) ?_
  simp only [spec_dyAt.l0]
  refine Ev_if (fun h => by omega) (fun _ => ?_)
  refine Ev_eq (Ev.now _) ?_
  simp
 | succ d ih =>
  intro n i h0 hi ht hd hn
  have e : n * 2 ^ (d + 1) = n * 2 * 2 ^ d := by rw [Int.pow_succ]; grind
  have hp := pow1 d
  have hn2 : -1152921504606846976 ≤ n * 2 ∧ n * 2 ≤ 1152921504606846976 := by
   rw [e] at hn
   obtain ⟨x, hx⟩ : ∃ x, n * 2 = x := ⟨_, rfl⟩
   rw [hx] at hn ⊢
   rcases Int.le_total 0 x with h | h
   ·have := Int.mul_le_mul_of_nonneg_left hp h; omega
   ·have := Int.mul_le_mul_of_nonneg_left hp (show 0 ≤ -x by omega)
    simp only [Int.neg_mul] at this; omega
  refine Ev.step (fun z => rfl) ?_
  simp only [spec_dyAt.l0]
  rw [show wrap64 (i + 1) = i + 1 by unfold wrap64; omega, show wrap64 (n * 2) = n * 2 by unfold wrap64; omega]
  refine Ev_if (fun _ => Ev_bindS (dyPower62 60 ⟨by omega, by omega⟩) (Ev_bindS (l1In_eq _ _ _) (Ev_if (fun _ => ?_) (fun h => ?_)))) (fun h => by omega)
  ·rw [e] at hn ⊢
   exact ih (n * 2) (i + 1) (by omega) (by omega) ht (by omega) hn
  ·exfalso; apply h
   apply decide_eq_true
   have e60 : (2 : Int) ^ (60 : Int).toNat = 1152921504606846976 := by decide
   rw [e60, show wrap64 (-1152921504606846976) = -1152921504606846976 by unfold wrap64; omega]; omega
theorem dyAt_ev (n k t : Int) (hk : 0 ≤ k ∧ k ≤ t) (ht : t ≤ 1000) (hn : -1152921504606846976 ≤ n * 2 ^ (t - k).toNat ∧ n * 2 ^ (t - k).toNat ≤ 1152921504606846976) : Ev (fun z => spec_dyAt.f z n k t) (n * 2 ^ (t - k).toNat, true) := by
 unfold spec_dyAt.f
 refine Ev_if (fun h => ?_) (fun _ => dyAt_l0 t k _ n k hk.1 hk.2 ht rfl hn)
 subst h; simp only [Int.zero_mul]; exact Ev.now _
theorem dyCmp_ev (n1 k1 n2 k2 : Int) (hn1 : -1099511627776 ≤ n1 ∧ n1 ≤ 1099511627776) (hk1 : 0 ≤ k1 ∧ k1 ≤ 24) (hn2 : -1099511627776 ≤ n2 ∧ n2 ≤ 1099511627776) (hk2 : 0 ≤ k2 ∧ k2 ≤ 24) :
 Ev (fun z => spec_dyCmp.f z n1 k1 n2 k2) (sgnI (dv n1 k1 - dv n2 k2)) := by
 have key : ∀ n k : Int, -1099511627776 ≤ n ∧ n ≤ 1099511627776 → 0 ≤ k ∧ k ≤ 24 → ∃ q r : Int, n / 2 ^ k.toNat = q ∧ -1099511627776 ≤ q ∧ q ≤ 1099511627776 ∧ wrap64 (n - wrap64 (q * 2 ^ k.toNat)) = r ∧ Ev (fun z => spec_dyAt.f z r k 24) (r * 2 ^ (24 - k.toNat), true) ∧ dv n k = q * 16777216 + r * 2 ^ (24 - k.toNat) ∧ 0 ≤ r * 2 ^ (24 - k.toNat) ∧ r * 2 ^ (24 - k.toNat) < 16777216 := by
  intro n k hn hk
  obtain ⟨q, hq⟩ : ∃ q, n / 2 ^ k.toNat = q := ⟨_, rfl⟩
  have hp := pow1 k.toNat
  have hp2 := pow_le2 k.toNat 24 (by omega)
  have h1 := Int.mul_ediv_add_emod n (2 ^ k.toNat)
  have h2 := Int.emod_nonneg n (show (2 : Int) ^ k.toNat ≠ 0 by omega)
  have h3 := Int.emod_lt_of_pos n (show (0 : Int) < 2 ^ k.toNat by omega)
  rw [hq] at h1
  have hqr : -1099511627776 ≤ q ∧ q ≤ 1099511627776 := by
   rw [← hq]
   refine ⟨?_, ?_⟩
   ·apply Int.le_ediv_of_mul_le (by omega)
    have := Int.mul_le_mul_of_nonneg_left hp (show (0 : Int) ≤ 1099511627776 by omega)
    omega
   ·rcases Int.le_total 0 n with h | h
    ·have := Int.ediv_le_self (2 ^ k.toNat) h; omega
    ·have : n / 2 ^ k.toNat ≤ 0 := by
      have := Int.ediv_le_ediv (show (0 : Int) < 2 ^ k.toNat by omega) h
      simpa using this
     omega
  have hw : wrap64 (q * 2 ^ k.toNat) = q * 2 ^ k.toNat := by
   have : q * 2 ^ k.toNat = 2 ^ k.toNat * q := Int.mul_comm _ _
   unfold wrap64; omega
  have hr : wrap64 (n - wrap64 (q * 2 ^ k.toNat)) = n % 2 ^ k.toNat := by
   rw [hw]
   have : q * 2 ^ k.toNat = 2 ^ k.toNat * q := Int.mul_comm _ _
   unfold wrap64; omega
  have e24 : (24 : Int) - k = ((24 - k.toNat : Nat) : Int) := by omega
  have hp24 : (2 : Int) ^ (24 - k.toNat) * 2 ^ k.toNat = 16777216 := by rw [← pow_split 24 k.toNat (by omega)]; rfl
  have hb0 : 0 ≤ n % 2 ^ k.toNat * 2 ^ (24 - k.toNat) := Int.mul_nonneg h2 (by have := pow1 (24 - k.toNat); omega)
  have hb1 : n % 2 ^ k.toNat * 2 ^ (24 - k.toNat) < 16777216 := by
   have := Int.mul_lt_mul_of_pos_right h3 (show (0 : Int) < 2 ^ (24 - k.toNat) by have := pow1 (24 - k.toNat); omega)
   rw [Int.mul_comm (2 ^ k.toNat)] at this; omega
  refine ⟨q, n % 2 ^ k.toNat, hq, hqr.1, hqr.2, hr, ?_, ?_, hb0, hb1⟩
  ·have h := dyAt_ev (n % 2 ^ k.toNat) k 24 hk (by omega) (by rw [e24, Int.toNat_natCast]; omega)
   rw [e24, Int.toNat_natCast] at h; exact h
  ·unfold dv
   have e : n * 2 ^ (24 - k.toNat) = (2 ^ k.toNat * q + n % 2 ^ k.toNat) * 2 ^ (24 - k.toNat) := by rw [h1]
   rw [e, Int.add_mul, Int.mul_comm (2 ^ k.toNat) q, Int.mul_assoc, Int.mul_comm (2 ^ k.toNat) (2 ^ (24 - k.toNat)), hp24]
 obtain ⟨q1, r1, a1, a2, a3, a4, a5, a6, a7, a8⟩ := key n1 k1 hn1 hk1
 obtain ⟨q2, r2, b1, b2, b3, b4, b5, b6, b7, b8⟩ := key n2 k2 hn2 hk2
 have f1 := dyFloor_eq n1 k1 hn1 hk1
 have f2 := dyFloor_eq n2 k2 hn2 hk2
 rw [a1] at f1
 rw [b1] at f2
 rw [a6, b6]
 obtain ⟨x, hx⟩ : ∃ x, r1 * 2 ^ (24 - k1.toNat) = x := ⟨_, rfl⟩
 obtain ⟨y, hy⟩ : ∃ y, r2 * 2 ^ (24 - k2.toNat) = y := ⟨_, rfl⟩
 rw [hx] at a5 a7 a8 ⊢
 rw [hy] at b5 b7 b8 ⊢
 unfold spec_dyCmp.f
 refine Ev_bindS f1 (Ev_bindS f2 (Ev_if (fun h => ?_) (fun h => ?_)))
 ·subst h
  refine Ev_bindS (dyPower62 k1 ⟨hk1.1, by omega⟩) ?_
  rw [a4]
  refine Ev.bind a5 (Ev_bindS (dyPower62 k2 ⟨hk2.1, by omega⟩) ?_)
  rw [b4]
  refine Ev.bind b5 (Ev_bindS (l1Sign_eq _) (Ev_eq (Ev.now _) ?_))
  rw [show wrap64 (x - y) = q1 * 16777216 + x - (q1 * 16777216 + y) by unfold wrap64; omega]
 ·refine Ev_bindS (l1Sign_eq _) (Ev_eq (Ev.now _) ?_)
  rw [show wrap64 (q1 - q2) = q1 - q2 by unfold wrap64; omega]
  rcases Int.lt_or_gt_of_ne h with h1 | h1
  ·rw [sgn_neg _ (by omega), sgn_neg (q1 * 16777216 + x - (q2 * 16777216 + y)) (by omega)]
  ·rw [sgn_pos _ (by omega), sgn_pos (q1 * 16777216 + x - (q2 * 16777216 + y)) (by omega)]
theorem sizeW_eq (n : Int) (h : -9223372036854775807 ≤ n ∧ n ≤ 9223372036854775807) : impl_size.f n = some ((n.natAbs : Nat) : Int) := by
 unfold impl_size.f
 by_cases h0 : n < 0
 ·rw [if_pos h0, show wrap64 (-n) = -n by unfold wrap64; omega, u64r _ ⟨by omega, by omega⟩]; congr 1; omega
 ·rw [if_neg h0, u64r _ ⟨by omega, by omega⟩]; congr 1; omega
theorem wideOf_eq (n : Int) (h : -9223372036854775807 ≤ n ∧ n ≤ 9223372036854775807) : impl_wideOf.f n = some (decide (n < 0), 0, ((n.natAbs : Nat) : Int)) := by
 unfold impl_wideOf.f; rw [sizeW_eq n h]; rfl
def wv (neg : Bool) (hi lo : Int) : Int := if neg = true then -(hi * 18446744073709551616 + lo) else hi * 18446744073709551616 + lo
def wordB (x : Int) : Prop := 0 ≤ x ∧ x < 18446744073709551616
theorem shift_left (neg : Bool) (m : Int) (hm : wordB m) (s : Nat) (hs : s ≤ 63) : impl_wide_shift.f neg 0 m (s : Int) = some (neg, m / 2 ^ (64 - s), m * 2 ^ s % 18446744073709551616) := by
 have e1 : wrap64 (64 - (s : Int)) = ((64 - s : Nat) : Int) := by unfold wrap64; omega
 unfold impl_wide_shift.f
 rw [if_pos (by omega), if_neg (by omega), if_pos (by omega), e1, if_pos (by omega), shl64 _ s (by omega), shl64 _ s (by omega), shr64 _ _ (by omega)]
 have h1 := pow1 (64 - s)
 have h2 : 0 ≤ m / 2 ^ (64 - s) := Int.ediv_nonneg hm.1 (by omega)
 have h3 : m / 2 ^ (64 - s) ≤ m := Int.ediv_le_self _ hm.1
 have h4 := or64 0 (m / 2 ^ (64 - s)) 64 (by omega) ⟨h2, by have := hm.2; omega⟩ (by have := hm.2; omega)
 simp only [Int.zero_mul, Int.zero_add] at h4
 rw [show (0 : Int) * 2 ^ s % 18446744073709551616 = 0 by simp, h4]
theorem shift_val (neg : Bool) (m : Int) (s : Nat) (hs : s ≤ 63) : wv neg (m / 2 ^ (64 - s)) (m * 2 ^ s % 18446744073709551616) = if neg = true then -(m * 2 ^ s) else m * 2 ^ s := by
 unfold wv
 rw [← split64 m s (by omega)]
 have := Int.mul_ediv_add_emod (m * 2 ^ s) 18446744073709551616
 split <;> omega
theorem cmpU_eq (a b : Int) : cmp_Compare_uint64.f a b = some (sgnI (a - b)) := by
 unfold cmp_Compare_uint64.f cmp_isNaN_uint64.f
 simp only [bne_self_eq_false, Option.bind_some]
 rw [if_neg (by decide), if_neg (by decide)]
 by_cases h : a < b
 ·rw [if_pos h, sgn_neg _ (by omega)]
 ·rw [if_neg h]
  by_cases h2 : a > b
  ·rw [if_pos h2, sgn_pos _ (by omega)]
  ·rw [if_neg h2, show a - b = 0 by omega]; rfl
theorem cmpOr_ev (x y : Int) : Ev (fun k => cmp_Or_int.f k [x, y]) (if x = 0 then y else x) := by
 unfold cmp_Or_int.f
 refine Ev.step (fun k => rfl) ?_
 simp only [cmp_Or_int.l0]
 refine Ev_if (fun _ => Ev_if (fun _ => Ev_if (fun _ => Ev_if (fun h => ?_) (fun h => ?_)) (fun h => absurd (by simp) h)) (fun h => by omega)) (fun h => absurd (by simp) h)
 ·have e : x = 0 := h
  rw [if_pos e, show wrap64 (0 + 1) = 1 by unfold wrap64; omega]
  refine Ev.step (fun k => rfl) ?_
  simp only [cmp_Or_int.l0]
  refine Ev_if (fun _ => Ev_if (fun _ => Ev_if (fun _ => Ev_if (fun h => ?_) (fun h => Ev.now _)) (fun h => absurd (by simp) h)) (fun h => by omega)) (fun h => absurd (by simp) h)
  have e2 : y = 0 := h
  rw [e2, show wrap64 (1 + 1) = 2 by unfold wrap64; omega]
  refine Ev.step (fun k => rfl) ?_
  simp only [cmp_Or_int.l0]
  exact Ev_if (fun h => absurd h (by simp)) (fun _ => Ev.now _)
 ·have e : x ≠ 0 := h
  rw [if_neg e]; exact Ev.now _
theorem cmpSizes_ev (n1 n2 : Bool) (h1 l1 h2 l2 : Int) (a1 : wordB h1) (a2 : wordB l1) (a3 : wordB h2) (a4 : wordB l2) : Ev (fun k => impl_compareSizes.f k n1 h1 l1 n2 h2 l2) (sgnI ((h1 * 18446744073709551616 + l1) - (h2 * 18446744073709551616 + l2))) := by
 unfold impl_compareSizes.f
 refine Ev_bindS (cmpU_eq _ _) (Ev_bindS (cmpU_eq _ _) (Ev.bind (cmpOr_ev _ _) ?_))
 refine Ev_eq (Ev.now _) ?_
 unfold wordB at *
 by_cases e1 : h1 - h2 > 0
 ·rw [sgn_pos _ e1, sgn_pos (h1 * 18446744073709551616 + l1 - (h2 * 18446744073709551616 + l2)) (by omega)]; rfl
 ·by_cases e2 : h1 - h2 < 0
  ·rw [sgn_neg _ e2, sgn_neg (h1 * 18446744073709551616 + l1 - (h2 * 18446744073709551616 + l2)) (by omega)]; rfl
  ·have : h1 = h2 := by omega
   subst this
   rw [Int.sub_self, show h1 * 18446744073709551616 + l1 - (h1 * 18446744073709551616 + l2) = l1 - l2 by omega]
   rfl
theorem isZero_eq (n : Bool) (h l : Int) (a1 : wordB h) (a2 : wordB l) : impl_wide_isZero.f n h l = some (decide (h * 18446744073709551616 + l = 0)) := by
 unfold impl_wide_isZero.f wordB at *
 by_cases e : h = 0
 ·subst e; rw [if_pos rfl]; congr 1
  by_cases e2 : l = 0
  ·subst e2; rfl
  ·rw [decide_eq_false (by omega)]; simp [e2]
 ·rw [if_neg e, decide_eq_false (by omega)]
theorem cmpWide_ev (n1 n2 : Bool) (h1 l1 h2 l2 : Int) (a1 : wordB h1) (a2 : wordB l1) (a3 : wordB h2) (a4 : wordB l2) : Ev (fun k => impl_compareWide.f k n1 h1 l1 n2 h2 l2) (sgnI (wv n1 h1 l1 - wv n2 h2 l2)) := by
 have s1 := cmpSizes_ev n1 n2 h1 l1 h2 l2 a1 a2 a3 a4
 have s2 := cmpSizes_ev n2 n1 h2 l2 h1 l1 a3 a4 a1 a2
 have z1 := isZero_eq n1 h1 l1 a1 a2
 have z2 := isZero_eq n2 h2 l2 a3 a4
 unfold wordB at *
 obtain ⟨m1, e1⟩ : ∃ m, h1 * 18446744073709551616 + l1 = m := ⟨_, rfl⟩
 obtain ⟨m2, e2⟩ : ∃ m, h2 * 18446744073709551616 + l2 = m := ⟨_, rfl⟩
 have p1 : 0 ≤ m1 := by omega
 have p2 : 0 ≤ m2 := by omega
 have v1 : wv n1 h1 l1 = if n1 = true then -m1 else m1 := by unfold wv; rw [e1]
 have v2 : wv n2 h2 l2 = if n2 = true then -m2 else m2 := by unfold wv; rw [e2]
 rw [e1, e2] at s1
 rw [e2, e1] at s2
 rw [e1] at z1
 rw [e2] at z2
 have fin : ¬ (m1 = 0 ∧ m2 = 0) → Ev (fun k => impl_compareWide.j0 k false n1 h1 l1 n2 h2 l2) (sgnI (wv n1 h1 l1 - wv n2 h2 l2)) := by
  intro hz
  refine Ev.step (fun k => rfl) ?_
  simp only [impl_compareWide.j0]
  refine Ev_if (fun h => by cases h) (fun _ => ?_)
  rw [v1, v2]
  cases n1 <;> cases n2
  ·refine Ev_if (fun h => by cases h) (fun _ => Ev_if (fun h => by cases h) (fun _ => Ev.bind s1 (Ev.now _)))
  ·refine Ev_if (fun _ => Ev_if (fun h => by cases h) (fun _ => Ev_eq (Ev.now _) ?_)) (fun h => absurd rfl h)
   rw [if_neg (by decide), if_pos rfl, sgn_pos _ (by omega)]
  ·refine Ev_if (fun _ => Ev_if (fun _ => Ev_eq (Ev.now _) ?_) (fun h => absurd rfl h)) (fun h => absurd rfl h)
   rw [if_pos rfl, if_neg (by decide), sgn_neg (-m1 - m2) (by omega)]
  ·refine Ev_if (fun h => by cases h) (fun _ => Ev_if (fun _ => Ev.bind s2 (Ev_eq (Ev.now _) ?_)) (fun h => absurd rfl h))
   rw [if_pos rfl, if_pos rfl, show -m1 - -m2 = m2 - m1 by omega]
 unfold impl_compareWide.f
 refine Ev_bindS z1 (Ev_if (fun h => Ev_bindS z2 ?_) (fun h => fin (fun hh => h (by simpa using hh.1))))
 have hm1 : m1 = 0 := by simpa using h
 by_cases hm2 : m2 = 0
 ·rw [decide_eq_true hm2]
  refine Ev.step (fun k => rfl) ?_
  simp only [impl_compareWide.j0]
  refine Ev_if (fun _ => Ev_eq (Ev.now _) ?_) (fun h => absurd (by trivial) h)
  rw [v1, v2, hm1, hm2]; simp [sgnI]
 ·rw [decide_eq_false hm2]; exact fin (fun hh => hm2 hh.2)
theorem dv_shift (n k K : Int) (hk : 0 ≤ k ∧ k ≤ K) (hK : K ≤ 24) : dv n k = 2 ^ (24 - K.toNat) * (n * 2 ^ (K - k).toNat) := by
 unfold dv
 have e : 24 - k.toNat = (24 - K.toNat) + (K - k).toNat := by omega
 rw [e, Int.pow_add, ← Int.mul_assoc, Int.mul_comm n, Int.mul_assoc]
theorem word_shift (m : Int) (hm : wordB m) (s : Nat) (hs : s ≤ 63) : wordB (m / 2 ^ (64 - s)) ∧ wordB (m * 2 ^ s % 18446744073709551616) := by
 have h1 := pow1 (64 - s)
 have h2 : 0 ≤ m / 2 ^ (64 - s) := Int.ediv_nonneg hm.1 (by omega)
 have h3 : m / 2 ^ (64 - s) ≤ m := Int.ediv_le_self _ hm.1
 have h4 := hm.2
 exact ⟨⟨h2, by omega⟩, ⟨Int.emod_nonneg _ (by omega), Int.emod_lt_of_pos _ (by omega)⟩⟩
theorem compareD_ev (n1 k1 n2 k2 : Int) (hn1 : -1099511627776 ≤ n1 ∧ n1 ≤ 1099511627776) (hk1 : 0 ≤ k1 ∧ k1 ≤ 24) (hn2 : -1099511627776 ≤ n2 ∧ n2 ≤ 1099511627776) (hk2 : 0 ≤ k2 ∧ k2 ≤ 24) :
 Ev (fun z => impl_compareD.f z n1 k1 n2 k2) (sgnI (dv n1 k1 - dv n2 k2)) := by
 obtain ⟨K, hK⟩ : ∃ K, mx k1 k2 = K := ⟨_, rfl⟩
 have hKr : k1 ≤ K ∧ k2 ≤ K ∧ K ≤ 24 := by rw [← hK]; unfold mx; split <;> omega
 have w : ∀ n k : Int, -1099511627776 ≤ n ∧ n ≤ 1099511627776 → 0 ≤ k ∧ k ≤ K → impl_wideOf.f n = some (decide (n < 0), 0, ((n.natAbs : Nat) : Int)) ∧ wordB ((n.natAbs : Nat) : Int) ∧ wrap64 (K - k) = (((K - k).toNat : Nat) : Int) ∧ (K - k).toNat ≤ 63 := by
  intro n k hn hk
  exact ⟨wideOf_eq n ⟨by omega, by omega⟩, ⟨by omega, by omega⟩, by unfold wrap64; omega, by omega⟩
 obtain ⟨a1, b1, c1, d1⟩ := w n1 k1 hn1 ⟨hk1.1, by omega⟩
 obtain ⟨a2, b2, c2, d2⟩ := w n2 k2 hn2 ⟨hk2.1, by omega⟩
 have f1 := shift_left (decide (n1 < 0)) _ b1 _ d1
 have f2 := shift_left (decide (n2 < 0)) _ b2 _ d2
 obtain ⟨g1, g2⟩ := word_shift _ b1 _ d1
 obtain ⟨g3, g4⟩ := word_shift _ b2 _ d2
 have v : ∀ (n : Int) (s : Nat), s ≤ 63 → wv (decide (n < 0)) (((n.natAbs : Nat) : Int) / 2 ^ (64 - s)) (((n.natAbs : Nat) : Int) * 2 ^ s % 18446744073709551616) = n * 2 ^ s := by
  intro n s hs
  rw [shift_val _ _ s hs]
  by_cases h : n < 0
  ·rw [decide_eq_true h, if_pos rfl, ← Int.neg_mul, show -((n.natAbs : Nat) : Int) = n by omega]
  ·rw [decide_eq_false h, if_neg (by decide), show ((n.natAbs : Nat) : Int) = n by omega]
 unfold impl_compareD.f
 rw [hK, c1, c2]
 refine Ev_bindS a1 (Ev_bindS f1 (Ev_bindS a2 (Ev_bindS f2 (Ev.bind (cmpWide_ev _ _ _ _ _ _ g1 g2 g3 g4) (Ev_eq (Ev.now _) ?_)))))
 rw [v n1 _ d1, v n2 _ d2, dv_shift n1 k1 K ⟨hk1.1, hKr.1⟩ hKr.2.2, dv_shift n2 k2 K ⟨hk2.1, hKr.2.1⟩ hKr.2.2, ← Int.mul_sub, sgn_mul _ _ (by have := pow1 (24 - K.toNat); omega)]
theorem isPlaces_eq (a : Int) : impl_isPlaces.f a = some (decide (0 ≤ a ∧ a ≤ 24)) := by
 unfold impl_isPlaces.f; rw [inside_eq]; rfl
def dyB (n k : Int) : Bool := if decide (0 ≤ k ∧ k ≤ 24) then (if decide ((-1099511627776) ≤ n ∧ n ≤ 1099511627776) then (if k = 0 then true else (Int.tmod n 2 != 0)) else false) else false
theorem dyGood_eq (n k : Int) : spec_dyGood.f n k = some (dyB n k) := by
 unfold spec_dyGood.f dyB; simp only [l1In_eq, Option.bind_some]
 split <;> (try split) <;> (try split) <;> simp_all
theorem isDyadic_eq (n k : Int) : impl_isDyadic.f n k = some (dyB n k) := by
 unfold impl_isDyadic.f dyB; simp only [isPlaces_eq, inside_eq, Option.bind_some]
 split <;> (try split) <;> (try split) <;> simp_all
theorem dyB_range (n k : Int) (h : dyB n k = true) : (0 ≤ k ∧ k ≤ 24) ∧ ((-1099511627776) ≤ n ∧ n ≤ 1099511627776) := by
 unfold dyB at h
 by_cases h1 : 0 ≤ k ∧ k ≤ 24
 ·rw [decide_eq_true h1, if_pos rfl] at h
  by_cases h2 : (-1099511627776) ≤ n ∧ n ≤ 1099511627776
  ·exact ⟨h1, h2⟩
  ·rw [decide_eq_false h2] at h; simp at h
 ·rw [decide_eq_false h1] at h; simp at h
theorem absmul (x y a b : Int) (hx : -a ≤ x ∧ x ≤ a) (hy : -b ≤ y ∧ y ≤ b) : -(a * b) ≤ x * y ∧ x * y ≤ a * b := by
 have h1 : x.natAbs ≤ a.toNat := by omega
 have h2 : y.natAbs ≤ b.toNat := by omega
 have h := Nat.mul_le_mul h1 h2
 rw [← Int.natAbs_mul] at h
 have e : ((a.toNat * b.toNat : Nat) : Int) = a * b := by rw [Int.natCast_mul, Int.toNat_of_nonneg (by omega), Int.toNat_of_nonneg (by omega)]
 have h3 : (((x * y).natAbs : Nat) : Int) ≤ a * b := by rw [← e]; exact_mod_cast h
 omega
def nrm : Nat → Int → Int × Int
 | 0, n => (n, 0)
 | k + 1, n => if n % 2 = 0 then nrm k (n / 2) else (n, ((k + 1 : Nat) : Int))
theorem tmod2 (n : Int) : Int.tmod n 2 = 0 ↔ n % 2 = 0 := by
 constructor
 ·intro h
  have h1 := Int.mul_tdiv_add_tmod n 2
  omega
 ·intro h
  have h1 : n = 2 * (n / 2) := by omega
  rw [h1, Int.mul_comm, Int.mul_tmod_left]
theorem tdiv2 (n : Int) (h : n % 2 = 0) : Int.tdiv n 2 = n / 2 := by
 have h1 := Int.mul_tdiv_add_tmod n 2
 have h2 := (tmod2 n).2 h
 omega
theorem nrm_form (k : Nat) : ∀ n, (0 ≤ (nrm k n).2 ∧ (nrm k n).2 ≤ (k : Int)) ∧ ((nrm k n).2 = 0 ∨ (nrm k n).1 % 2 ≠ 0) := by
 induction k with
 | zero => intro n; simp [nrm]
 | succ k ih =>
  intro n
  simp only [nrm]
  split
  ·obtain ⟨⟨h1, h2⟩, h3⟩ := ih (n / 2)
   exact ⟨⟨h1, by omega⟩, h3⟩
  ·rename_i h
   exact ⟨⟨by simp only; omega, by simp⟩, .inr h⟩
theorem nrm_neg (k : Nat) : ∀ n, nrm k (-n) = (-(nrm k n).1, (nrm k n).2) := by
 induction k with
 | zero => intro n; rfl
 | succ k ih =>
  intro n
  simp only [nrm]
  by_cases h : n % 2 = 0
  ·rw [if_pos h, if_pos (by omega), show -n / 2 = -(n / 2) by omega]; exact ih _
  ·rw [if_neg h, if_neg (by omega)]
theorem dyB_nrm (k : Nat) (n : Int) : dyB (nrm k n).1 (nrm k n).2 = true ↔ (nrm k n).2 ≤ 24 ∧ (-1099511627776 ≤ (nrm k n).1 ∧ (nrm k n).1 ≤ 1099511627776) := by
 obtain ⟨⟨h1, h2⟩, h3⟩ := nrm_form k n
 generalize nrm k n = m at *
 constructor
 ·intro h
  have := dyB_range _ _ h
  exact ⟨this.1.2, this.2⟩
 ·rintro ⟨h4, h5⟩
  unfold dyB
  rw [decide_eq_true (show 0 ≤ m.2 ∧ m.2 ≤ 24 from ⟨h1, h4⟩), if_pos rfl, decide_eq_true h5, if_pos rfl]
  split
  ·rfl
  ·have h6 : ¬ Int.tmod m.1 2 = 0 := by
    rw [tmod2]; rcases h3 with h | h
    ·contradiction
    ·exact h
   simpa using h6
def mkR (m : Int × Int) : Int × Int × Bool := cond (dyB m.1 m.2) (m.1, m.2, true) (0, 0, false)
theorem good_ev (n k : Int) : Ev (fun _ => (spec_dyGood.f n k).bind fun t => if t = true then some (n, k, true) else some (0, 0, false)) (mkR (n, k)) := by
 refine Ev_bindS (dyGood_eq _ _) ?_
 unfold mkR
 simp only
 cases dyB n k with
 | true => exact Ev.now _
 | false => exact Ev.now _
theorem dyMake_l0 (k : Nat) : ∀ n : Int, (-9000000000000000000 ≤ n ∧ n ≤ 9000000000000000000) → k ≤ 100 → Ev (fun z => spec_dyMake.l0 z n (k : Int)) (mkR (nrm k n)) := by
 induction k with
 | zero =>
  intro n hn hk
  refine Ev.step (fun z => rfl) ?_
  simp only [spec_dyMake.l0, nrm]
  exact Ev_if (fun h => by omega) (fun _ => good_ev n 0)
 | succ k ih =>
  intro n hn hk
  refine Ev.step (fun z => rfl) ?_
  simp only [spec_dyMake.l0, nrm]
  refine Ev_if (fun _ => Ev_if (fun h => ?_) (fun h => ?_)) (fun h => by omega)
  ·have h2 := (tmod2 n).1 h
   rw [if_pos h2, tdiv2 n h2, show wrap64 (n / 2) = n / 2 by unfold wrap64; omega, show wrap64 (((k + 1 : Nat) : Int) - 1) = (k : Int) by unfold wrap64; omega]
   exact ih (n / 2) (by omega) (by omega)
  ·have h2 : ¬ n % 2 = 0 := fun h2 => h ((tmod2 n).2 h2)
   rw [if_neg h2]
   exact good_ev n _
theorem dm_j1 (n k : Int) (r : Int × Int × Bool) (h : Ev (fun z => spec_dyMake.l0 z n k) r) : Ev (fun z => spec_dyMake.j1 z n k) r := Ev.step (f := fun z => spec_dyMake.l0 z n k) (fun z => rfl) h
theorem dm_j0f (n k : Int) (r : Int × Int × Bool) (h : Ev (fun z => spec_dyMake.l0 z n k) r) : Ev (fun z => spec_dyMake.j0 z n k false) r := Ev.step (f := fun z => spec_dyMake.j1 z n k) (fun z => rfl) (dm_j1 n k r h)
theorem dm_j0t (n k : Int) (r : Int × Int × Bool) (h : Ev (fun z => spec_dyMake.l0 z n 0) r) : Ev (fun z => spec_dyMake.j0 z n k true) r := Ev.step (f := fun z => spec_dyMake.j1 z n 0) (fun z => rfl) (dm_j1 n 0 r h)
theorem dyMake_ev (k : Nat) (n : Int) (hn : -9000000000000000000 ≤ n ∧ n ≤ 9000000000000000000) (hk : k ≤ 100) (h0 : n ≠ 0) : Ev (fun z => spec_dyMake.f z n (k : Int)) (mkR (nrm k n)) :=
 Ev.congr (f := fun z => spec_dyMake.j0 z n (k : Int) false) (fun z => if_neg h0) (dm_j0f _ _ _ (dyMake_l0 k n hn hk))
theorem dyMake_zero (k : Nat) : Ev (fun z => spec_dyMake.f z 0 (k : Int)) (0, 0, true) := by
 have h0 : Ev (fun z => spec_dyMake.l0 z 0 0) (0, 0, true) := dyMake_l0 0 0 (by omega) (by omega)
 refine Ev.congr (f := fun z => spec_dyMake.j0 z 0 (k : Int) (decide ((k : Int) > 0))) (fun z => if_pos rfl) ?_
 cases hd : decide ((k : Int) > 0) with
 | true => exact dm_j0t _ _ _ h0
 | false =>
  have hk : (k : Int) = 0 := by have := of_decide_eq_false hd; omega
  rw [hk]
  exact dm_j0f _ _ _ h0
def fitR (neg : Bool) (m : Int × Int) : Int × Int × Bool := if m.2 > 24 ∨ m.1 > 1099511627776 then (0, 0, false) else (if neg = true then -m.1 else m.1, m.2, true)
theorem or_comm64 (a b : Int) : Go.bits .or .u64 a b = Go.bits .or .u64 b a := by
 unfold Go.bits
 simp only [BitVec.or_comm]
theorem shift_half2 (neg : Bool) (h l : Int) (hh : wordB h) (hl : wordB l) : impl_wide_shift.f neg h l (-1) = some (neg, h / 2, l / 2 + h % 2 * 9223372036854775808) := by
 have s1 : shr .u64 h 1 = h / 2 := by have := shr64 h 1 (by omega); simpa using this
 have s2 : shr .u64 l 1 = l / 2 := by have := shr64 l 1 (by omega); simpa using this
 have s3 : shl .u64 h 63 = h % 2 * 9223372036854775808 := by
  have := shl64 h 63 (by omega)
  rw [show ((63 : Nat) : Int) = 63 from rfl, show (2 : Int) ^ 63 = 9223372036854775808 by decide] at this
  rw [this]; omega
 have s4 : Go.bits .or .u64 (l / 2) (h % 2 * 9223372036854775808) = l / 2 + h % 2 * 9223372036854775808 := by
  unfold wordB at hh hl
  have := or64 (h % 2) (l / 2) 63 (by omega) ⟨by omega, by rw [show (2 : Int) ^ 63 = 9223372036854775808 by decide]; omega⟩ (by rw [show (2 : Int) ^ 63 = 9223372036854775808 by decide]; omega)
  rw [show (2 : Int) ^ 63 = 9223372036854775808 by decide] at this
  rw [or_comm64, this]; omega
 unfold impl_wide_shift.f
 rw [if_neg (by omega), show wrap64 (-(-1 : Int)) = 1 by unfold wrap64; omega, if_neg (by omega), if_pos (by omega), show wrap64 (64 - (1 : Int)) = 63 by unfold wrap64; omega, if_pos (by omega), s1, s2, s3, s4]
theorem fit_j1W (neg : Bool) (h l k : Int) (hh : wordB h) (hl : wordB l) : Ev (fun z => impl_wide_fit.j1 z k neg h l) (fitR neg (h * 18446744073709551616 + l, k)) := by
 unfold wordB at hh hl
 refine Ev.step (fun z => rfl) ?_
 simp only [impl_wide_fit.j1]
 unfold fitR
 refine Ev_if (fun h1 => ?_) (fun h1 => Ev_if (fun h2 => ?_) (fun h2 => ?_))
 ·rw [if_pos (.inl h1)]
  exact Ev.step (f := fun z => some (0, 0, false)) (fun z => rfl) (Ev.now _)
 ·rw [if_pos (.inr (by show h * 18446744073709551616 + l > 1099511627776; omega))]
  exact Ev.step (f := fun z => some (0, 0, false)) (fun z => rfl) (Ev.now _)
 ·have h0 : h = 0 := by omega
  subst h0
  refine Ev.step (fun z => rfl) ?_
  simp only [impl_wide_fit.j2]
  refine Ev_if (fun h2 => ?_) (fun h2 => ?_)
  ·rw [if_pos (.inr (by have := of_decide_eq_true h2; show (0 : Int) * 18446744073709551616 + l > 1099511627776; omega))]; exact Ev.now _
  ·have h3 : ¬ l > 1099511627776 := fun h3 => h2 (decide_eq_true h3)
   have hc : ¬ (k > 24 ∨ (0 : Int) * 18446744073709551616 + l > 1099511627776) := by rintro (h5 | h5); exact h1 h5; omega
   rw [show wrap64 l = l by unfold wrap64; omega, show wrap64 (-l) = -l by unfold wrap64; omega, if_neg hc]
   simp only [Int.zero_mul, Int.zero_add]
   exact Ev_if (fun h => by rw [if_pos h]; exact Ev.now _) (fun h => by rw [if_neg h]; exact Ev.now _)
theorem fit_l0W (neg : Bool) (k : Nat) : ∀ h l : Int, wordB h → wordB l → k ≤ 200 → Ev (fun z => impl_wide_fit.l0 z (k : Int) neg h l) (fitR neg (nrm k (h * 18446744073709551616 + l))) := by
 induction k with
 | zero =>
  intro h l hh hl hk
  refine Ev.step (fun z => rfl) ?_
  simp only [impl_wide_fit.l0, nrm]
  exact Ev_if (fun h => by omega) (fun _ => fit_j1W neg h l 0 hh hl)
 | succ k ih =>
  intro h l hh hl hk
  refine Ev.step (fun z => rfl) ?_
  simp only [impl_wide_fit.l0, nrm]
  refine Ev_if (fun _ => Ev_if (fun h1 => ?_) (fun h1 => ?_)) (fun h => by omega)
  ·have h2 := (tmod2 l).1 h1
   rw [if_pos (by omega), shift_half2 neg h l hh hl, show wrap64 (((k + 1 : Nat) : Int) - 1) = (k : Int) by unfold wrap64; omega]
   simp only [Option.bind_some]
   unfold wordB at hh hl
   have e := ih (h / 2) (l / 2 + h % 2 * 9223372036854775808) (by unfold wordB; omega) (by unfold wordB; omega) (by omega)
   rw [show h / 2 * 18446744073709551616 + (l / 2 + h % 2 * 9223372036854775808) = (h * 18446744073709551616 + l) / 2 by omega] at e
   exact e
  ·have h2 : ¬ l % 2 = 0 := fun h2 => h1 ((tmod2 l).2 h2)
   rw [if_neg (by omega)]
   exact fit_j1W neg h l _ hh hl
def FIT (k : Nat) (R : Int) : Int × Int × Bool := if R = 0 then (0, 0, true) else mkR (nrm k R)
theorem nrm_sgn (k : Nat) : ∀ n, (n < 0 → (nrm k n).1 < 0) ∧ (0 < n → 0 < (nrm k n).1) := by
 induction k with
 | zero => intro n; simp only [nrm]; omega
 | succ k ih =>
  intro n
  simp only [nrm]
  split
  ·obtain ⟨i1, i2⟩ := ih (n / 2)
   exact ⟨fun h => i1 (by omega), fun h => i2 (by omega)⟩
  ·simp only; omega
theorem fitR_mkR (neg : Bool) (k : Nat) (m : Int) (hm : 0 < m) : fitR neg (nrm k m) = mkR (nrm k (if neg = true then -m else m)) := by
 have hs := (nrm_sgn k m).2 hm
 have e : nrm k (if neg = true then -m else m) = ((if neg = true then -(nrm k m).1 else (nrm k m).1), (nrm k m).2) := by
  cases neg with
  | true => rw [if_pos rfl, if_pos rfl, nrm_neg]
  | false => rw [if_neg (by decide), if_neg (by decide)]
 have hd := dyB_nrm k (if neg = true then -m else m)
 rw [e] at hd ⊢
 unfold fitR mkR
 generalize nrm k m = q at *
 obtain ⟨a, b⟩ := q
 simp only at hd hs ⊢
 by_cases hc : b > 24 ∨ a > 1099511627776
 ·rw [if_pos hc]
  have : ¬ dyB (if neg = true then -a else a) b = true := by
   rw [hd]; intro h
   cases neg with
   | true => rw [if_pos rfl] at h; omega
   | false => rw [if_neg (by decide)] at h; omega
  rw [Bool.eq_false_iff.2 this]; rfl
 ·rw [if_neg hc]
  have : dyB (if neg = true then -a else a) b = true := by
   rw [hd]
   cases neg with
   | true => rw [if_pos rfl]; omega
   | false => rw [if_neg (by decide)]; omega
  rw [this]; rfl
theorem fit_ev (neg : Bool) (h l : Int) (hh : wordB h) (hl : wordB l) (k : Nat) (hk : k ≤ 200) : Ev (fun z => impl_wide_fit.f z neg h l (k : Int)) (FIT k (if neg = true then -(h * 18446744073709551616 + l) else h * 18446744073709551616 + l)) := by
 simp only [impl_wide_fit.f]
 refine Ev_bindS (isZero_eq _ _ _ hh hl) (Ev_if (fun h0 => ?_) (fun h0 => ?_))
 ·have h1 : h * 18446744073709551616 + l = 0 := of_decide_eq_true h0
  rw [h1]
  unfold FIT
  rw [if_pos (by split <;> rfl)]
  exact Ev.now _
 ·have h1 : ¬ h * 18446744073709551616 + l = 0 := fun h1 => h0 (decide_eq_true h1)
  have h2 : 0 < h * 18446744073709551616 + l := by unfold wordB at hh hl; omega
  unfold FIT
  rw [if_neg (by split <;> omega), ← fitR_mkR neg k _ h2]
  exact fit_l0W neg k h l hh hl hk
theorem dyMake_fit (k : Nat) (n : Int) (hn : -9000000000000000000 ≤ n ∧ n ≤ 9000000000000000000) (hk : k ≤ 100) : Ev (fun z => spec_dyMake.f z n (k : Int)) (FIT k n) := by
 unfold FIT
 by_cases h0 : n = 0
 ·subst h0; rw [if_pos rfl]; exact dyMake_zero k
 ·rw [if_neg h0]; exact dyMake_ev k n hn hk h0
theorem nrm_val (k : Nat) : ∀ n, (nrm k n).1 * 2 ^ k = n * 2 ^ (nrm k n).2.toNat := by
 induction k with
 | zero => intro n; simp [nrm]
 | succ k ih =>
  intro n
  simp only [nrm]
  split
  ·rename_i h
   have h1 := ih (n / 2)
   rw [Int.pow_succ, ← Int.mul_assoc, h1]
   obtain ⟨c, hc⟩ : ∃ c, n / 2 = c := ⟨_, rfl⟩
   have : n = 2 * c := by omega
   rw [hc, this]; grind
  ·simp
theorem dyB_odd (n k : Int) (h : dyB n k = true) : k = 0 ∨ n % 2 ≠ 0 := by
 have hr := dyB_range n k h
 unfold dyB at h
 rw [decide_eq_true hr.1, if_pos rfl, decide_eq_true hr.2, if_pos rfl] at h
 by_cases hk : k = 0
 ·exact .inl hk
 ·rw [if_neg hk] at h
  refine .inr (fun h2 => ?_)
  have := (tmod2 n).2 h2
  simp [this] at h
theorem dyB_zero (k : Int) (h : dyB 0 k = true) : k = 0 := by
 rcases dyB_odd 0 k h with h1 | h1
 ·exact h1
 ·exact absurd rfl h1
theorem form_one (n k n' k' : Int) (hk : 0 ≤ k) (hk' : 0 ≤ k') (ho : k = 0 ∨ n % 2 ≠ 0) (ho' : k' = 0 ∨ n' % 2 ≠ 0) (he : n * 2 ^ k'.toNat = n' * 2 ^ k.toNat) : n = n' ∧ k = k' := by
 have key : ∀ n k n' k' : Int, 0 ≤ k → 0 ≤ k' → (k = 0 ∨ n % 2 ≠ 0) → n * 2 ^ k'.toNat = n' * 2 ^ k.toNat → ¬ k' < k := by
  intro n k n' k' hk hk' ho he hlt
  have e : k.toNat = (k.toNat - k'.toNat - 1) + 1 + k'.toNat := by omega
  rw [e, Int.pow_add, ← Int.mul_assoc] at he
  have h2 := Int.eq_of_mul_eq_mul_right (show (2 : Int) ^ k'.toNat ≠ 0 by have := pow1 k'.toNat; omega) he
  rw [Int.pow_succ, ← Int.mul_assoc] at h2
  rcases ho with h3 | h3
  ·omega
  ·omega
 have e1 := key n k n' k' hk hk' ho he
 have e2 := key n' k' n k hk' hk ho' he.symm
 have e3 : k = k' := by omega
 subst e3
 exact ⟨Int.eq_of_mul_eq_mul_right (show (2 : Int) ^ k.toNat ≠ 0 by have := pow1 k.toNat; omega) he, rfl⟩
theorem FIT_some (k : Nat) (R n K : Int) (h : FIT k R = (n, K, true)) : dyB n K = true ∧ n * 2 ^ k = R * 2 ^ K.toNat := by
 unfold FIT at h
 by_cases h0 : R = 0
 ·rw [if_pos h0] at h
  injection h with h1 h2
  injection h2 with h2 _
  subst h1; subst h2; subst h0
  exact ⟨by decide, by simp⟩
 ·rw [if_neg h0] at h
  have hv := nrm_val k R
  unfold mkR at h
  cases hb : dyB (nrm k R).1 (nrm k R).2 with
  | true =>
   rw [hb] at h
   injection h with h1 h2
   injection h2 with h2 _
   rw [h1, h2] at hb hv
   exact ⟨hb, hv⟩
  | false =>
   rw [hb] at h
   injection h with h1 h2
   injection h2 with h2 h3
   cases h3
theorem FIT_of (k : Nat) (R n K : Int) (hb : dyB n K = true) (he : n * 2 ^ k = R * 2 ^ K.toNat) : FIT k R = (n, K, true) := by
 have hr := dyB_range n K hb
 unfold FIT
 by_cases h0 : R = 0
 ·rw [if_pos h0]
  subst h0
  rw [Int.zero_mul] at he
  have hn : n = 0 := by
   rcases Int.mul_eq_zero.1 he with h | h
   ·exact h
   ·have := pow1 k; omega
  subst hn
  rw [dyB_zero K hb]
 ·rw [if_neg h0]
  have hv := nrm_val k R
  obtain ⟨⟨f1, f2⟩, f3⟩ := nrm_form k R
  have hq : n * 2 ^ (nrm k R).2.toNat = (nrm k R).1 * 2 ^ K.toNat := by
   have h1 : n * 2 ^ (nrm k R).2.toNat * 2 ^ k = (nrm k R).1 * 2 ^ K.toNat * 2 ^ k := by
    rw [Int.mul_assoc, Int.mul_comm (2 ^ (nrm k R).2.toNat), ← Int.mul_assoc, he, Int.mul_assoc (nrm k R).1, Int.mul_comm (2 ^ K.toNat), ← Int.mul_assoc, hv]
    grind
   exact Int.eq_of_mul_eq_mul_right (show (2 : Int) ^ k ≠ 0 by have := pow1 k; omega) h1
  obtain ⟨e1, e2⟩ := form_one n K (nrm k R).1 (nrm k R).2 hr.1.1 f1 (dyB_odd n K hb) f3 hq
  unfold mkR
  rw [← e1, ← e2, hb]; rfl
theorem dv_pow (n k : Int) (hk : 0 ≤ k ∧ k ≤ 24) : dv n k * 2 ^ k.toNat = n * 16777216 := by
 unfold dv
 rw [Int.mul_assoc, ← Int.pow_add, show 24 - k.toNat + k.toNat = 24 by omega]; rfl
theorem pow24 (K : Nat) (h : K ≤ 24) : (2 : Int) ^ (24 - K) * 2 ^ K = 16777216 := by rw [← Int.pow_add, show 24 - K + K = 24 by omega]; rfl
theorem FIT_dv (K : Nat) (hK : K ≤ 24) (R n k : Int) (hb : dyB n k = true) : FIT K R = (n, k, true) ↔ dv n k = 2 ^ (24 - K) * R := by
 have hr := dyB_range n k hb
 have p1 := pow1 k.toNat
 have p2 := pow1 (24 - K)
 have e1 := dv_pow n k hr.1
 have e2 := pow24 K hK
 constructor
 ·intro h
  obtain ⟨_, h2⟩ := FIT_some K R n k h
  apply Int.eq_of_mul_eq_mul_right (show (2 : Int) ^ k.toNat ≠ 0 by omega)
  rw [e1, Int.mul_assoc, ← h2, ← e2]; grind
 ·intro h
  apply FIT_of K R n k hb
  apply Int.eq_of_mul_eq_mul_left (show (2 : Int) ^ (24 - K) ≠ 0 by omega)
  rw [← Int.mul_assoc (2 ^ (24 - K)) R, ← h, e1, ← e2]; grind
theorem FIT_half (K : Nat) (hK : K ≤ 24) (R n k : Int) (hb : dyB n k = true) : FIT (K + 1) R = (n, k, true) ↔ 2 * dv n k = 2 ^ (24 - K) * R := by
 have hr := dyB_range n k hb
 have p1 := pow1 k.toNat
 have p2 := pow1 (24 - K)
 have e1 := dv_pow n k hr.1
 have e2 := pow24 K hK
 constructor
 ·intro h
  obtain ⟨_, h2⟩ := FIT_some (K + 1) R n k h
  apply Int.eq_of_mul_eq_mul_right (show (2 : Int) ^ k.toNat ≠ 0 by omega)
  rw [Int.mul_assoc 2, e1, Int.mul_assoc, ← h2, Int.pow_succ, ← e2]; grind
 ·intro h
  apply FIT_of (K + 1) R n k hb
  apply Int.eq_of_mul_eq_mul_left (show (2 : Int) ^ (24 - K) ≠ 0 by omega)
  rw [← Int.mul_assoc (2 ^ (24 - K)) R, ← h, Int.mul_assoc 2, e1, Int.pow_succ, ← e2]; grind
theorem dv_one (n k n' k' : Int) (hb : dyB n k = true) (hb' : dyB n' k' = true) (h : dv n k = dv n' k') : n = n' ∧ k = k' := by
 have hr := dyB_range n k hb
 have hr' := dyB_range n' k' hb'
 have e1 := dv_pow n k hr.1
 have e2 := dv_pow n' k' hr'.1
 refine form_one n k n' k' hr.1.1 hr'.1.1 (dyB_odd n k hb) (dyB_odd n' k' hb') ?_
 apply Int.eq_of_mul_eq_mul_left (show (16777216 : Int) ≠ 0 by omega)
 rw [h] at e1
 grind
theorem dv_neg (n k : Int) : dv (-n) k = -dv n k := by unfold dv; grind
theorem dyB_neg (n k : Int) (hb : dyB n k = true) : dyB (-n) k = true := by
 have hr := dyB_range n k hb
 have ho := dyB_odd n k hb
 unfold dyB
 rw [decide_eq_true hr.1, if_pos rfl, decide_eq_true (by omega), if_pos rfl]
 by_cases hk : k = 0
 ·rw [if_pos hk]
 ·rw [if_neg hk]
  have h2 : ¬ Int.tmod (-n) 2 = 0 := by rw [tmod2]; omega
  simpa using h2
theorem dv_sum (n1 k1 n2 k2 : Int) (h1 : 0 ≤ k1 ∧ k1 ≤ 24) (h2 : 0 ≤ k2 ∧ k2 ≤ 24) : dv n1 k1 + dv n2 k2 = 2 ^ (24 - (mx k1 k2).toNat) * (n1 * 2 ^ (mx k1 k2 - k1).toNat + n2 * 2 ^ (mx k1 k2 - k2).toNat) := by
 have hm : k1 ≤ mx k1 k2 ∧ k2 ≤ mx k1 k2 ∧ mx k1 k2 ≤ 24 := by unfold mx; split <;> omega
 rw [dv_shift n1 k1 (mx k1 k2) ⟨h1.1, hm.1⟩ hm.2.2, dv_shift n2 k2 (mx k1 k2) ⟨h2.1, hm.2.1⟩ hm.2.2, ← Int.mul_add]
theorem add64l_eq (x y c : Int) (hx : wordB x) (hy : wordB y) (hc : 0 ≤ c ∧ c ≤ 1) : add64l x y c = (x + y + c) % 18446744073709551616 := by
 unfold add64l wordB at *; omega
theorem add64c_eq (x y c : Int) (hx : wordB x) (hy : wordB y) (hc : 0 ≤ c ∧ c ≤ 1) : add64c x y c = (x + y + c) / 18446744073709551616 := by
 unfold add64c wordB at *; omega
theorem sub64l_eq (x y c : Int) (hx : wordB x) (hy : wordB y) (hc : 0 ≤ c ∧ c ≤ 1) : sub64l x y c = (x - y - c) % 18446744073709551616 := by
 unfold sub64l wordB at *; omega
theorem sub64c_eq (x y c : Int) (hx : wordB x) (hy : wordB y) (hc : 0 ≤ c ∧ c ≤ 1) : sub64c x y c = if x < y + c then 1 else 0 := by
 unfold sub64c wordB at *; split <;> split <;> omega
theorem addW_ev (n1 n2 : Bool) (h1 l1 h2 l2 : Int) (a1 : wordB h1 ∧ h1 < 9223372036854775808) (a2 : wordB l1) (a3 : wordB h2 ∧ h2 < 9223372036854775808) (a4 : wordB l2) :
 ∃ n h l, Ev (fun z => impl_wide_add.f z n1 h1 l1 n2 h2 l2) (n, h, l) ∧ wordB h ∧ wordB l ∧ wv n h l = wv n1 h1 l1 + wv n2 h2 l2 := by
 have c1 : (0 : Int) ≤ 0 ∧ (0 : Int) ≤ 1 := ⟨by omega, by omega⟩
 by_cases hn : n1 = n2
 ·subst hn
  have e1 := add64c_eq l1 l2 0 a2 a4 c1
  have e2 := add64l_eq l1 l2 0 a2 a4 c1
  have hcr : 0 ≤ add64c l1 l2 0 ∧ add64c l1 l2 0 ≤ 1 := by rw [e1]; unfold wordB at *; omega
  have e3 := add64l_eq h1 h2 _ a1.1 a3.1 hcr
  rw [e1] at e3
  refine ⟨n1, add64l h1 h2 (add64c l1 l2 0), add64l l1 l2 0, ?_, ?_, ?_, ?_⟩
  ·simp only [impl_wide_add.f]
   exact Ev_if (fun _ => Ev_if (fun _ => Ev_if (fun _ => Ev.now _) (fun h => by omega)) (fun h => by omega)) (fun h => absurd (by simp) h)
  ·rw [e1, e3]; unfold wordB at *; omega
  ·rw [e2]; unfold wordB at *; omega
  ·rw [e1, e2, e3]
   unfold wv wordB at *
   split <;> omega
 ·have hne : ¬ (n1 == n2) = true := by simpa using hn
  have hc := cmpSizes_ev n1 n2 h1 l1 h2 l2 a1.1 a2 a3.1 a4
  obtain ⟨m1, hm1⟩ : ∃ m, h1 * 18446744073709551616 + l1 = m := ⟨_, rfl⟩
  obtain ⟨m2, hm2⟩ : ∃ m, h2 * 18446744073709551616 + l2 = m := ⟨_, rfl⟩
  rw [hm1, hm2] at hc
  by_cases hlt : m1 - m2 < 0
  ·have e1 := sub64c_eq l2 l1 0 a4 a2 c1
   have e2 := sub64l_eq l2 l1 0 a4 a2 c1
   have hcr : 0 ≤ sub64c l2 l1 0 ∧ sub64c l2 l1 0 ≤ 1 := by rw [e1]; split <;> omega
   have e3 := sub64l_eq h2 h1 _ a3.1 a1.1 hcr
   have hcc : (l2 < l1 ∧ sub64c l2 l1 0 = 1) ∨ (¬ l2 < l1 ∧ sub64c l2 l1 0 = 0) := by rw [e1]; split <;> omega
   refine ⟨n2, sub64l h2 h1 (sub64c l2 l1 0), sub64l l2 l1 0, ?_, ?_, ?_, ?_⟩
   ·simp only [impl_wide_add.f]
    refine Ev_if (fun h => absurd h hne) (fun _ => Ev.bind hc (Ev_if (fun _ => Ev_if (fun _ => Ev_if (fun _ => Ev.now _) (fun h => by omega)) (fun h => by omega)) (fun h => ?_)))
    rw [sgn_neg _ hlt] at h; omega
   ·rw [e3]; unfold wordB at *; omega
   ·rw [e2]; unfold wordB at *; omega
   ·rw [e2, e3]
    clear e1 e2 e3 hc hcr
    generalize sub64c l2 l1 0 = cc at *
    unfold wv wordB at *
    cases n1 <;> cases n2 <;> simp at hn <;> simp <;> omega
  ·have e1 := sub64c_eq l1 l2 0 a2 a4 c1
   have e2 := sub64l_eq l1 l2 0 a2 a4 c1
   have hcr : 0 ≤ sub64c l1 l2 0 ∧ sub64c l1 l2 0 ≤ 1 := by rw [e1]; split <;> omega
   have e3 := sub64l_eq h1 h2 _ a1.1 a3.1 hcr
   have hcc : (l1 < l2 ∧ sub64c l1 l2 0 = 1) ∨ (¬ l1 < l2 ∧ sub64c l1 l2 0 = 0) := by rw [e1]; split <;> omega
   refine ⟨n1, sub64l h1 h2 (sub64c l1 l2 0), sub64l l1 l2 0, ?_, ?_, ?_, ?_⟩
   ·simp only [impl_wide_add.f]
    refine Ev_if (fun h => absurd h hne) (fun _ => Ev.bind hc (Ev_if (fun h => ?_) (fun _ => Ev_if (fun _ => Ev_if (fun _ => Ev.now _) (fun h => by omega)) (fun h => by omega))))
    by_cases h0 : m1 - m2 = 0
    ·rw [h0] at h; exact absurd h (by decide)
    ·rw [sgn_pos _ (by omega)] at h; omega
   ·rw [e3]; unfold wordB at *; omega
   ·rw [e2]; unfold wordB at *; omega
   ·rw [e2, e3]
    clear e1 e2 e3 hc hcr
    generalize sub64c l1 l2 0 = cc at *
    unfold wv wordB at *
    cases n1 <;> cases n2 <;> simp at hn <;> simp <;> omega
theorem wide_at (n : Int) (hn : -1099511627776 ≤ n ∧ n ≤ 1099511627776) (s : Nat) (hs : s ≤ 63) : ∃ g h l, impl_wideOf.f n = some (g, 0, ((n.natAbs : Nat) : Int)) ∧ impl_wide_shift.f g 0 ((n.natAbs : Nat) : Int) (s : Int) = some (g, h, l) ∧ (wordB h ∧ h < 9223372036854775808) ∧ wordB l ∧ wv g h l = n * 2 ^ s := by
 have b1 : wordB ((n.natAbs : Nat) : Int) := ⟨by omega, by omega⟩
 have f1 := shift_left (decide (n < 0)) _ b1 s hs
 obtain ⟨g1, g2⟩ := word_shift _ b1 s hs
 have v := shift_val (decide (n < 0)) ((n.natAbs : Nat) : Int) s hs
 refine ⟨_, _, _, wideOf_eq n ⟨by omega, by omega⟩, f1, ⟨g1, ?_⟩, g2, ?_⟩
 ·have p := pow1 (64 - s)
  have h2 : ((n.natAbs : Nat) : Int) / 2 ^ (64 - s) ≤ ((n.natAbs : Nat) : Int) := Int.ediv_le_self _ b1.1
  omega
 ·rw [v]
  by_cases h : n < 0
  ·rw [decide_eq_true h, if_pos rfl, ← Int.neg_mul, show -((n.natAbs : Nat) : Int) = n by omega]
  ·rw [decide_eq_false h, if_neg (by decide), show ((n.natAbs : Nat) : Int) = n by omega]
theorem fit_wv (neg : Bool) (h l : Int) (hh : wordB h) (hl : wordB l) (k : Nat) (hk : k ≤ 200) : Ev (fun z => impl_wide_fit.f z neg h l (k : Int)) (FIT k (wv neg h l)) := fit_ev neg h l hh hl k hk
def SUM (n1 k1 n2 k2 : Int) : Int := n1 * 2 ^ (mx k1 k2 - k1).toNat + n2 * 2 ^ (mx k1 k2 - k2).toNat
theorem mx_le (a b : Int) : a ≤ mx a b ∧ b ≤ mx a b ∧ (mx a b = a ∨ mx a b = b) := by unfold mx; split <;> omega
theorem sumW_ev (n1 k1 n2 k2 : Int) (hn1 : -1099511627776 ≤ n1 ∧ n1 ≤ 1099511627776) (hk1 : 0 ≤ k1 ∧ k1 ≤ 24) (hn2 : -1099511627776 ≤ n2 ∧ n2 ≤ 1099511627776) (hk2 : 0 ≤ k2 ∧ k2 ≤ 24) :
 ∃ g1 h1 l1 g2 h2 l2 g h l, impl_wideOf.f n1 = some (g1, 0, ((n1.natAbs : Nat) : Int)) ∧ impl_wide_shift.f g1 0 ((n1.natAbs : Nat) : Int) (wrap64 (mx k1 k2 - k1)) = some (g1, h1, l1) ∧ impl_wideOf.f n2 = some (g2, 0, ((n2.natAbs : Nat) : Int)) ∧ impl_wide_shift.f g2 0 ((n2.natAbs : Nat) : Int) (wrap64 (mx k1 k2 - k2)) = some (g2, h2, l2) ∧ Ev (fun z => impl_wide_add.f z g1 h1 l1 g2 h2 l2) (g, h, l) ∧ wordB h ∧ wordB l ∧ wv g h l = SUM n1 k1 n2 k2 := by
 obtain ⟨m1, m2, m3⟩ := mx_le k1 k2
 obtain ⟨g1, h1, l1, a1, a2, a3, a4, a5⟩ := wide_at n1 hn1 (mx k1 k2 - k1).toNat (by omega)
 obtain ⟨g2, h2, l2, b1, b2, b3, b4, b5⟩ := wide_at n2 hn2 (mx k1 k2 - k2).toNat (by omega)
 obtain ⟨g, h, l, c1, c2, c3, c4⟩ := addW_ev g1 g2 h1 l1 h2 l2 a3 a4 b3 b4
 refine ⟨g1, h1, l1, g2, h2, l2, g, h, l, a1, ?_, b1, ?_, c1, c2, c3, ?_⟩
 ·rw [show wrap64 (mx k1 k2 - k1) = (((mx k1 k2 - k1).toNat : Nat) : Int) by unfold wrap64; omega]; exact a2
 ·rw [show wrap64 (mx k1 k2 - k2) = (((mx k1 k2 - k2).toNat : Nat) : Int) by unfold wrap64; omega]; exact b2
 ·rw [c4, a5, b5]; rfl
theorem sumOf_ev (n1 k1 n2 k2 : Int) (hn1 : -1099511627776 ≤ n1 ∧ n1 ≤ 1099511627776) (hk1 : 0 ≤ k1 ∧ k1 ≤ 24) (hn2 : -1099511627776 ≤ n2 ∧ n2 ≤ 1099511627776) (hk2 : 0 ≤ k2 ∧ k2 ≤ 24) : Ev (fun z => impl_sumOf.f z n1 k1 n2 k2) (FIT (mx k1 k2).toNat (SUM n1 k1 n2 k2)) := by
 obtain ⟨g1, h1, l1, g2, h2, l2, g, h, l, a1, a2, a3, a4, a5, a6, a7, a8⟩ := sumW_ev n1 k1 n2 k2 hn1 hk1 hn2 hk2
 obtain ⟨m1, m2, m3⟩ := mx_le k1 k2
 have f := fit_wv g h l a6 a7 (mx k1 k2).toNat (by omega)
 rw [a8, Int.toNat_of_nonneg (by omega)] at f
 unfold impl_sumOf.f
 exact Ev_bindS a1 (Ev_bindS a2 (Ev_bindS a3 (Ev_bindS a4 (Ev.bind a5 (Ev.bind f (Ev.now _))))))
theorem middleOf_ev (n1 k1 n2 k2 : Int) (hn1 : -1099511627776 ≤ n1 ∧ n1 ≤ 1099511627776) (hk1 : 0 ≤ k1 ∧ k1 ≤ 24) (hn2 : -1099511627776 ≤ n2 ∧ n2 ≤ 1099511627776) (hk2 : 0 ≤ k2 ∧ k2 ≤ 24) : Ev (fun z => impl_middleOf.f z n1 k1 n2 k2) (FIT ((mx k1 k2).toNat + 1) (SUM n1 k1 n2 k2)) := by
 obtain ⟨g1, h1, l1, g2, h2, l2, g, h, l, a1, a2, a3, a4, a5, a6, a7, a8⟩ := sumW_ev n1 k1 n2 k2 hn1 hk1 hn2 hk2
 obtain ⟨m1, m2, m3⟩ := mx_le k1 k2
 have f := fit_wv g h l a6 a7 ((mx k1 k2).toNat + 1) (by omega)
 rw [a8, show (((mx k1 k2).toNat + 1 : Nat) : Int) = wrap64 (mx k1 k2 + 1) by unfold wrap64; omega] at f
 unfold impl_middleOf.f
 exact Ev_bindS a1 (Ev_bindS a2 (Ev_bindS a3 (Ev_bindS a4 (Ev.bind a5 (Ev.bind f (Ev.now _))))))
theorem and32 (a : Int) (h : wordB a) : Go.bits .and .u64 a 4294967295 = a % 4294967296 := by
 obtain ⟨x, rfl⟩ := Int.eq_ofNat_of_zero_le h.1
 have hx : x < 18446744073709551616 := by have := h.2; omega
 have h64 : IntKind.u64.bits = 64 := rfl
 unfold Go.bits
 simp only [h64, BitVec.toNat_and, BitVec.ofInt_natCast, BitVec.toNat_ofNat]
 have e : (BitVec.ofInt IntKind.u64.bits 4294967295).toNat = 2 ^ 32 - 1 := by decide
 rw [e, Nat.mod_eq_of_lt (show x < 2 ^ 64 by omega), Nat.and_two_pow_sub_one_eq_mod, u64r _ ⟨by omega, by omega⟩]
 omega
theorem mul64_eq (x y : Int) (hx : 0 ≤ x ∧ x ≤ 1099511627776) (hy : 0 ≤ y ∧ y ≤ 1099511627776) : bits_Mul64.f x y = some (x * y / 18446744073709551616, x * y % 18446744073709551616) := by
 unfold bits_Mul64.f
 rw [and32 x ⟨hx.1, by omega⟩, and32 y ⟨hy.1, by omega⟩]
 obtain ⟨x1, hx1⟩ : ∃ q, x / 4294967296 = q := ⟨_, rfl⟩
 obtain ⟨x0, hx0⟩ : ∃ q, x % 4294967296 = q := ⟨_, rfl⟩
 obtain ⟨y1, hy1⟩ : ∃ q, y / 4294967296 = q := ⟨_, rfl⟩
 obtain ⟨y0, hy0⟩ : ∃ q, y % 4294967296 = q := ⟨_, rfl⟩
 have ex : x = x1 * 4294967296 + x0 := by omega
 have ey : y = y1 * 4294967296 + y0 := by omega
 have bx1 : -256 ≤ x1 ∧ x1 ≤ 256 := by omega
 have by1 : -256 ≤ y1 ∧ y1 ≤ 256 := by omega
 have px1 : 0 ≤ x1 := by omega
 have py1 : 0 ≤ y1 := by omega
 have px0 : 0 ≤ x0 := by omega
 have py0 : 0 ≤ y0 := by omega
 have bx0 : -4294967295 ≤ x0 ∧ x0 ≤ 4294967295 := by omega
 have by0 : -4294967295 ≤ y0 ∧ y0 ≤ 4294967295 := by omega
 have m1 := absmul x1 y1 256 256 bx1 by1
 have m2 := absmul x1 y0 256 4294967295 bx1 by0
 have m3 := absmul x0 y1 4294967295 256 bx0 by1
 have m4 := absmul x0 y0 4294967295 4294967295 bx0 by0
 have n1 := Int.mul_nonneg px1 py1
 have n2 := Int.mul_nonneg px1 py0
 have n3 := Int.mul_nonneg px0 py1
 have n4 := Int.mul_nonneg px0 py0
 have hxy : x * y = x1 * y1 * 18446744073709551616 + (x1 * y0 + x0 * y1) * 4294967296 + x0 * y0 := by rw [ex, ey]; grind
 rw [hx1, hx0, hy1, hy0, hxy]
 generalize x1 * y1 = a at *
 generalize x1 * y0 = b at *
 generalize x0 * y1 = c at *
 generalize x0 * y0 = d at *
 clear hxy ex ey
 have w1 : IntKind.u64.wrap d = d := u64r _ ⟨by omega, by omega⟩
 have w2 : IntKind.u64.wrap b = b := u64r _ ⟨by omega, by omega⟩
 have w3 : IntKind.u64.wrap c = c := u64r _ ⟨by omega, by omega⟩
 have w4 : IntKind.u64.wrap a = a := u64r _ ⟨by omega, by omega⟩
 rw [w1, w2, w3, w4, u64m (b + d / 4294967296), Int.emod_eq_of_lt (show 0 ≤ b + d / 4294967296 by omega) (by omega), and32 (b + d / 4294967296) ⟨by omega, by omega⟩, u64m ((b + d / 4294967296) % 4294967296 + c), u64m (a + (b + d / 4294967296) / 4294967296), u64m, u64m]
 congr 1
 refine Prod.ext ?_ rfl
 show _ = _
 simp only
 omega
theorem timesWide_eq (a b : Int) (ha : -1099511627776 ≤ a ∧ a ≤ 1099511627776) (hb : -1099511627776 ≤ b ∧ b ≤ 1099511627776) : ∃ g h l, impl_timesWide.f a b = some (g, h, l) ∧ (wordB h ∧ h < 9223372036854775808) ∧ wordB l ∧ wv g h l = a * b := by
 have e1 := sizeW_eq a ⟨by omega, by omega⟩
 have e2 := sizeW_eq b ⟨by omega, by omega⟩
 have e3 := mul64_eq ((a.natAbs : Nat) : Int) ((b.natAbs : Nat) : Int) ⟨by omega, by omega⟩ ⟨by omega, by omega⟩
 have hm := absmul ((a.natAbs : Nat) : Int) ((b.natAbs : Nat) : Int) 1099511627776 1099511627776 ⟨by omega, by omega⟩ ⟨by omega, by omega⟩
 have hp : 0 ≤ ((a.natAbs : Nat) : Int) * ((b.natAbs : Nat) : Int) := Int.mul_nonneg (by omega) (by omega)
 have hs : (if (decide (a < 0) != decide (b < 0)) = true then -(((a.natAbs : Nat) : Int) * ((b.natAbs : Nat) : Int)) else ((a.natAbs : Nat) : Int) * ((b.natAbs : Nat) : Int)) = a * b := by
  by_cases h1 : a < 0 <;> by_cases h2 : b < 0
  ·rw [decide_eq_true h1, decide_eq_true h2, show ((a.natAbs : Nat) : Int) = -a by omega, show ((b.natAbs : Nat) : Int) = -b by omega, if_neg (by decide)]; grind
  ·rw [decide_eq_true h1, decide_eq_false h2, show ((a.natAbs : Nat) : Int) = -a by omega, show ((b.natAbs : Nat) : Int) = b by omega, if_pos (by decide)]; grind
  ·rw [decide_eq_false h1, decide_eq_true h2, show ((a.natAbs : Nat) : Int) = a by omega, show ((b.natAbs : Nat) : Int) = -b by omega, if_pos (by decide)]; grind
  ·rw [decide_eq_false h1, decide_eq_false h2, show ((a.natAbs : Nat) : Int) = a by omega, show ((b.natAbs : Nat) : Int) = b by omega, if_neg (by decide)]
 generalize ((a.natAbs : Nat) : Int) * ((b.natAbs : Nat) : Int) = m at *
 refine ⟨(decide (a < 0) != decide (b < 0)), m / 18446744073709551616, m % 18446744073709551616, ?_, ⟨⟨by omega, by omega⟩, by omega⟩, ⟨by omega, by omega⟩, ?_⟩
 ·unfold impl_timesWide.f
  rw [e1, Option.bind_some, e2, Option.bind_some, e3, Option.bind_some]
 ·unfold wv
  rw [show m / 18446744073709551616 * 18446744073709551616 + m % 18446744073709551616 = m by omega, hs]
theorem productOf_ev (n1 k1 n2 k2 : Int) (hn1 : -1099511627776 ≤ n1 ∧ n1 ≤ 1099511627776) (hk1 : 0 ≤ k1 ∧ k1 ≤ 24) (hn2 : -1099511627776 ≤ n2 ∧ n2 ≤ 1099511627776) (hk2 : 0 ≤ k2 ∧ k2 ≤ 24) : Ev (fun z => impl_productOf.f z n1 k1 n2 k2) (FIT (k1 + k2).toNat (n1 * n2)) := by
 obtain ⟨g, h, l, a1, a2, a3, a4⟩ := timesWide_eq n1 n2 hn1 hn2
 have f := fit_wv g h l a2.1 a3 (k1 + k2).toNat (by omega)
 rw [a4, show (((k1 + k2).toNat : Nat) : Int) = wrap64 (k1 + k2) by unfold wrap64; omega] at f
 unfold impl_productOf.f
 exact Ev_bindS a1 (Ev.bind f (Ev.now _))
theorem FIT_big (j : Nat) (R : Int) (ho : j = 0 ∨ R % 2 ≠ 0) (hb : R < -1099511627776 ∨ 1099511627776 < R) : FIT j R = (0, 0, false) := by
 have e : nrm j R = (R, (j : Int)) := by
  cases j with
  | zero => rfl
  | succ j =>
   simp only [nrm]
   rw [if_neg (by omega)]
 unfold FIT mkR
 rw [if_neg (by omega), e]
 have : dyB R (j : Int) = false := by
  rw [Bool.eq_false_iff]
  intro h
  have := dyB_range _ _ h
  omega
 simp only [this]; rfl
theorem FIT_even (j : Nat) (m : Int) : FIT (j + 1) (2 * m) = FIT j m := by
 unfold FIT
 by_cases h : m = 0
 ·rw [if_pos (by omega), if_pos h]
 ·rw [if_neg (by omega), if_neg h]
  simp only [nrm]
  rw [if_pos (by omega), show 2 * m / 2 = m by omega]
theorem pow2_even (s : Nat) (h : 0 < s) (n : Int) : n * 2 ^ s % 2 = 0 := by
 obtain ⟨t, rfl⟩ : ∃ t, s = t + 1 := ⟨s - 1, by omega⟩
 rw [Int.pow_succ, ← Int.mul_assoc]; omega
theorem dyAt_any (K k0 : Int) (d : Nat) : ∀ (n i : Int), 0 ≤ i → i ≤ K → K ≤ 1000 → (K - i).toNat = d → -2305843009213693952 ≤ n ∧ n ≤ 2305843009213693952 →
 (Ev (fun z => spec_dyAt.l0 z K i n k0) (n * 2 ^ d, true) ∧ -2305843009213693952 ≤ n * 2 ^ d ∧ n * 2 ^ d ≤ 2305843009213693952) ∨ (Ev (fun z => spec_dyAt.l0 z K i n k0) (0, false) ∧ 0 < d ∧ (n * 2 ^ d < -1152921504606846976 ∨ 1152921504606846976 < n * 2 ^ d)) := by
 induction d with
 | zero =>
  intro n i h0 hi ht hd hn
  refine .inl ⟨?_, by simpa using hn⟩
  refine Ev.step (fun z => rfl) ?_
  simp only [spec_dyAt.l0]
  refine Ev_if (fun h => by omega) (fun _ => ?_)
  refine Ev_eq (Ev.now _) ?_
  simp
 | succ d ih =>
  intro n i h0 hi ht hd hn
  have e : n * 2 ^ (d + 1) = n * 2 * 2 ^ d := by rw [Int.pow_succ]; grind
  have hp := pow1 d
  have e60 : (2 : Int) ^ (60 : Int).toNat = 1152921504606846976 := by decide
  by_cases hs : -1152921504606846976 ≤ n ∧ n ≤ 1152921504606846976
  ·have step : ∀ r : Int × Bool, Ev (fun z => spec_dyAt.l0 z K (i + 1) (n * 2) k0) r → Ev (fun z => spec_dyAt.l0 z K i n k0) r := by
    intro r hr
    refine Ev.step (fun z => rfl) ?_
    simp only [spec_dyAt.l0]
    rw [show wrap64 (i + 1) = i + 1 by unfold wrap64; omega, show wrap64 (n * 2) = n * 2 by unfold wrap64; omega]
    refine Ev_if (fun _ => Ev_bindS (dyPower62 60 ⟨by omega, by omega⟩) (Ev_bindS (l1In_eq _ _ _) (Ev_if (fun _ => hr) (fun h => ?_)))) (fun h => by omega)
    exfalso; apply h; apply decide_eq_true
    rw [e60, show wrap64 (-1152921504606846976) = -1152921504606846976 by unfold wrap64; omega]; exact hs
   rcases ih (n * 2) (i + 1) (by omega) (by omega) ht (by omega) (by omega) with ⟨h1, h2⟩ | ⟨h1, h2, h3⟩
   ·rw [e]; exact .inl ⟨step _ h1, h2⟩
   ·rw [e]; exact .inr ⟨step _ h1, by omega, h3⟩
  ·refine .inr ⟨?_, by omega, ?_⟩
   ·refine Ev.step (fun z => rfl) ?_
    simp only [spec_dyAt.l0]
    refine Ev_if (fun _ => Ev_bindS (dyPower62 60 ⟨by omega, by omega⟩) (Ev_bindS (l1In_eq _ _ _) (Ev_if (fun h => ?_) (fun h => Ev.now _)))) (fun h => by omega)
    have h := of_decide_eq_true h
    rw [e60, show wrap64 (-1152921504606846976) = -1152921504606846976 by unfold wrap64; omega] at h
    omega
   ·have hp2 := pow1 (d + 1)
    by_cases hneg : n < 0
    ·have := Int.mul_le_mul_of_nonneg_left hp2 (show 0 ≤ -n by omega)
     simp only [Int.neg_mul] at this; omega
    ·have := Int.mul_le_mul_of_nonneg_left hp2 (show 0 ≤ n by omega); omega
theorem dyAt_cases (n k K : Int) (hk : 0 ≤ k ∧ k ≤ K) (hK : K ≤ 24) (hn : -1099511627776 ≤ n ∧ n ≤ 1099511627776) :
 (Ev (fun z => spec_dyAt.f z n k K) (n * 2 ^ (K - k).toNat, true) ∧ -2305843009213693952 ≤ n * 2 ^ (K - k).toNat ∧ n * 2 ^ (K - k).toNat ≤ 2305843009213693952) ∨ (Ev (fun z => spec_dyAt.f z n k K) (0, false) ∧ k < K ∧ (n * 2 ^ (K - k).toNat < -1152921504606846976 ∨ 1152921504606846976 < n * 2 ^ (K - k).toNat)) := by
 by_cases h0 : n = 0
 ·subst h0
  refine .inl ⟨?_, by simp⟩
  unfold spec_dyAt.f
  exact Ev_if (fun _ => by rw [Int.zero_mul]; exact Ev.now _) (fun h => absurd rfl h)
 ·have f : ∀ r : Int × Bool, Ev (fun z => spec_dyAt.l0 z K k n k) r → Ev (fun z => spec_dyAt.f z n k K) r := by
   intro r hr; unfold spec_dyAt.f; exact Ev_if (fun h => absurd h h0) (fun _ => hr)
  rcases dyAt_any K k (K - k).toNat n k hk.1 hk.2 (by omega) rfl ⟨by omega, by omega⟩ with ⟨h1, h2⟩ | ⟨h1, h2, h3⟩
  ·exact .inl ⟨f _ h1, h2⟩
  ·exact .inr ⟨f _ h1, by omega, h3⟩
theorem l1Most_mx (a b : Int) : spec_l1Most.f a b = some (mx a b) := by
 unfold spec_l1Most.f mx
 by_cases h : a > b
 ·rw [if_pos h, if_neg (by omega)]
 ·rw [if_neg h]; split <;> (congr 1; try omega)
theorem both_at (n1 k1 n2 k2 : Int) (b1 : dyB n1 k1 = true) (b2 : dyB n2 k2 = true) :
 (Ev (fun z => spec_dyAt.f z n1 k1 (mx k1 k2)) (n1 * 2 ^ (mx k1 k2 - k1).toNat, true) ∧ Ev (fun z => spec_dyAt.f z n2 k2 (mx k1 k2)) (n2 * 2 ^ (mx k1 k2 - k2).toNat, true) ∧ wrap64 (n1 * 2 ^ (mx k1 k2 - k1).toNat + n2 * 2 ^ (mx k1 k2 - k2).toNat) = SUM n1 k1 n2 k2 ∧ -9000000000000000000 ≤ SUM n1 k1 n2 k2 ∧ SUM n1 k1 n2 k2 ≤ 9000000000000000000) ∨
 (∃ x y c d, Ev (fun z => spec_dyAt.f z n1 k1 (mx k1 k2)) (x, c) ∧ Ev (fun z => spec_dyAt.f z n2 k2 (mx k1 k2)) (y, d) ∧ (c = false ∨ d = false) ∧ SUM n1 k1 n2 k2 % 2 ≠ 0 ∧ (SUM n1 k1 n2 k2 < -1099511627776 ∨ 1099511627776 < SUM n1 k1 n2 k2)) := by
 obtain ⟨m1, m2, m3⟩ := mx_le k1 k2
 have r1 := dyB_range n1 k1 b1
 have r2 := dyB_range n2 k2 b2
 have o1 := dyB_odd n1 k1 b1
 have o2 := dyB_odd n2 k2 b2
 have c1 := dyAt_cases n1 k1 (mx k1 k2) ⟨r1.1.1, m1⟩ (by omega) r1.2
 have c2 := dyAt_cases n2 k2 (mx k1 k2) ⟨r2.1.1, m2⟩ (by omega) r2.2
 have z0 : ∀ m : Int, m * 2 ^ (0 : Nat) = m := fun m => by simp
 unfold SUM
 rcases c1 with ⟨c1, c1b⟩ | ⟨c1, c1b, c1c⟩
 ·rcases c2 with ⟨c2, c2b⟩ | ⟨c2, c2b, c2c⟩
  ·refine .inl ⟨c1, c2, ?_, ?_⟩
   ·generalize n1 * 2 ^ (mx k1 k2 - k1).toNat = x at *
    generalize n2 * 2 ^ (mx k1 k2 - k2).toNat = y at *
    unfold wrap64; omega
   ·omega
  ·refine .inr ⟨_, _, _, _, c1, c2, .inr rfl, ?_⟩
   have hk : mx k1 k2 = k1 := by omega
   have he := pow2_even (mx k1 k2 - k2).toNat (by omega) n2
   rw [show (mx k1 k2 - k1).toNat = 0 by omega, z0]
   generalize n2 * 2 ^ (mx k1 k2 - k2).toNat = y at *
   omega
 ·rcases c2 with ⟨c2, c2b⟩ | ⟨c2, c2b, c2c⟩
  ·refine .inr ⟨_, _, _, _, c1, c2, .inl rfl, ?_⟩
   have hk : mx k1 k2 = k2 := by omega
   have he := pow2_even (mx k1 k2 - k1).toNat (by omega) n1
   rw [show (mx k1 k2 - k2).toNat = 0 by omega, z0]
   generalize n1 * 2 ^ (mx k1 k2 - k1).toNat = y at *
   omega
  ·omega
theorem dyAdd_ev (n1 k1 n2 k2 : Int) (b1 : dyB n1 k1 = true) (b2 : dyB n2 k2 = true) : Ev (fun z => spec_dyAdd.f z n1 k1 n2 k2) (FIT (mx k1 k2).toNat (SUM n1 k1 n2 k2)) := by
 obtain ⟨m1, m2, m3⟩ := mx_le k1 k2
 have r1 := dyB_range n1 k1 b1
 have r2 := dyB_range n2 k2 b2
 unfold spec_dyAdd.f
 refine Ev_bindS (l1Most_mx k1 k2) ?_
 rcases both_at n1 k1 n2 k2 b1 b2 with ⟨h1, h2, h3, h4⟩ | ⟨x, y, c, d, h1, h2, h3, h4, h5⟩
 ·refine Ev.bind h1 (Ev.bind h2 (Ev_if (fun _ => Ev_if (fun _ => ?_) (fun h => absurd rfl h)) (fun h => absurd rfl h)))
  have hf := dyMake_fit (mx k1 k2).toNat _ h4 (by omega)
  rw [Int.toNat_of_nonneg (by omega), ← h3] at hf
  rw [← h3]
  exact Ev.bind hf (Ev.now _)
 ·rw [FIT_big _ _ (.inr h4) h5]
  refine Ev.bind h1 (Ev.bind h2 (Ev_if (fun hc => Ev_if (fun hd => ?_) (fun _ => Ev.now _)) (fun _ => Ev.now _)))
  simp only at hc hd
  rcases h3 with rfl | rfl
  ·cases hc
  ·cases hd
theorem dyHalf_ev (n1 k1 n2 k2 : Int) (b1 : dyB n1 k1 = true) (b2 : dyB n2 k2 = true) : Ev (fun z => spec_dyHalf.f z n1 k1 n2 k2) (FIT ((mx k1 k2).toNat + 1) (SUM n1 k1 n2 k2)) := by
 obtain ⟨m1, m2, m3⟩ := mx_le k1 k2
 have r1 := dyB_range n1 k1 b1
 have r2 := dyB_range n2 k2 b2
 unfold spec_dyHalf.f
 refine Ev_bindS (l1Most_mx k1 k2) ?_
 rcases both_at n1 k1 n2 k2 b1 b2 with ⟨h1, h2, h3, h4⟩ | ⟨x, y, c, d, h1, h2, h3, h4, h5⟩
 ·refine Ev.bind h1 (Ev.bind h2 (Ev_if (fun _ => Ev_if (fun _ => ?_) (fun h => absurd rfl h)) (fun h => absurd rfl h)))
  have hf := dyMake_fit ((mx k1 k2).toNat + 1) _ h4 (by omega)
  rw [show (((mx k1 k2).toNat + 1 : Nat) : Int) = wrap64 (mx k1 k2 + 1) by unfold wrap64; omega, ← h3] at hf
  rw [← h3]
  exact Ev.bind hf (Ev.now _)
 ·rw [FIT_big _ _ (.inr h4) h5]
  refine Ev.bind h1 (Ev.bind h2 (Ev_if (fun hc => Ev_if (fun hd => ?_) (fun _ => Ev.now _)) (fun _ => Ev.now _)))
  simp only at hc hd
  rcases h3 with rfl | rfl
  ·cases hc
  ·cases hd
theorem l1Abs_eq (n : Int) (h : -9223372036854775807 ≤ n ∧ n ≤ 9223372036854775807) : spec_l1Abs.f n = some ((n.natAbs : Nat) : Int) := by
 unfold spec_l1Abs.f
 rw [show wrap64 (-n) = -n by unfold wrap64; omega, l1Most_mx, Option.bind_some]
 congr 1
 unfold mx; split <;> omega
theorem dyMul_j4 (j : Nat) (n1 k1 n2 k2 : Int) (hj : j ≤ 100) (h1 : n1 ≠ 0) (h2 : n2 ≠ 0) (b1 : -1099511627776 ≤ n1 ∧ n1 ≤ 1099511627776) (b2 : -1099511627776 ≤ n2 ∧ n2 ≤ 1099511627776) (ho : j = 0 ∨ n1 % 2 ≠ 0 ∧ n2 % 2 ≠ 0) : Ev (fun z => spec_dyMul.j4 z (j : Int) n1 k1 n2 k2) (FIT j (n1 * n2)) := by
 refine Ev.step (fun z => rfl) ?_
 simp only [spec_dyMul.j4]
 refine Ev_bindS (l1Abs_eq n1 ⟨by omega, by omega⟩) (Ev_bindS (l1Abs_eq n2 ⟨by omega, by omega⟩) (Ev_if (fun h => by omega) (fun _ => ?_)))
 have hab : ((n1 * n2).natAbs : Nat) = n1.natAbs * n2.natAbs := Int.natAbs_mul n1 n2
 obtain ⟨a, ha⟩ : ∃ a, n1.natAbs = a := ⟨_, rfl⟩
 obtain ⟨b, hb⟩ : ∃ b, n2.natAbs = b := ⟨_, rfl⟩
 rw [ha, hb] at hab ⊢
 have hb0 : 0 < b := by omega
 have hqb : 1099511627776 / b ≤ 1099511627776 := Nat.div_le_self _ _
 obtain ⟨q, hq⟩ : ∃ q, 1099511627776 / b = q := ⟨_, rfl⟩
 have hdiv : ((1099511627776 : Int) / (b : Int)) = (q : Int) := by rw [← hq]; simp
 rw [hq] at hqb
 rw [hdiv, show wrap64 (q : Int) = (q : Int) by unfold wrap64; omega]
 refine Ev_if (fun h => ?_) (fun h => ?_)
 ·have h3 : 1099511627776 < a * b := by
   have h4 : 1099511627776 / b < a := by rw [hq]; omega
   exact (Nat.div_lt_iff_lt_mul hb0).1 h4
  rw [FIT_big]
  ·exact Ev.now _
  ·rcases ho with h5 | ⟨h5, h6⟩
   ·exact .inl h5
   ·refine .inr ?_
    obtain ⟨p, hp⟩ : ∃ p, n1 = 2 * p + 1 := ⟨n1 / 2, by omega⟩
    obtain ⟨u, hu⟩ : ∃ u, n2 = 2 * u + 1 := ⟨n2 / 2, by omega⟩
    have : n1 * n2 = 2 * (2 * p * u + p + u) + 1 := by rw [hp, hu]; grind
    omega
  ·omega
 ·have h3 : a * b ≤ 1099511627776 := by
   have h4 : a ≤ 1099511627776 / b := by rw [hq]; omega
   exact (Nat.le_div_iff_mul_le hb0).1 h4
  have hf := dyMake_fit j (n1 * n2) (by omega) hj
  rw [show wrap64 (n1 * n2) = n1 * n2 by unfold wrap64; omega]
  exact Ev.bind hf (Ev.now _)
theorem dyMul_l1 (j : Nat) : ∀ (n1 k1 n2 k2 : Int), j ≤ 100 → n1 ≠ 0 → n2 ≠ 0 → (-1099511627776 ≤ n1 ∧ n1 ≤ 1099511627776) → (-1099511627776 ≤ n2 ∧ n2 ≤ 1099511627776) → (j = 0 ∨ n1 % 2 ≠ 0) → Ev (fun z => spec_dyMul.l1 z (j : Int) n1 k1 n2 k2) (FIT j (n1 * n2)) := by
 induction j with
 | zero =>
  intro n1 k1 n2 k2 hj h1 h2 b1 b2 ho
  refine Ev.step (fun z => rfl) ?_
  simp only [spec_dyMul.l1]
  exact Ev_if (fun h => by omega) (fun _ => dyMul_j4 0 n1 k1 n2 k2 hj h1 h2 b1 b2 (.inl rfl))
 | succ j ih =>
  intro n1 k1 n2 k2 hj h1 h2 b1 b2 ho
  refine Ev.step (fun z => rfl) ?_
  simp only [spec_dyMul.l1]
  refine Ev_if (fun _ => Ev_if (fun h => ?_) (fun h => ?_)) (fun h => by omega)
  ·have h3 := (tmod2 n2).1 h
   rw [tdiv2 n2 h3, show wrap64 (n2 / 2) = n2 / 2 by unfold wrap64; omega, show wrap64 (((j + 1 : Nat) : Int) - 1) = (j : Int) by unfold wrap64; omega]
   obtain ⟨c, hc⟩ : ∃ c, n2 / 2 = c := ⟨_, rfl⟩
   have e : n1 * n2 = 2 * (n1 * c) := by rw [show n2 = 2 * c by omega]; grind
   rw [e, FIT_even, hc]
   exact ih n1 k1 c k2 (by omega) h1 (by omega) b1 (by omega) (by omega)
  ·have h3 : ¬ n2 % 2 = 0 := fun h2 => h ((tmod2 n2).2 h2)
   exact dyMul_j4 (j + 1) n1 k1 n2 k2 hj h1 h2 b1 b2 (.inr ⟨by omega, h3⟩)
theorem dyMul_l0 (j : Nat) : ∀ (n1 k1 n2 k2 : Int), j ≤ 100 → n1 ≠ 0 → n2 ≠ 0 → (-1099511627776 ≤ n1 ∧ n1 ≤ 1099511627776) → (-1099511627776 ≤ n2 ∧ n2 ≤ 1099511627776) → Ev (fun z => spec_dyMul.l0 z (j : Int) n1 k1 n2 k2) (FIT j (n1 * n2)) := by
 have j2 : ∀ (j : Nat) (n1 k1 n2 k2 : Int) (r : Int × Int × Bool), Ev (fun z => spec_dyMul.l1 z (j : Int) n1 k1 n2 k2) r → Ev (fun z => spec_dyMul.j2 z (j : Int) n1 k1 n2 k2) r := fun j n1 k1 n2 k2 r h => Ev.step (f := fun z => spec_dyMul.l1 z (j : Int) n1 k1 n2 k2) (fun z => rfl) h
 induction j with
 | zero =>
  intro n1 k1 n2 k2 hj h1 h2 b1 b2
  refine Ev.step (fun z => rfl) ?_
  simp only [spec_dyMul.l0]
  exact Ev_if (fun h => by omega) (fun _ => j2 0 _ _ _ _ _ (dyMul_l1 0 n1 k1 n2 k2 hj h1 h2 b1 b2 (.inl rfl)))
 | succ j ih =>
  intro n1 k1 n2 k2 hj h1 h2 b1 b2
  refine Ev.step (fun z => rfl) ?_
  simp only [spec_dyMul.l0]
  refine Ev_if (fun _ => Ev_if (fun h => ?_) (fun h => ?_)) (fun h => by omega)
  ·have h3 := (tmod2 n1).1 h
   rw [tdiv2 n1 h3, show wrap64 (n1 / 2) = n1 / 2 by unfold wrap64; omega, show wrap64 (((j + 1 : Nat) : Int) - 1) = (j : Int) by unfold wrap64; omega]
   obtain ⟨c, hc⟩ : ∃ c, n1 / 2 = c := ⟨_, rfl⟩
   have e : n1 * n2 = 2 * (c * n2) := by rw [show n1 = 2 * c by omega]; grind
   rw [e, FIT_even, hc]
   exact ih c k1 n2 k2 (by omega) (by omega) h2 (by omega) b2
  ·have h3 : ¬ n1 % 2 = 0 := fun h2 => h ((tmod2 n1).2 h2)
   exact j2 (j + 1) _ _ _ _ _ (dyMul_l1 (j + 1) n1 k1 n2 k2 hj h1 h2 b1 b2 (.inr h3))
theorem dyMul_ev (n1 k1 n2 k2 : Int) (b1 : -1099511627776 ≤ n1 ∧ n1 ≤ 1099511627776) (hk1 : 0 ≤ k1 ∧ k1 ≤ 24) (b2 : -1099511627776 ≤ n2 ∧ n2 ≤ 1099511627776) (hk2 : 0 ≤ k2 ∧ k2 ≤ 24) : Ev (fun z => spec_dyMul.f z n1 k1 n2 k2) (FIT (k1 + k2).toNat (n1 * n2)) := by
 have zero : n1 * n2 = 0 → FIT (k1 + k2).toNat (n1 * n2) = (0, 0, true) := fun h => by unfold FIT; rw [if_pos h]
 have jt : Ev (fun z => spec_dyMul.j0 z true n1 k1 n2 k2) (0, 0, true) := Ev.step (f := fun z => some (0, 0, true)) (fun z => rfl) (Ev.now _)
 unfold spec_dyMul.f
 refine Ev_if (fun h => ?_) (fun h => ?_)
 ·rw [zero (by rw [h, Int.zero_mul])]; exact jt
 ·by_cases h2 : n2 = 0
  ·rw [zero (by rw [h2, Int.mul_zero]), show (n2 == 0) = true by simpa using h2]; exact jt
  ·rw [show (n2 == 0) = false by simpa using h2]
   have h3 := dyMul_l0 (k1 + k2).toNat n1 k1 n2 k2 (by omega) h h2 b1 b2
   refine Ev.step (f := fun z => spec_dyMul.l0 z (wrap64 (k1 + k2)) n1 k1 n2 k2) (fun z => rfl) ?_
   rw [show wrap64 (k1 + k2) = (((k1 + k2).toNat : Nat) : Int) by unfold wrap64; omega]
   exact h3
theorem dyTwo_eq (n1 k1 n2 k2 : Int) : spec_dyTwo.f n1 k1 n2 k2 = some (dyB n1 k1 && dyB n2 k2) := by
 unfold spec_dyTwo.f
 rw [dyGood_eq, Option.bind_some]
 cases dyB n1 k1 with
 | true => rw [if_pos rfl, dyGood_eq]; rfl
 | false => rw [if_neg (by decide)]; rfl
def TWO (n1 k1 n2 k2 : Int) (r : Int × Int × Bool) : Int × Int × Bool := if (dyB n1 k1 && dyB n2 k2) = true then r else (0, 0, false)
theorem two_spec {n1 k1 n2 k2 : Int} {g : Nat → Option (Int × Int × Bool)} {r : Int × Int × Bool} (h : (dyB n1 k1 && dyB n2 k2) = true → Ev g r) : Ev (fun z => (spec_dyTwo.f n1 k1 n2 k2).bind fun t => if t = true then (g z).bind fun b => some (b.1, b.2.1, b.2.2) else some (0, 0, false)) (TWO n1 k1 n2 k2 r) := by
 refine Ev_bindS (dyTwo_eq _ _ _ _) ?_
 unfold TWO
 refine Ev_if (fun hb => ?_) (fun hb => by rw [if_neg hb]; exact Ev.now _)
 rw [if_pos hb]
 exact Ev.bind (h hb) (Ev.now _)
theorem two_impl {n1 k1 n2 k2 : Int} {g : Nat → Option (Int × Int × Bool)} {r : Int × Int × Bool} (h : (dyB n1 k1 && dyB n2 k2) = true → Ev g r) : Ev (fun z => (impl_isDyadic.f n1 k1).bind fun t => if t = true then (impl_isDyadic.f n2 k2).bind fun t => if t = true then (g z).bind fun b => some (b.1, b.2.1, b.2.2) else some (0, 0, false) else some (0, 0, false)) (TWO n1 k1 n2 k2 r) := by
 refine Ev_bindS (isDyadic_eq _ _) ?_
 unfold TWO
 refine Ev_if (fun h1 => Ev_bindS (isDyadic_eq _ _) (Ev_if (fun h2 => ?_) (fun h2 => ?_))) (fun h1 => ?_)
 ·rw [if_pos (by rw [h1, h2]; rfl)]; exact Ev.bind (h (by rw [h1, h2]; rfl)) (Ev.now _)
 ·rw [if_neg (by rw [h1]; simpa using h2)]; exact Ev.now _
 ·rw [if_neg (by rw [Bool.eq_false_iff.2 h1]; simp)]; exact Ev.now _
def ADD (n1 k1 n2 k2 : Int) : Int × Int × Bool := TWO n1 k1 n2 k2 (FIT (mx k1 k2).toNat (SUM n1 k1 n2 k2))
def SUB (n1 k1 n2 k2 : Int) : Int × Int × Bool := TWO n1 k1 n2 k2 (FIT (mx k1 k2).toNat (SUM n1 k1 (-n2) k2))
def MUL (n1 k1 n2 k2 : Int) : Int × Int × Bool := TWO n1 k1 n2 k2 (FIT (k1 + k2).toNat (n1 * n2))
def MID (n1 k1 n2 k2 : Int) : Int × Int × Bool := TWO n1 k1 n2 k2 (FIT ((mx k1 k2).toNat + 1) (SUM n1 k1 n2 k2))
def CMP (n1 k1 n2 k2 : Int) : Int × Bool := if (dyB n1 k1 && dyB n2 k2) = true then (sgnI (dv n1 k1 - dv n2 k2), true) else (0, false)
theorem two_both {n1 k1 n2 k2 : Int} (h : (dyB n1 k1 && dyB n2 k2) = true) : dyB n1 k1 = true ∧ dyB n2 k2 = true := by simpa using h
theorem add_impl (n1 k1 n2 k2 : Int) : Ev (fun z => impl_AddDyadic.f z n1 k1 n2 k2) (ADD n1 k1 n2 k2) := by
 unfold impl_AddDyadic.f
 exact two_impl (fun h => by obtain ⟨b1, b2⟩ := two_both h; have r1 := dyB_range _ _ b1; have r2 := dyB_range _ _ b2; exact sumOf_ev n1 k1 n2 k2 r1.2 r1.1 r2.2 r2.1)
theorem add_spec (n1 k1 n2 k2 : Int) : Ev (fun z => spec_AddDyadic.f z n1 k1 n2 k2) (ADD n1 k1 n2 k2) := by
 unfold spec_AddDyadic.f
 exact two_spec (fun h => by obtain ⟨b1, b2⟩ := two_both h; exact dyAdd_ev n1 k1 n2 k2 b1 b2)
theorem minus_eq (n k : Int) (h : dyB n k = true) : impl_minus.f n k = some (-n, k) := by
 have r := dyB_range _ _ h
 unfold impl_minus.f
 rw [show wrap64 (-n) = -n by unfold wrap64; omega]
theorem dyMinus_eq (n k : Int) (h : dyB n k = true) : spec_dyMinus.f n k = some (-n, k) := by
 have r := dyB_range _ _ h
 unfold spec_dyMinus.f
 rw [show wrap64 (-n) = -n by unfold wrap64; omega]
theorem sub_impl (n1 k1 n2 k2 : Int) : Ev (fun z => impl_SubtractDyadic.f z n1 k1 n2 k2) (SUB n1 k1 n2 k2) := by
 have jt : Ev (fun z => impl_SubtractDyadic.j0 z true n1 k1 n2 k2) (0, 0, false) := Ev.step (f := fun z => some (0, 0, false)) (fun z => rfl) (Ev.now _)
 unfold impl_SubtractDyadic.f SUB TWO
 refine Ev_bindS (isDyadic_eq _ _) (Ev_if (fun h1 => Ev_bindS (isDyadic_eq _ _) ?_) (fun h1 => by rw [if_neg (by rw [Bool.eq_false_iff.2 h1]; simp)]; exact jt))
 cases h2 : dyB n2 k2 with
 | false => rw [if_neg (by rw [h1]; decide)]; exact jt
 | true =>
  rw [if_pos (by rw [h1]; rfl)]
  have r1 := dyB_range _ _ h1
  have r2 := dyB_range _ _ h2
  refine Ev.step (fun z => rfl) ?_
  simp only [impl_SubtractDyadic.j0]
  exact Ev_if (fun h => by cases h) (fun _ => Ev_bindS (minus_eq n2 k2 h2) (Ev.bind (sumOf_ev n1 k1 (-n2) k2 r1.2 r1.1 ⟨by omega, by omega⟩ r2.1) (Ev.now _)))
theorem sub_spec (n1 k1 n2 k2 : Int) : Ev (fun z => spec_SubtractDyadic.f z n1 k1 n2 k2) (SUB n1 k1 n2 k2) := by
 unfold spec_SubtractDyadic.f
 refine two_spec (fun h => ?_)
 obtain ⟨b1, b2⟩ := two_both h
 unfold spec_dySub.f
 exact Ev_bindS (dyMinus_eq n2 k2 b2) (Ev.bind (dyAdd_ev n1 k1 (-n2) k2 b1 (dyB_neg _ _ b2)) (Ev.now _))
theorem mul_impl (n1 k1 n2 k2 : Int) : Ev (fun z => impl_MultiplyDyadic.f z n1 k1 n2 k2) (MUL n1 k1 n2 k2) := by
 unfold impl_MultiplyDyadic.f
 exact two_impl (fun h => by obtain ⟨b1, b2⟩ := two_both h; have r1 := dyB_range _ _ b1; have r2 := dyB_range _ _ b2; exact productOf_ev n1 k1 n2 k2 r1.2 r1.1 r2.2 r2.1)
theorem mul_spec (n1 k1 n2 k2 : Int) : Ev (fun z => spec_MultiplyDyadic.f z n1 k1 n2 k2) (MUL n1 k1 n2 k2) := by
 unfold spec_MultiplyDyadic.f
 exact two_spec (fun h => by obtain ⟨b1, b2⟩ := two_both h; have r1 := dyB_range _ _ b1; have r2 := dyB_range _ _ b2; exact dyMul_ev n1 k1 n2 k2 r1.2 r1.1 r2.2 r2.1)
theorem mid_impl (n1 k1 n2 k2 : Int) : Ev (fun z => impl_MiddleOf.f z n1 k1 n2 k2) (MID n1 k1 n2 k2) := by
 unfold impl_MiddleOf.f
 exact two_impl (fun h => by obtain ⟨b1, b2⟩ := two_both h; have r1 := dyB_range _ _ b1; have r2 := dyB_range _ _ b2; exact middleOf_ev n1 k1 n2 k2 r1.2 r1.1 r2.2 r2.1)
theorem mid_spec (n1 k1 n2 k2 : Int) : Ev (fun z => spec_MiddleOf.f z n1 k1 n2 k2) (MID n1 k1 n2 k2) := by
 unfold spec_MiddleOf.f
 exact two_spec (fun h => by obtain ⟨b1, b2⟩ := two_both h; exact dyHalf_ev n1 k1 n2 k2 b1 b2)
theorem cmp_impl (n1 k1 n2 k2 : Int) : Ev (fun z => impl_CompareDyadic.f z n1 k1 n2 k2) (CMP n1 k1 n2 k2) := by
 unfold impl_CompareDyadic.f CMP
 refine Ev_bindS (isDyadic_eq _ _) (Ev_if (fun h1 => Ev_bindS (isDyadic_eq _ _) (Ev_if (fun h2 => ?_) (fun h2 => ?_))) (fun h1 => ?_))
 ·rw [if_pos (by rw [h1, h2]; rfl)]
  have r1 := dyB_range _ _ h1
  have r2 := dyB_range _ _ h2
  exact Ev.bind (compareD_ev n1 k1 n2 k2 r1.2 r1.1 r2.2 r2.1) (Ev.now _)
 ·rw [if_neg (by rw [h1]; simpa using h2)]; exact Ev.now _
 ·rw [if_neg (by rw [Bool.eq_false_iff.2 h1]; simp)]; exact Ev.now _
theorem cmp_spec (n1 k1 n2 k2 : Int) : Ev (fun z => spec_CompareDyadic.f z n1 k1 n2 k2) (CMP n1 k1 n2 k2) := by
 unfold spec_CompareDyadic.f CMP
 refine Ev_bindS (dyTwo_eq _ _ _ _) (Ev_if (fun h => ?_) (fun h => ?_))
 ·rw [if_pos h]
  obtain ⟨b1, b2⟩ := two_both h
  have r1 := dyB_range _ _ b1
  have r2 := dyB_range _ _ b2
  exact Ev.bind (dyCmp_ev n1 k1 n2 k2 r1.2 r1.1 r2.2 r2.1) (Ev.now _)
 ·rw [if_neg h]; exact Ev.now _
def DOF (n k : Int) : Int × Int × Bool := if (decide (-1099511627776 ≤ n ∧ n ≤ 1099511627776) && decide (0 ≤ k ∧ k ≤ 40)) = true then FIT k.toNat n else (0, 0, false)
theorem dof_spec (n k : Int) : Ev (fun z => spec_DyadicOf.f z n k) (DOF n k) := by
 unfold spec_DyadicOf.f DOF
 refine Ev_bindS (l1In_eq _ _ _) (Ev_if (fun h1 => Ev_bindS (l1In_eq _ _ _) (Ev_if (fun h2 => ?_) (fun h2 => ?_))) (fun h1 => ?_))
 ·rw [if_pos (by rw [h1, h2]; rfl)]
  have h1 := of_decide_eq_true h1
  have h2 := of_decide_eq_true h2
  have f := dyMake_fit k.toNat n (by omega) (by omega)
  rw [Int.toNat_of_nonneg h2.1] at f
  exact Ev.bind f (Ev.now _)
 ·rw [if_neg (by rw [h1]; simpa using h2)]; exact Ev.now _
 ·rw [if_neg (by rw [Bool.eq_false_iff.2 h1]; simp)]; exact Ev.now _
theorem dof_impl (n k : Int) : Ev (fun z => impl_DyadicOf.f z n k) (DOF n k) := by
 have jt : Ev (fun z => impl_DyadicOf.j0 z n k true) (0, 0, false) := Ev.step (f := fun z => some (0, 0, false)) (fun z => rfl) (Ev.now _)
 unfold impl_DyadicOf.f DOF
 refine Ev_bindS (inside_eq _ _ _) (Ev_if (fun h1 => Ev_bindS (inside_eq _ _ _) ?_) (fun h1 => by rw [if_neg (by rw [Bool.eq_false_iff.2 h1]; simp)]; exact jt))
 cases h2 : decide (0 ≤ k ∧ k ≤ 40) with
 | false => rw [if_neg (by rw [h1]; decide)]; exact jt
 | true =>
  rw [if_pos (by rw [h1]; rfl)]
  have h1 := of_decide_eq_true h1
  have h2 := of_decide_eq_true h2
  obtain ⟨g, h, l, a1, a2, a3, a4, a5⟩ := wide_at n h1 0 (by omega)
  have hw := wideOf_eq n ⟨by omega, by omega⟩
  have f := fit_wv (decide (n < 0)) 0 ((n.natAbs : Nat) : Int) ⟨by omega, by omega⟩ ⟨by omega, by omega⟩ k.toNat (by omega)
  have hv : wv (decide (n < 0)) 0 ((n.natAbs : Nat) : Int) = n := by
   unfold wv
   by_cases h0 : n < 0
   ·rw [decide_eq_true h0, if_pos rfl]; omega
   ·rw [decide_eq_false h0, if_neg (by decide)]; omega
  rw [hv, Int.toNat_of_nonneg h2.1] at f
  refine Ev.step (fun z => rfl) ?_
  simp only [impl_DyadicOf.j0]
  exact Ev_if (fun h => by cases h) (fun _ => Ev_bindS hw (Ev.bind f (Ev.now _)))
def BY (c : List Int) : Prop := ∀ x ∈ c, 0 ≤ x ∧ x < 256
theorem and255 (a : Int) : 0 ≤ Go.bits .and .u64 a 255 ∧ Go.bits .and .u64 a 255 ≤ 255 := by
 have h64 : IntKind.u64.bits = 64 := rfl
 have e : (BitVec.ofInt IntKind.u64.bits 255).toNat = 255 := by decide
 unfold Go.bits
 simp only [BitVec.toNat_and, e]
 have h : (BitVec.ofInt IntKind.u64.bits a).toNat &&& 255 ≤ 255 := Nat.and_le_right
 rw [u64r _ ⟨by omega, by omega⟩]
 omega
theorem and255w (a : Int) : 0 ≤ wrap64 (Go.bits .and .u64 a 255) ∧ wrap64 (Go.bits .and .u64 a 255) < 256 := by
 have := and255 a
 generalize Go.bits .and .u64 a 255 = y at *
 unfold wrap64; omega
theorem cur_next (c : List Int) (hc : BY c) (a s : Int) (h : 0 ≤ a ∧ a ≤ 4611686018427387904) : ∃ r s', spec_l1Cur_next.f c a s = some (r, a + 1, s') ∧ 0 ≤ r ∧ r < 256 := by
 have w1 : wrap64 (a + 1) = a + 1 := by unfold wrap64; omega
 have hr : a < (c.length : Int) → 0 ≤ rd c a ∧ rd c a < 256 := by
  intro hl
  obtain ⟨i, rfl⟩ := Int.eq_ofNat_of_zero_le h.1
  exact hc _ (rd_mem c i (by omega))
 unfold spec_l1Cur_next.f
 rw [w1]
 by_cases h1 : a < (c.length : Int)
 ·have hr := hr h1
  rw [if_pos h1, if_pos h.1]
  by_cases h2 : a + 1 ≤ (c.length : Int)
  ·rw [if_pos h2]
   exact ⟨_, _, rfl, by unfold wrap64; omega, by unfold wrap64; omega⟩
  ·rw [if_neg h2]
   exact ⟨_, _, rfl, (and255w _).1, (and255w _).2⟩
 ·rw [if_neg h1]
  by_cases h2 : a + 1 ≤ (c.length : Int)
  ·rw [if_pos h2]; exact ⟨_, _, rfl, by omega, by omega⟩
  ·rw [if_neg h2]
   exact ⟨_, _, rfl, (and255w _).1, (and255w _).2⟩
theorem cur_pick (c : List Int) (hc : BY c) (a s n M : Int) (h : 0 ≤ a ∧ a ≤ M) (hM : M ≤ 4000000000000000000) (hn : 1 ≤ n) : ∃ r a' s', spec_l1Cur_pick.f c a s n = some (r, a', s') ∧ (0 ≤ r ∧ r < n) ∧ (0 ≤ a' ∧ a' ≤ M + 2) := by
 have tm : ∀ x : Int, 0 ≤ x → 0 ≤ Int.tmod x n ∧ Int.tmod x n < n := fun x hx => ⟨Int.tmod_nonneg n hx, Int.tmod_lt_of_pos x (by omega)⟩
 unfold spec_l1Cur_pick.f
 by_cases h1 : n ≤ 1
 ·rw [if_pos h1]; exact ⟨_, _, _, rfl, ⟨by omega, by omega⟩, ⟨h.1, by omega⟩⟩
 ·rw [if_neg h1]
  obtain ⟨r, s1, e1, r0, r1⟩ := cur_next c hc a s ⟨h.1, by omega⟩
  rw [e1, Option.bind_some]
  by_cases h2 : n > 200
  ·rw [if_pos h2]
   obtain ⟨q, s2, e2, q0, q1⟩ := cur_next c hc (a + 1) s1 ⟨by omega, by omega⟩
   simp only
   rw [e2, Option.bind_some, if_neg (by omega)]
   exact ⟨_, a + 1 + 1, s2, rfl, tm _ (by unfold wrap64; omega), ⟨by omega, by omega⟩⟩
  ·rw [if_neg h2, if_neg (by omega)]
   exact ⟨_, a + 1, s1, rfl, tm _ r0, ⟨by omega, by omega⟩⟩
theorem cur_among (c : List Int) (hc : BY c) (a s M : Int) (l : List Int) (h : 0 ≤ a ∧ a ≤ M) (hM : M ≤ 4000000000000000000) (hl : 1 ≤ l.length) : ∃ r a' s', spec_l1Cur_among.f c a s l = some (r, a', s') ∧ r ∈ l ∧ (0 ≤ a' ∧ a' ≤ M + 2) := by
 obtain ⟨i, a', s', e, hi, ha⟩ := cur_pick c hc a s (l.length : Int) M h hM (by omega)
 unfold spec_l1Cur_among.f
 rw [e, Option.bind_some, if_pos hi.1, if_pos hi.2]
 refine ⟨_, _, _, rfl, ?_, ha⟩
 obtain ⟨j, rfl⟩ := Int.eq_ofNat_of_zero_le hi.1
 exact rd_mem l j (by omega)
theorem cur_one (c : List Int) (hc : BY c) (a s n M : Int) (h : 0 ≤ a ∧ a ≤ M) (hM : M ≤ 4000000000000000000) (hn : 1 ≤ n) : ∃ r a' s', spec_l1Cur_one.f c a s n = some (r, a', s') ∧ (0 ≤ a' ∧ a' ≤ M + 2) := by
 obtain ⟨i, a', s', e, hi, ha⟩ := cur_pick c hc a s n M h hM hn
 unfold spec_l1Cur_one.f
 rw [e, Option.bind_some]
 exact ⟨_, _, _, rfl, ha⟩
theorem FIT_valid (k : Nat) (n : Int) : (FIT k n).2.2 = true → dyB (FIT k n).1 (FIT k n).2.1 = true := by
 intro h
 obtain ⟨x, y, z, hf⟩ : ∃ x y z, FIT k n = (x, y, z) := ⟨_, _, _, rfl⟩
 rw [hf] at h ⊢
 simp only at h
 subst h
 exact (FIT_some k n x y hf).1
theorem cur_dy_end (a s : Int) (r : Int × Int × Bool) (h : r.2.2 = true → dyB r.1 r.2.1 = true) : ∃ n k, Ev (fun (_ : Nat) => if r.2.2 = true then some (r.1, r.2.1, a, s) else (spec_dyInt.f 1).bind fun b => some (b.1, b.2, a, s)) (n, k, a, s) ∧ dyB n k = true := by
 obtain ⟨x, y, ok⟩ := r
 cases ok with
 | true => exact ⟨x, y, Ev_if (fun _ => Ev.now _) (fun h => (h (by trivial)).elim), h rfl⟩
 | false => exact ⟨1, 0, Ev_if (fun h => by cases h) (fun _ => Ev.now _), by decide⟩
theorem cur_dyadic (c : List Int) (hc : BY c) (a s M : Int) (h : 0 ≤ a ∧ a ≤ M) (hM : M ≤ 3000000000000000000) : ∃ n k a' s', Ev (fun z => spec_l1Cur_dyadic.f z c a s) (n, k, a', s') ∧ dyB n k = true ∧ (0 ≤ a' ∧ a' ≤ M + 14) := by
 obtain ⟨r1, a1, s1, e1, p1, q1⟩ := cur_pick c hc a s 65 M h (by omega) (by omega)
 obtain ⟨r2, a2, s2, e2, p2, q2⟩ := cur_pick c hc a1 s1 60000 (M + 2) q1 (by omega) (by omega)
 obtain ⟨r3, a3, s3, e3, p3, q3⟩ := cur_among c hc a2 s2 (M + 2 + 2) [0, 1, (-1), 3, (-5), 7, wrap64 (r1 - 32), wrap64 (r2 - 30000)] q2 (by omega) (by simp)
 obtain ⟨r4, a4, s4, e4, p4, q4⟩ := cur_among c hc a3 s3 (M + 2 + 2 + 2) [0, 0, 1, 2, 3, 8, 16, 24] q3 (by omega) (by decide)
 obtain ⟨b5, a5, s5, e5, q5⟩ := cur_one c hc a4 s4 16 (M + 2 + 2 + 2 + 2) q4 (by omega) (by omega)
 have h3 : -60000 ≤ r3 ∧ r3 ≤ 60000 := by
  rw [show wrap64 (r1 - 32) = r1 - 32 by unfold wrap64; omega, show wrap64 (r2 - 30000) = r2 - 30000 by unfold wrap64; omega] at p3
  simp at p3; omega
 have h4 : 0 ≤ r4 ∧ r4 ≤ 24 := by simp at p4; omega
 have f1 := dyMake_fit r4.toNat r3 (by omega) (by omega)
 rw [Int.toNat_of_nonneg h4.1] at f1
 unfold spec_l1Cur_dyadic.f
 cases b5 with
 | true =>
  obtain ⟨r6, a6, s6, e6, p6, q6⟩ := cur_among c hc a5 s5 (M + 2 + 2 + 2 + 2 + 2) [1099511627776, (-1099511627776), 1099511627775, (-1099511627775)] q5 (by omega) (by decide)
  obtain ⟨r7, a7, s7, e7, p7, q7⟩ := cur_among c hc a6 s6 (M + 2 + 2 + 2 + 2 + 2 + 2) [0, 1, 24] q6 (by omega) (by decide)
  have h6 : -1099511627776 ≤ r6 ∧ r6 ≤ 1099511627776 := by simp at p6; omega
  have h7 : 0 ≤ r7 ∧ r7 ≤ 24 := by simp at p7; omega
  have f2 := dyMake_fit r7.toNat r6 (by omega) (by omega)
  rw [Int.toNat_of_nonneg h7.1] at f2
  obtain ⟨n, k, g1, g2⟩ := cur_dy_end a7 s7 (FIT r7.toNat r6) (FIT_valid _ _)
  exact ⟨n, k, a7, s7, Ev_bindS e1 (Ev_bindS e2 (Ev_bindS e3 (Ev_bindS e4 (Ev.bind f1 (Ev_bindS e5 (Ev_if (fun _ => Ev_bindS e6 (Ev_bindS e7 (Ev.bind f2 g1))) (fun h => (h (by trivial)).elim))))))), g2, by omega⟩
 | false =>
  obtain ⟨n, k, g1, g2⟩ := cur_dy_end a5 s5 (FIT r4.toNat r3) (FIT_valid _ _)
  exact ⟨n, k, a5, s5, Ev_bindS e1 (Ev_bindS e2 (Ev_bindS e3 (Ev_bindS e4 (Ev.bind f1 (Ev_bindS e5 (Ev_if (fun h => by cases h) (fun _ => g1))))))), g2, by omega⟩
theorem cur_anyDyadic (c : List Int) (hc : BY c) (a s M : Int) (h : 0 ≤ a ∧ a ≤ M) (hM : M ≤ 2000000000000000000) : ∃ n k a' s', Ev (fun z => spec_l1Cur_anyDyadic.f z c a s) (n, k, a', s') ∧ (0 ≤ a' ∧ a' ≤ M + 20) := by
 obtain ⟨n, k, a1, s1, e1, _, q1⟩ := cur_dyadic c hc a s M h (by omega)
 obtain ⟨r2, a2, s2, e2, p2, q2⟩ := cur_pick c hc a1 s1 30 (M + 14) q1 (by omega) (by omega)
 unfold spec_l1Cur_anyDyadic.f
 by_cases h0 : r2 = 0
 ·obtain ⟨r3, a3, s3, e3, p3, q3⟩ := cur_among c hc a2 s2 (M + 14 + 2) [(-1), 25, 4611686018427387904] q2 (by omega) (by decide)
  exact ⟨n, r3, a3, s3, Ev.bind e1 (Ev_bindS e2 (Ev_if (fun _ => Ev_bindS e3 (Ev.now _)) (fun h => absurd h0 h))), by omega⟩
 ·by_cases h1 : r2 = 1
  ·obtain ⟨r3, a3, s3, e3, p3, q3⟩ := cur_among c hc a2 s2 (M + 14 + 2) [1099511627777, (-1099511627777), (-9223372036854775808)] q2 (by omega) (by decide)
   exact ⟨r3, k, a3, s3, Ev.bind e1 (Ev_bindS e2 (Ev_if (fun h => absurd h h0) (fun _ => Ev_if (fun _ => Ev_bindS e3 (Ev.now _)) (fun h => absurd h1 h)))), by omega⟩
  ·by_cases h2 : r2 = 2
   ·obtain ⟨r3, a3, s3, e3, p3, q3⟩ := cur_pick c hc a2 s2 9 (M + 14 + 2) q2 (by omega) (by omega)
    obtain ⟨r4, a4, s4, e4, p4, q4⟩ := cur_pick c hc a3 s3 4 (M + 14 + 2 + 2) q3 (by omega) (by omega)
    exact ⟨_, _, a4, s4, Ev.bind e1 (Ev_bindS e2 (Ev_if (fun h => absurd h h0) (fun _ => Ev_if (fun h => absurd h h1) (fun _ => Ev_if (fun _ => Ev_bindS e3 (Ev_bindS e4 (Ev.now _))) (fun h => absurd h2 h))))), by omega⟩
   ·exact ⟨n, k, a2, s2, Ev.bind e1 (Ev_bindS e2 (Ev_if (fun h => absurd h h0) (fun _ => Ev_if (fun h => absurd h h1) (fun _ => Ev_if (fun h => absurd h h2) (fun _ => Ev.now _))))), by omega⟩
theorem draw_add (c : List Int) (hc : BY c) : ∃ n k m j, Ev (fun z => spec_DrawAddDyadic.f z c) (n, k, m, j) := by
 obtain ⟨n, k, a1, s1, e1, q1⟩ := cur_anyDyadic c hc 0 0 0 ⟨by omega, by omega⟩ (by omega)
 obtain ⟨b2, a2, s2, e2, q2⟩ := cur_one c hc a1 s1 6 (0 + 20) q1 (by omega) (by omega)
 obtain ⟨m, j, a3, s3, e3, q3⟩ := cur_anyDyadic c hc a2 s2 (0 + 20 + 2) q2 (by omega)
 have jf : Ev (fun z => spec_DrawAddDyadic.j0 z false c a2 s2 n k) (n, k, m, j) := by
  refine Ev.step (fun z => rfl) ?_
  simp only [spec_DrawAddDyadic.j0]
  exact Ev_if (fun h => by cases h) (fun _ => Ev.bind e3 (Ev.now _))
 have jt : dyB n k = true → Ev (fun z => spec_DrawAddDyadic.j0 z true c a2 s2 n k) (n, k, -n, k) := by
  intro hb
  refine Ev.step (fun z => rfl) ?_
  simp only [spec_DrawAddDyadic.j0]
  exact Ev_if (fun _ => Ev_bindS (dyMinus_eq n k hb) (Ev.now _)) (fun h => (h (by trivial)).elim)
 unfold spec_DrawAddDyadic.f
 cases b2 with
 | false => exact ⟨n, k, m, j, Ev.bind e1 (Ev_bindS e2 (Ev_if (fun h => by cases h) (fun _ => jf)))⟩
 | true =>
  cases hb : dyB n k with
  | true => exact ⟨n, k, -n, k, Ev.bind e1 (Ev_bindS e2 (Ev_if (fun _ => Ev_bindS (dyGood_eq n k) (by rw [hb]; exact jt hb)) (fun h => (h (by trivial)).elim)))⟩
  | false => exact ⟨n, k, m, j, Ev.bind e1 (Ev_bindS e2 (Ev_if (fun _ => Ev_bindS (dyGood_eq n k) (by rw [hb]; exact jf)) (fun h => (h (by trivial)).elim)))⟩
theorem draw_cmp (c : List Int) (hc : BY c) : ∃ n k m j, Ev (fun z => spec_DrawCompareDyadic.f z c) (n, k, m, j) := by
 obtain ⟨n, k, a1, s1, e1, q1⟩ := cur_anyDyadic c hc 0 0 0 ⟨by omega, by omega⟩ (by omega)
 obtain ⟨b2, a2, s2, e2, q2⟩ := cur_one c hc a1 s1 4 (0 + 20) q1 (by omega) (by omega)
 obtain ⟨m, j, a3, s3, e3, q3⟩ := cur_anyDyadic c hc a2 s2 (0 + 20 + 2) q2 (by omega)
 unfold spec_DrawCompareDyadic.f
 cases b2 with
 | true => exact ⟨n, k, n, k, Ev.bind e1 (Ev_bindS e2 (Ev_if (fun _ => Ev.now _) (fun h => (h (by trivial)).elim)))⟩
 | false => exact ⟨n, k, m, j, Ev.bind e1 (Ev_bindS e2 (Ev_if (fun h => by cases h) (fun _ => Ev.bind e3 (Ev.now _))))⟩
theorem draw_of (c : List Int) (hc : BY c) : ∃ n k, spec_DrawDyadicOf.f c = some (n, k) := by
 obtain ⟨r1, a1, s1, e1, p1, q1⟩ := cur_pick c hc 0 0 60000 0 ⟨by omega, by omega⟩ (by omega) (by omega)
 obtain ⟨r2, a2, s2, e2, p2, q2⟩ := cur_among c hc a1 s1 (0 + 2) [0, 1, (-6), 96, wrap64 (r1 - 30000), 1099511627776, (-1099511627776), 1099511627777, (-9223372036854775808)] q1 (by omega) (by simp)
 obtain ⟨r3, a3, s3, e3, p3, q3⟩ := cur_among c hc a2 s2 (0 + 2 + 2) [41, (-1)] q2 (by omega) (by decide)
 obtain ⟨r4, a4, s4, e4, p4, q4⟩ := cur_among c hc a3 s3 (0 + 2 + 2 + 2) [0, 1, 5, 24, 25, 40, r3] q3 (by omega) (by simp)
 unfold spec_DrawDyadicOf.f
 rw [e1, Option.bind_some]
 simp only
 rw [e2, Option.bind_some]
 simp only
 rw [e3, Option.bind_some]
 simp only
 rw [e4, Option.bind_some]
 exact ⟨_, _, rfl⟩
theorem BY_of (l : List Int) (h : ∀ x ∈ l, (Lit.int .u8 x).wf = true) : BY l := by
 intro x hx
 have := h x hx
 simp [Lit.wf, IntKind.min, IntKind.max, IntKind.signed, IntKind.bits] at this
 omega
theorem Ev_no {α : Type} {c : Prop} [Decidable c] {f : Nat → Option α} {g : Nat → Option α} {r : α} (hc : ¬ c) (h : Ev f r) : Ev (fun z => if c then g z else f z) r := Ev_if (fun h2 => absurd h2 hc) (fun _ => h)
theorem Ev_yes {α : Type} {c : Prop} [Decidable c] {f : Nat → Option α} {g : Nat → Option α} {r : α} (hc : c) (h : Ev f r) : Ev (fun z => if c then f z else g z) r := Ev_if (fun _ => h) (fun h2 => absurd hc h2)
theorem same3 (r : Int × Int × Bool) : ¬ (!(r.1 == r.1) || (!(r.2.1 == r.2.1))) = true := by simp
theorem sgn_opp (x : Int) : sgnI (-x) = -sgnI x := by unfold sgnI; split <;> split <;> (try split) <;> (try split) <;> omega
theorem sgn_eq0 (x : Int) : sgnI x = 0 ↔ x = 0 := by unfold sgnI; split <;> (try split) <;> omega
theorem sgn_rng (x : Int) : -1 ≤ sgnI x ∧ sgnI x ≤ 1 := by unfold sgnI; split <;> (try split) <;> omega
theorem dy_j3 (c : List Int) (hc : BY c) : Ev (fun z => laws_FnDyadics.j3 z c) true := by
 obtain ⟨n, k, e⟩ := draw_of c hc
 refine Ev.step (fun z => rfl) ?_
 simp only [laws_FnDyadics.j3]
 exact Ev_bindS e (Ev.bind (dof_impl n k) (Ev.bind (dof_spec n k) (Ev_yes (by simp) (Ev_eq (Ev.now _) (by simp)))))
theorem dy_j2 (c : List Int) (hc : BY c) : Ev (fun z => laws_FnDyadics.j2 z c) true := by
 obtain ⟨n, k, m, j, e⟩ := draw_cmp c hc
 refine Ev.step (fun z => rfl) ?_
 simp only [laws_FnDyadics.j2]
 refine Ev.bind e (Ev.bind (cmp_impl n k m j) (Ev.bind (cmp_spec n k m j) (Ev_no (by simp) (Ev_yes rfl (Ev_if (fun ht => ?_) (fun _ => dy_j3 c hc))))))
 by_cases hv : (dyB n k && dyB m j) = true
 ·have hv2 : (dyB m j && dyB n k) = true := by rw [Bool.and_comm]; exact hv
  have c1 : CMP n k m j = (sgnI (dv n k - dv m j), true) := by unfold CMP; rw [if_pos hv]
  have c2 : CMP m j n k = (sgnI (dv m j - dv n k), true) := by unfold CMP; rw [if_pos hv2]
  obtain ⟨b1, b2⟩ := two_both hv
  have ci := cmp_impl m j n k
  have hr := sgn_rng (dv n k - dv m j)
  rw [c2] at ci
  rw [c1]
  refine Ev.bind ci (Ev_yes rfl (Ev_yes ?_ (Ev_no ?_ (dy_j3 c hc))))
  ·simp only
   rw [show dv m j - dv n k = -(dv n k - dv m j) by omega, sgn_opp]
   unfold wrap64; omega
  ·simp only
   by_cases he : n = m ∧ k = j
   ·obtain ⟨rfl, rfl⟩ := he
    simp [sgnI]
   ·have h0 : ¬ sgnI (dv n k - dv m j) = 0 := by
     rw [sgn_eq0]
     intro h; exact he (dv_one n k m j b1 b2 (by omega))
    have h1 : (sgnI (dv n k - dv m j) == 0) = false := by simpa using h0
    have h2 : (n == m && (k == j)) = false := by
     rw [Bool.eq_false_iff]; intro h; apply he; simpa using h
    rw [h1, h2]; decide
 ·exfalso
  unfold CMP at ht
  rw [if_neg hv] at ht
  cases ht
theorem dy_j1 (c : List Int) (hc : BY c) (n k m j : Int) : Ev (fun z => laws_FnDyadics.j1 z c (MID n k m j).2.2 n k m j (MID n k m j).1 (MID n k m j).2.1) true := by
 refine Ev.step (fun z => rfl) ?_
 simp only [laws_FnDyadics.j1]
 refine Ev_if (fun ht => ?_) (fun _ => dy_j2 c hc)
 obtain ⟨x, y, ok, hf⟩ : ∃ x y ok, MID n k m j = (x, y, ok) := ⟨_, _, _, rfl⟩
 rw [hf] at ht ⊢
 simp only at ht ⊢
 subst ht
 by_cases hv : (dyB n k && dyB m j) = true
 ·obtain ⟨b1, b2⟩ := two_both hv
  have r1 := dyB_range _ _ b1
  have r2 := dyB_range _ _ b2
  unfold MID TWO at hf
  rw [if_pos hv] at hf
  obtain ⟨m1, m2, m3⟩ := mx_le k j
  have b3 := (FIT_some _ _ _ _ hf).1
  have hd := (FIT_half (mx k j).toNat (by omega) _ x y b3).1 hf
  have hs := dv_sum n k m j r1.1 r2.1
  unfold SUM at hd
  rw [← hs] at hd
  have c1 : CMP n k x y = (sgnI (dv n k - dv x y), true) := by unfold CMP; rw [if_pos (by rw [b1, b3]; rfl)]
  have c2 : CMP x y m j = (sgnI (dv x y - dv m j), true) := by unfold CMP; rw [if_pos (by rw [b2, b3]; rfl)]
  have i1 := cmp_impl n k x y
  have i2 := cmp_impl x y m j
  rw [c1] at i1
  rw [c2] at i2
  refine Ev.bind i1 (Ev.bind i2 (Ev_yes rfl (Ev_yes rfl (Ev_yes ?_ (dy_j2 c hc)))))
  simp only
  rw [show dv n k - dv x y = dv x y - dv m j by omega]
 ·exfalso
  unfold MID TWO at hf
  rw [if_neg hv] at hf
  cases hf
theorem MUL_comm (n k m j : Int) : MUL m j n k = MUL n k m j := by
 unfold MUL TWO
 rw [Bool.and_comm, Int.mul_comm, Int.add_comm]
theorem ADD_comm (n k m j : Int) : ADD m j n k = ADD n k m j := by
 unfold ADD TWO
 have e : mx j k = mx k j := by unfold mx; split <;> split <;> omega
 rw [Bool.and_comm, e]
 unfold SUM
 rw [e, Int.add_comm]
theorem TWO_valid {n k m j : Int} {K : Nat} {R x y : Int} (h : TWO n k m j (FIT K R) = (x, y, true)) : dyB n k = true ∧ dyB m j = true ∧ FIT K R = (x, y, true) ∧ dyB x y = true := by
 unfold TWO at h
 by_cases hv : (dyB n k && dyB m j) = true
 ·rw [if_pos hv] at h
  obtain ⟨b1, b2⟩ := two_both hv
  exact ⟨b1, b2, h, (FIT_some _ _ _ _ h).1⟩
 ·rw [if_neg hv] at h; cases h
theorem isD_ev (n k : Int) (h : dyB n k = true) : impl_IsDyadic.f n k = some true := by
 unfold impl_IsDyadic.f; rw [isDyadic_eq, h]; rfl
theorem dy_j0 (c : List Int) (hc : BY c) (n k m j : Int) : Ev (fun z => laws_FnDyadics.j0 z c (MUL n k m j).2.2 (MID n k m j).2.2 n k m j (MUL n k m j).1 (MUL n k m j).2.1 (MUL n k m j).1 (MUL n k m j).2.1 (MID n k m j).1 (MID n k m j).2.1) true := by
 refine Ev.step (fun z => rfl) ?_
 simp only [laws_FnDyadics.j0]
 refine Ev_if (fun ht => ?_) (fun _ => dy_j1 c hc n k m j)
 have hm := mul_impl m j n k
 rw [MUL_comm] at hm
 refine Ev.bind hm (Ev_yes ht (Ev_no (same3 _) (Ev_bindS (isD_ev _ _ ?_) (Ev_yes rfl (dy_j1 c hc n k m j)))))
 obtain ⟨x, y, ok, hf⟩ : ∃ x y ok, MUL n k m j = (x, y, ok) := ⟨_, _, _, rfl⟩
 rw [hf] at ht ⊢
 simp only at ht ⊢
 subst ht
 exact (TWO_valid hf).2.2.2
theorem dy_f (l0 l1 : List Int) (h0 : BY l0) (h1 : BY l1) (hl : l0.length ≤ 140737488351232) : Ev (fun z => laws_FnDyadics.f z l0 l1) true := by
 have hb : ∃ b, laws_big.f l0 l1 = some b := by
  unfold laws_big.f; split <;> exact ⟨_, rfl⟩
 obtain ⟨b, hb⟩ := hb
 obtain ⟨n, k, m, j, e⟩ := draw_add l0 h0
 unfold laws_FnDyadics.f
 refine Ev_bindS hb (Ev_if (fun _ => Ev.now _) (fun _ => ?_))
 refine Ev.bind e (Ev.bind (add_impl n k m j) (Ev.bind (add_spec n k m j) (Ev.bind (sub_impl n k m j) (Ev.bind (sub_spec n k m j) (Ev.bind (mul_impl n k m j) (Ev.bind (mul_spec n k m j) (Ev.bind (mid_impl n k m j) (Ev.bind (mid_spec n k m j) ?_))))))))
 refine Ev_no (by simp) (Ev_no (same3 _) (Ev_no (by simp) (Ev_no (same3 _) (Ev_no (by simp) (Ev_no (same3 _) (Ev_no (by simp) (Ev_no (same3 _) (Ev_if (fun ht => ?_) (fun _ => dy_j0 l1 h1 n k m j)))))))))
 have ha := add_impl m j n k
 rw [ADD_comm] at ha
 obtain ⟨x, y, ok, hf⟩ : ∃ x y ok, ADD n k m j = (x, y, ok) := ⟨_, _, _, rfl⟩
 rw [hf] at ha ht ⊢
 simp only at ht ⊢
 subst ht
 obtain ⟨b1, b2, b3, b4⟩ := TWO_valid hf
 have r1 := dyB_range _ _ b1
 have r2 := dyB_range _ _ b2
 have r4 := dyB_range _ _ b4
 have hback : SUB x y m j = (n, k, true) := by
  obtain ⟨m1, m2, m3⟩ := mx_le k j
  obtain ⟨q1, q2, q3⟩ := mx_le y j
  have hd := (FIT_dv (mx k j).toNat (by omega) _ x y b4).1 b3
  have hs := dv_sum n k m j r1.1 r2.1
  have hs2 := dv_sum x y (-m) j r4.1 r2.1
  unfold SUM at hd
  rw [← hs] at hd
  rw [dv_neg] at hs2
  unfold SUB TWO
  rw [if_pos (by rw [b4, b2]; rfl)]
  apply (FIT_dv (mx y j).toNat (by omega) _ n k b1).2
  unfold SUM
  rw [← hs2]; omega
 have hs := sub_impl x y m j
 rw [hback] at hs
 exact Ev.bind hs (Ev.bind ha (Ev_yes rfl (Ev_no (by simp) (Ev_yes rfl (Ev_no (by simp) (Ev_bindS (isD_ev x y b4) (Ev_yes rfl (dy_j0 l1 h1 n k m j))))))))
theorem FnDyadics_pure : laws_FnDyadics.Pure := by
 intro l0 l1 _ h0 h1 _ _ h2
 exact (dy_f l0 l1 (BY_of l0 h1) (BY_of l1 h2) (by omega)).rounds
end Go.Proofs.Ytneceomekgophaa.QDys
namespace Go.Proofs.Ytneceomekgophaa.Pure
theorem FnDyadics : QDys.laws_FnDyadics.Pure := QDys.FnDyadics_pure
end Go.Proofs.Ytneceomekgophaa.Pure
