import Derived.Test.YtalcohajbcijlaaZHasPointLHasPoint
namespace Go.Proofs.Ytalcohajbcijlaa.QHps
open Go.RowKit Go.Proofs.YtalcohajbcijlaaW.PrintWords Go.Proofs.YtalcohajbcijlaaW.PrintLast Go.Proofs.YtalcohajbcijlaaW.PrintMore
set_option linter.unusedVariables false
set_option linter.unusedSimpArgs false
theorem Ev_if {α : Type} {c : Prop} [Decidable c] {g f : Nat → Option α} {r : α} (hp : c → Ev g r) (hn : ¬ c → Ev f r) : Ev (fun k => if c then g k else f k) r := by
 by_cases h : c
 ·simp only [if_pos h]; exact hp h
 ·simp only [if_neg h]; exact hn h
theorem Ev_bindS {α β : Type} {a : Option α} {x : α} {f : Nat → α → Option β} {r : β} (h : a = some x) (k : Ev (fun n => f n x) r) : Ev (fun n => a.bind (f n)) r := by
 subst h; simpa only [Option.bind_some] using k
theorem Ev_eq {α : Type} {g : Nat → Option α} {r r' : α} (h : Ev g r) (e : r = r') : Ev g r' := e ▸ h
theorem Ev_both {α β : Type} {g : Nat → Option α} {f : Nat → Option β} {r : α} {q : β} (h : Ev g r) (h' : Ev f q) : ∃ ks ki, g ks = some r ∧ f ki = some q := by
 obtain ⟨a, ha⟩ := h.rounds
 obtain ⟨b, hb⟩ := h'.rounds
 exact ⟨a, b, ha, hb⟩
theorem l1In_eq (a b c : Int) : spec_l1In.f a b c = some (decide (b ≤ a ∧ a ≤ c)) := by
 unfold spec_l1In.f; by_cases h : b ≤ a <;> simp [h]
theorem inside_eq (a b c : Int) : impl_inside.f a b c = some (decide (b ≤ a ∧ a ≤ c)) := by
 unfold impl_inside.f; by_cases h : b ≤ a <;> simp [h]
theorem wrap_next (i : Nat) (h : i < 9223372036854775807) : wrap64 ((i : Int) + 1) = ((i + 1 : Nat) : Int) := by unfold wrap64; omega
def sgnI (x : Int) : Int := if x > 0 then 1 else if x < 0 then -1 else 0
theorem l1Sign_eq (x : Int) : spec_l1Sign.f x = some (sgnI x) := by
 unfold spec_l1Sign.f sgnI; split
 ·rfl
 ·split <;> rfl
theorem u64r (n : Int) (h : 0 ≤ n ∧ n < 18446744073709551616) : IntKind.u64.wrap n = n := by simp [IntKind.wrap, IntKind.signed, IntKind.bits]; omega
theorem u64m (n : Int) : IntKind.u64.wrap n = n % 18446744073709551616 := by simp [IntKind.wrap, IntKind.signed, IntKind.bits]
theorem or64 (a b : Int) (n : Nat) (ha : 0 ≤ a) (hb : 0 ≤ b ∧ b < 2 ^ n) (hab : a * 2 ^ n + b < 18446744073709551616) : Go.bits .or .u64 (a * 2 ^ n) b = a * 2 ^ n + b := by
 obtain ⟨x, rfl⟩ := Int.eq_ofNat_of_zero_le ha
 obtain ⟨y, rfl⟩ := Int.eq_ofNat_of_zero_le hb.1
 have hy : y < 2 ^ n := by have := hb.2; exact_mod_cast this
 have e1 : (x : Int) * 2 ^ n = ((2 ^ n * x : Nat) : Int) := by push_cast; rw [Int.mul_comm]
 have hor := Nat.two_pow_add_eq_or_of_lt hy x
 have h64 : IntKind.u64.bits = 64 := rfl
 rw [e1] at hab ⊢
 obtain ⟨z, hz⟩ : ∃ z, 2 ^ n * x = z := ⟨_, rfl⟩
 rw [hz] at hab hor ⊢
 unfold Go.bits
 simp only [h64, BitVec.toNat_or, BitVec.ofInt_natCast, BitVec.toNat_ofNat]
 rw [Nat.mod_eq_of_lt (show z < 2 ^ 64 by omega), Nat.mod_eq_of_lt (show y < 2 ^ 64 by omega), ← hor]
 rw [u64r _ ⟨by omega, by omega⟩]
 push_cast; rfl
theorem shl64 (x : Int) (s : Nat) (h : s ≤ 64) : shl .u64 x (s : Int) = x * 2 ^ s % 18446744073709551616 := by
 unfold shl
 rw [Int.toNat_natCast, Nat.min_eq_left (by show s ≤ 64; exact h), u64m]
theorem shr64 (x : Int) (s : Nat) (h : s ≤ 64) : shr .u64 x (s : Int) = x / 2 ^ s := by
 unfold shr
 rw [Int.toNat_natCast, Nat.min_eq_left (by show s ≤ 64; exact h)]
theorem split64 (m : Int) (s : Nat) (h : s ≤ 64) : m * 2 ^ s / 18446744073709551616 = m / 2 ^ (64 - s) := by
 have e : (18446744073709551616 : Int) = 2 ^ (64 - s) * 2 ^ s := by rw [← Int.pow_add, show 64 - s + s = 64 by omega]; rfl
 rw [e, Int.mul_ediv_mul_of_pos_left _ _ (Int.pow_pos (by omega))]
theorem pow1 (n : Nat) : (1 : Int) ≤ 2 ^ n := Int.pow_pos (by omega)
theorem pow_split (a b : Nat) (h : b ≤ a) : (2 : Int) ^ a = 2 ^ (a - b) * 2 ^ b := by rw [← Int.pow_add, show a - b + b = a by omega]
theorem pow_le2 (a b : Nat) (h : a ≤ b) : (2 : Int) ^ a ≤ 2 ^ b := by have := Nat.pow_le_pow_right (show 0 < 2 by omega) h; exact_mod_cast this
theorem pow62 (n : Nat) (h : n ≤ 62) : (2 : Int) ^ n ≤ 4611686018427387904 := by
 have h1 := pow_le2 n 62 h
 have h2 : (2 : Int) ^ 62 = 4611686018427387904 := by decide
 omega
theorem sgn_mul (c x : Int) (h : 0 < c) : sgnI (c * x) = sgnI x := by
 unfold sgnI
 by_cases h1 : x > 0
 ·rw [if_pos (Int.mul_pos h h1), if_pos h1]
 ·rw [if_neg h1]
  by_cases h2 : x < 0
  ·have := Int.mul_neg_of_pos_of_neg h h2
   rw [if_neg (by omega), if_pos this, if_pos h2]
  ·have : x = 0 := by omega
   subst this; rw [if_neg (by simp), if_neg (by simp), if_neg (by omega)]
theorem sgn_pos (x : Int) (h : 0 < x) : sgnI x = 1 := by unfold sgnI; rw [if_pos h]
theorem sgn_neg (x : Int) (h : x < 0) : sgnI x = -1 := by unfold sgnI; rw [if_neg (by omega), if_pos h]
def dv (n k : Int) : Int := n * 2 ^ (24 - k.toNat)
theorem dyPower62 (k : Int) (h : 0 ≤ k ∧ k ≤ 62) : spec_dyPower.f k = some (2 ^ k.toNat) := by
 have h1 := pow1 k.toNat
 have h2 := pow62 k.toNat (by omega)
 have h3 : shl .i64 1 k = 2 ^ k.toNat := by
  unfold shl
  rw [Nat.min_eq_left (by show k.toNat ≤ 64; omega), Int.one_mul, i64_w]; unfold wrap64; omega
 unfold spec_dyPower.f
 have e : IntKind.u64.wrap k = k := u64r _ ⟨by omega, by omega⟩
 rw [e, if_pos h.1, h3]
theorem tdiv_floor (a b : Int) (hb : 0 < b) : Int.tdiv a b = if Int.tmod a b < 0 then a / b + 1 else a / b := by
 have h1 := Int.mul_ediv_add_emod a b
 have h2 := Int.mul_tdiv_add_tmod a b
 have h3 := Int.emod_nonneg a (show b ≠ 0 by omega)
 have h4 := Int.emod_lt_of_pos a hb
 have h5 : -b < Int.tmod a b ∧ Int.tmod a b < b := by
  have := Int.tmod_lt_of_pos a hb
  have := Int.lt_tmod_of_pos a hb
  omega
 obtain ⟨q, hq⟩ : ∃ q, Int.tdiv a b = q := ⟨_, rfl⟩
 obtain ⟨p, hp⟩ : ∃ p, a / b = p := ⟨_, rfl⟩
 rw [hq] at h2 ⊢
 rw [hp] at h1 ⊢
 by_cases h : Int.tmod a b < 0
 ·rw [if_pos h]
  have e : b * (q - p - 1) = a % b - Int.tmod a b - b := by rw [Int.mul_sub, Int.mul_sub]; omega
  rcases Int.lt_trichotomy (q - p - 1) 0 with h6 | h6 | h6
  ·have := Int.mul_le_mul_of_nonneg_left (show q - p - 1 ≤ -1 by omega) (show 0 ≤ b by omega)
   omega
  ·omega
  ·have := Int.mul_le_mul_of_nonneg_left (show 1 ≤ q - p - 1 by omega) (show 0 ≤ b by omega)
   omega
 ·rw [if_neg h]
  have e : b * (q - p) = a % b - Int.tmod a b := by rw [Int.mul_sub]; omega
  rcases Int.lt_trichotomy (q - p) 0 with h6 | h6 | h6
  ·have := Int.mul_le_mul_of_nonneg_left (show q - p ≤ -1 by omega) (show 0 ≤ b by omega)
   omega
  ·omega
  ·have := Int.mul_le_mul_of_nonneg_left (show 1 ≤ q - p by omega) (show 0 ≤ b by omega)
   omega
theorem dyDown_gen (a b : Int) (ha : -4611686018427387904 ≤ a ∧ a ≤ 4611686018427387904) (hb : 0 < b) : spec_dyDown.f a b = some (a / b) := by
 have h1 := tdiv_floor a b hb
 have h2 : -4611686018427387904 ≤ Int.tdiv a b ∧ Int.tdiv a b ≤ 4611686018427387904 := by
  have h3 : (Int.tdiv a b).natAbs ≤ a.natAbs := by rw [Int.natAbs_tdiv]; exact Nat.div_le_self _ _
  omega
 unfold spec_dyDown.f
 rw [if_neg (by omega)]
 by_cases h : Int.tmod a b < 0
 ·rw [if_pos h] at h1 ⊢
  congr 1
  rw [show wrap64 (Int.tdiv a b) = Int.tdiv a b by unfold wrap64; omega]
  unfold wrap64; omega
 ·rw [if_neg h] at h1 ⊢
  congr 1
  unfold wrap64; omega
theorem dyFloor_eq (n k : Int) (hn : -1099511627776 ≤ n ∧ n ≤ 1099511627776) (hk : 0 ≤ k ∧ k ≤ 24) : spec_dyFloor.f n k = some (n / 2 ^ k.toNat) := by
 unfold spec_dyFloor.f
 rw [dyPower62 k ⟨hk.1, by omega⟩, Option.bind_some, dyDown_gen n _ ⟨by omega, by omega⟩ (by have := pow1 k.toNat; omega)]; rfl
theorem dyAt_l0 (t k0 : Int) (d : Nat) : ∀ (n i : Int), 0 ≤ i → i ≤ t → t ≤ 1000 → (t - i).toNat = d → -1152921504606846976 ≤ n * 2 ^ d ∧ n * 2 ^ d ≤ 1152921504606846976 → Ev (fun z => spec_dyAt.l0 z t i n k0) (n * 2 ^ d, true) := by
 induction d with
 | zero =>
  intro n i h0 hi ht hd hn
  refine Ev.step (fun z => rfl) ?_
  simp only [spec_dyAt.l0]
  refine Ev_if (fun h => by omega) (fun _ => ?_)
  refine Ev_eq (Ev.now _) ?_
  simp
 | succ d ih =>
  intro n i h0 hi ht hd hn
  have e : n * 2 ^ (d + 1) = n * 2 * 2 ^ d := by rw [Int.pow_succ]; grind
  have hp := pow1 d
  have hn2 : -1152921504606846976 ≤ n * 2 ∧ n * 2 ≤ 1152921504606846976 := by
   rw [e] at hn
   obtain ⟨x, hx⟩ : ∃ x, n * 2 = x := ⟨_, rfl⟩
   rw [hx] at hn ⊢
   rcases Int.le_total 0 x with h | h
   ·have := Int.mul_le_mul_of_nonneg_left hp h; omega
   ·have := Int.mul_le_mul_of_nonneg_left hp (show 0 ≤ -x by omega)
    simp only [Int.neg_mul] at this; omega
  refine Ev.step (fun z => rfl) ?_
  simp only [spec_dyAt.l0]
  rw [show wrap64 (i + 1) = i + 1 by unfold wrap64; omega, show wrap64 (n * 2) = n * 2 by unfold wrap64; omega]
  refine Ev_if (fun _ => Ev_bindS (dyPower62 60 ⟨by omega, by omega⟩) (Ev_bindS (l1In_eq _ _ _) (Ev_if (fun _ => ?_) (fun h => ?_)))) (fun h => by omega)
  ·rw [e] at hn ⊢
   exact ih (n * 2) (i + 1) (by omega) (by omega) ht (by omega) hn
  ·exfalso; apply h
   apply decide_eq_true
   have e60 : (2 : Int) ^ (60 : Int).toNat = 1152921504606846976 := by decide
   rw [e60, show wrap64 (-1152921504606846976) = -1152921504606846976 by unfold wrap64; omega]; omega
theorem dyAt_ev (n k t : Int) (hk : 0 ≤ k ∧ k ≤ t) (ht : t ≤ 1000) (hn : -1152921504606846976 ≤ n * 2 ^ (t - k).toNat ∧ n * 2 ^ (t - k).toNat ≤ 1152921504606846976) : Ev (fun z => spec_dyAt.f z n k t) (n * 2 ^ (t - k).toNat, true) := by
 unfold spec_dyAt.f
 refine Ev_if (fun h => ?_) (fun _ => dyAt_l0 t k _ n k hk.1 hk.2 ht rfl hn)
 subst h; simp only [Int.zero_mul]; exact Ev.now _
theorem dyCmp_ev (n1 k1 n2 k2 : Int) (hn1 : -1099511627776 ≤ n1 ∧ n1 ≤ 1099511627776) (hk1 : 0 ≤ k1 ∧ k1 ≤ 24) (hn2 : -1099511627776 ≤ n2 ∧ n2 ≤ 1099511627776) (hk2 : 0 ≤ k2 ∧ k2 ≤ 24) :
 Ev (fun z => spec_dyCmp.f z n1 k1 n2 k2) (sgnI (dv n1 k1 - dv n2 k2)) := by
 have key : ∀ n k : Int, -1099511627776 ≤ n ∧ n ≤ 1099511627776 → 0 ≤ k ∧ k ≤ 24 → ∃ q r : Int, n / 2 ^ k.toNat = q ∧ -1099511627776 ≤ q ∧ q ≤ 1099511627776 ∧ wrap64 (n - wrap64 (q * 2 ^ k.toNat)) = r ∧ Ev (fun z => spec_dyAt.f z r k 24) (r * 2 ^ (24 - k.toNat), true) ∧ dv n k = q * 16777216 + r * 2 ^ (24 - k.toNat) ∧ 0 ≤ r * 2 ^ (24 - k.toNat) ∧ r * 2 ^ (24 - k.toNat) < 16777216 := by
  intro n k hn hk
  obtain ⟨q, hq⟩ : ∃ q, n / 2 ^ k.toNat = q := ⟨_, rfl⟩
  have hp := pow1 k.toNat
  have hp2 := pow_le2 k.toNat 24 (by omega)
  have h1 := Int.mul_ediv_add_emod n (2 ^ k.toNat)
  have h2 := Int.emod_nonneg n (show (2 : Int) ^ k.toNat ≠ 0 by omega)
  have h3 := Int.emod_lt_of_pos n (show (0 : Int) < 2 ^ k.toNat by omega)
  rw [hq] at h1
  have hqr : -1099511627776 ≤ q ∧ q ≤ 1099511627776 := by
   rw [← hq]
   refine ⟨?_, ?_⟩
   ·apply Int.le_ediv_of_mul_le (by omega)
    have := Int.mul_le_mul_of_nonneg_left hp (show (0 : Int) ≤ 1099511627776 by omega)
    omega
   ·rcases Int.le_total 0 n with h | h
    ·have := Int.ediv_le_self (2 ^ k.toNat) h; omega
    ·have : n / 2 ^ k.toNat ≤ 0 := by
      have := Int.ediv_le_ediv (show (0 : Int) < 2 ^ k.toNat by omega) h
      simpa using this
     omega
  have hw : wrap64 (q * 2 ^ k.toNat) = q * 2 ^ k.toNat := by
   have : q * 2 ^ k.toNat = 2 ^ k.toNat * q := Int.mul_comm _ _
   unfold wrap64; omega
  have hr : wrap64 (n - wrap64 (q * 2 ^ k.toNat)) = n % 2 ^ k.toNat := by
   rw [hw]
   have : q * 2 ^ k.toNat = 2 ^ k.toNat * q := Int.mul_comm _ _
   unfold wrap64; omega
  have e24 : (24 : Int) - k = ((24 - k.toNat : Nat) : Int) := by omega
  have hp24 : (2 : Int) ^ (24 - k.toNat) * 2 ^ k.toNat = 16777216 := by rw [← pow_split 24 k.toNat (by omega)]; rfl
  have hb0 : 0 ≤ n % 2 ^ k.toNat * 2 ^ (24 - k.toNat) := Int.mul_nonneg h2 (by have := pow1 (24 - k.toNat); omega)
  have hb1 : n % 2 ^ k.toNat * 2 ^ (24 - k.toNat) < 16777216 := by
   have := Int.mul_lt_mul_of_pos_right h3 (show (0 : Int) < 2 ^ (24 - k.toNat) by have := pow1 (24 - k.toNat); omega)
   rw [Int.mul_comm (2 ^ k.toNat)] at this; omega
  refine ⟨q, n % 2 ^ k.toNat, hq, hqr.1, hqr.2, hr, ?_, ?_, hb0, hb1⟩
  ·have h := dyAt_ev (n % 2 ^ k.toNat) k 24 hk (by omega) (by rw [e24, Int.toNat_natCast]; omega)
   rw [e24, Int.toNat_natCast] at h; exact h
  ·unfold dv
   have e : n * 2 ^ (24 - k.toNat) = (2 ^ k.toNat * q + n % 2 ^ k.toNat) * 2 ^ (24 - k.toNat) := by rw [h1]
   rw [e, Int.add_mul, Int.mul_comm (2 ^ k.toNat) q, Int.mul_assoc, Int.mul_comm (2 ^ k.toNat) (2 ^ (24 - k.toNat)), hp24]
 obtain ⟨q1, r1, a1, a2, a3, a4, a5, a6, a7, a8⟩ := key n1 k1 hn1 hk1
 obtain ⟨q2, r2, b1, b2, b3, b4, b5, b6, b7, b8⟩ := key n2 k2 hn2 hk2
 have f1 := dyFloor_eq n1 k1 hn1 hk1
 have f2 := dyFloor_eq n2 k2 hn2 hk2
 rw [a1] at f1
 rw [b1] at f2
 rw [a6, b6]
 obtain ⟨x, hx⟩ : ∃ x, r1 * 2 ^ (24 - k1.toNat) = x := ⟨_, rfl⟩
 obtain ⟨y, hy⟩ : ∃ y, r2 * 2 ^ (24 - k2.toNat) = y := ⟨_, rfl⟩
 rw [hx] at a5 a7 a8 ⊢
 rw [hy] at b5 b7 b8 ⊢
 unfold spec_dyCmp.f
 refine Ev_bindS f1 (Ev_bindS f2 (Ev_if (fun h => ?_) (fun h => ?_)))
 ·subst h
  refine Ev_bindS (dyPower62 k1 ⟨hk1.1, by omega⟩) ?_
  rw [a4]
  refine Ev.bind a5 (Ev_bindS (dyPower62 k2 ⟨hk2.1, by omega⟩) ?_)
  rw [b4]
  refine Ev.bind b5 (Ev_bindS (l1Sign_eq _) (Ev_eq (Ev.now _) ?_))
  rw [show wrap64 (x - y) = q1 * 16777216 + x - (q1 * 16777216 + y) by unfold wrap64; omega]
 ·refine Ev_bindS (l1Sign_eq _) (Ev_eq (Ev.now _) ?_)
  rw [show wrap64 (q1 - q2) = q1 - q2 by unfold wrap64; omega]
  rcases Int.lt_or_gt_of_ne h with h1 | h1
  ·rw [sgn_neg _ (by omega), sgn_neg (q1 * 16777216 + x - (q2 * 16777216 + y)) (by omega)]
  ·rw [sgn_pos _ (by omega), sgn_pos (q1 * 16777216 + x - (q2 * 16777216 + y)) (by omega)]
theorem sizeW_eq (n : Int) (h : -9223372036854775807 ≤ n ∧ n ≤ 9223372036854775807) : impl_size.f n = some ((n.natAbs : Nat) : Int) := by
 unfold impl_size.f
 by_cases h0 : n < 0
 ·rw [if_pos h0, show wrap64 (-n) = -n by unfold wrap64; omega, u64r _ ⟨by omega, by omega⟩]; congr 1; omega
 ·rw [if_neg h0, u64r _ ⟨by omega, by omega⟩]; congr 1; omega
theorem wideOf_eq (n : Int) (h : -9223372036854775807 ≤ n ∧ n ≤ 9223372036854775807) : impl_wideOf.f n = some (decide (n < 0), 0, ((n.natAbs : Nat) : Int)) := by
 unfold impl_wideOf.f; rw [sizeW_eq n h]; rfl
def wv (neg : Bool) (hi lo : Int) : Int := if neg = true then -(hi * 18446744073709551616 + lo) else hi * 18446744073709551616 + lo
def wordB (x : Int) : Prop := 0 ≤ x ∧ x < 18446744073709551616
theorem shift_left (neg : Bool) (m : Int) (hm : wordB m) (s : Nat) (hs : s ≤ 63) : impl_wide_shift.f neg 0 m (s : Int) = some (neg, m / 2 ^ (64 - s), m * 2 ^ s % 18446744073709551616) := by
 have e1 : wrap64 (64 - (s : Int)) = ((64 - s : Nat) : Int) := by unfold wrap64; omega
 unfold impl_wide_shift.f
 rw [if_pos (by omega), if_neg (by omega), if_pos (by omega), e1, if_pos (by omega), shl64 _ s (by omega), shl64 _ s (by omega), shr64 _ _ (by omega)]
 have h1 := pow1 (64 - s)
 have h2 : 0 ≤ m / 2 ^ (64 - s) := Int.ediv_nonneg hm.1 (by omega)
 have h3 : m / 2 ^ (64 - s) ≤ m := Int.ediv_le_self _ hm.1
 have h4 := or64 0 (m / 2 ^ (64 - s)) 64 (by omega) ⟨h2, by have := hm.2; omega⟩ (by have := hm.2; omega)
 simp only [Int.zero_mul, Int.zero_add] at h4
 rw [show (0 : Int) * 2 ^ s % 18446744073709551616 = 0 by simp, h4]
theorem shift_val (neg : Bool) (m : Int) (s : Nat) (hs : s ≤ 63) : wv neg (m / 2 ^ (64 - s)) (m * 2 ^ s % 18446744073709551616) = if neg = true then -(m * 2 ^ s) else m * 2 ^ s := by
 unfold wv
 rw [← split64 m s (by omega)]
 have := Int.mul_ediv_add_emod (m * 2 ^ s) 18446744073709551616
 split <;> omega
theorem cmpU_eq (a b : Int) : cmp_Compare_uint64.f a b = some (sgnI (a - b)) := by
 unfold cmp_Compare_uint64.f cmp_isNaN_uint64.f
 simp only [bne_self_eq_false, Option.bind_some]
 rw [if_neg (by decide), if_neg (by decide)]
 by_cases h : a < b
 ·rw [if_pos h, sgn_neg _ (by omega)]
 ·rw [if_neg h]
  by_cases h2 : a > b
  ·rw [if_pos h2, sgn_pos _ (by omega)]
  ·rw [if_neg h2, show a - b = 0 by omega]; rfl
theorem cmpOr_ev (x y : Int) : Ev (fun k => cmp_Or_int.f k [x, y]) (if x = 0 then y else x) := by
 unfold cmp_Or_int.f
 refine Ev.step (fun k => rfl) ?_
 simp only [cmp_Or_int.l0]
 refine Ev_if (fun _ => Ev_if (fun _ => Ev_if (fun _ => Ev_if (fun h => ?_) (fun h => ?_)) (fun h => absurd (by simp) h)) (fun h => by omega)) (fun h => absurd (by simp) h)
 ·have e : x = 0 := h
  rw [if_pos e, show wrap64 (0 + 1) = 1 by unfold wrap64; omega]
  refine Ev.step (fun k => rfl) ?_
  simp only [cmp_Or_int.l0]
  refine Ev_if (fun _ => Ev_if (fun _ => Ev_if (fun _ => Ev_if (fun h => ?_) (fun h => Ev.now _)) (fun h => absurd (by simp) h)) (fun h => by omega)) (fun h => absurd (by simp) h)
  have e2 : y = 0 := h
  rw [e2, show wrap64 (1 + 1) = 2 by unfold wrap64; omega]
  refine Ev.step (fun k => rfl) ?_
  simp only [cmp_Or_int.l0]
  exact Ev_if (fun h => absurd h (by simp)) (fun _ => Ev.now _)
 ·have e : x ≠ 0 := h
  rw [if_neg e]; exact Ev.now _
theorem cmpSizes_ev (n1 n2 : Bool) (h1 l1 h2 l2 : Int) (a1 : wordB h1) (a2 : wordB l1) (a3 : wordB h2) (a4 : wordB l2) : Ev (fun k => impl_compareSizes.f k n1 h1 l1 n2 h2 l2) (sgnI ((h1 * 18446744073709551616 + l1) - (h2 * 18446744073709551616 + l2))) := by
 unfold impl_compareSizes.f
 refine Ev_bindS (cmpU_eq _ _) (Ev_bindS (cmpU_eq _ _) (Ev.bind (cmpOr_ev _ _) ?_))
 refine Ev_eq (Ev.now _) ?_
 unfold wordB at *
 by_cases e1 : h1 - h2 > 0
 ·rw [sgn_pos _ e1, sgn_pos (h1 * 18446744073709551616 + l1 - (h2 * 18446744073709551616 + l2)) (by omega)]; rfl
 ·by_cases e2 : h1 - h2 < 0
  ·rw [sgn_neg _ e2, sgn_neg (h1 * 18446744073709551616 + l1 - (h2 * 18446744073709551616 + l2)) (by omega)]; rfl
  ·have : h1 = h2 := by omega
   subst this
   rw [Int.sub_self, show h1 * 18446744073709551616 + l1 - (h1 * 18446744073709551616 + l2) = l1 - l2 by omega]
   rfl
theorem isZero_eq (n : Bool) (h l : Int) (a1 : wordB h) (a2 : wordB l) : impl_wide_isZero.f n h l = some (decide (h * 18446744073709551616 + l = 0)) := by
 unfold impl_wide_isZero.f wordB at *
 by_cases e : h = 0
 ·subst e; rw [if_pos rfl]; congr 1
  by_cases e2 : l = 0
  ·subst e2; rfl
  ·rw [decide_eq_false (by omega)]; simp [e2]
 ·rw [if_neg e, decide_eq_false (by omega)]
theorem cmpWide_ev (n1 n2 : Bool) (h1 l1 h2 l2 : Int) (a1 : wordB h1) (a2 : wordB l1) (a3 : wordB h2) (a4 : wordB l2) : Ev (fun k => impl_compareWide.f k n1 h1 l1 n2 h2 l2) (sgnI (wv n1 h1 l1 - wv n2 h2 l2)) := by
 have s1 := cmpSizes_ev n1 n2 h1 l1 h2 l2 a1 a2 a3 a4
 have s2 := cmpSizes_ev n2 n1 h2 l2 h1 l1 a3 a4 a1 a2
 have z1 := isZero_eq n1 h1 l1 a1 a2
 have z2 := isZero_eq n2 h2 l2 a3 a4
 unfold wordB at *
 obtain ⟨m1, e1⟩ : ∃ m, h1 * 18446744073709551616 + l1 = m := ⟨_, rfl⟩
 obtain ⟨m2, e2⟩ : ∃ m, h2 * 18446744073709551616 + l2 = m := ⟨_, rfl⟩
 have p1 : 0 ≤ m1 := by omega
 have p2 : 0 ≤ m2 := by omega
 have v1 : wv n1 h1 l1 = if n1 = true then -m1 else m1 := by unfold wv; rw [e1]
 have v2 : wv n2 h2 l2 = if n2 = true then -m2 else m2 := by unfold wv; rw [e2]
 rw [e1, e2] at s1
 rw [e2, e1] at s2
 rw [e1] at z1
 rw [e2] at z2
 have fin : ¬ (m1 = 0 ∧ m2 = 0) → Ev (fun k => impl_compareWide.j0 k false n1 h1 l1 n2 h2 l2) (sgnI (wv n1 h1 l1 - wv n2 h2 l2)) := by
  intro hz
  refine Ev.step (fun k => rfl) ?_
  simp only [impl_compareWide.j0]
  refine Ev_if (fun h => by cases h) (fun _ => ?_)
  rw [v1, v2]
  cases n1 <;> cases n2
  ·refine Ev_if (fun h => by cases h) (fun _ => Ev_if (fun h => by cases h) (fun _ => Ev.bind s1 (Ev.now _)))
  ·refine Ev_if (fun _ => Ev_if (fun h => by cases h) (fun _ => Ev_eq (Ev.now _) ?_)) (fun h => absurd rfl h)
   rw [if_neg (by decide), if_pos rfl, sgn_pos _ (by omega)]
  ·refine Ev_if (fun _ => Ev_if (fun _ => Ev_eq (Ev.now _) ?_) (fun h => absurd rfl h)) (fun h => absurd rfl h)
   rw [if_pos rfl, if_neg (by decide), sgn_neg (-m1 - m2) (by omega)]
  ·refine Ev_if (fun h => by cases h) (fun _ => Ev_if (fun _ => Ev.bind s2 (Ev_eq (Ev.now _) ?_)) (fun h => absurd rfl h))
   rw [if_pos rfl, if_pos rfl, show -m1 - -m2 = m2 - m1 by omega]
 unfold impl_compareWide.f
 refine Ev_bindS z1 (Ev_if (fun h => Ev_bindS z2 ?_) (fun h => fin (fun hh => h (by simpa using hh.1))))
 have hm1 : m1 = 0 := by simpa using h
 by_cases hm2 : m2 = 0
 ·rw [decide_eq_true hm2]
  refine Ev.step (fun k => rfl) ?_
  simp only [impl_compareWide.j0]
  refine Ev_if (fun _ => Ev_eq (Ev.now _) ?_) (fun h => absurd (by trivial) h)
  rw [v1, v2, hm1, hm2]; simp [sgnI]
 ·rw [decide_eq_false hm2]; exact fin (fun hh => hm2 hh.2)
theorem dv_shift (n k K : Int) (hk : 0 ≤ k ∧ k ≤ K) (hK : K ≤ 24) : dv n k = 2 ^ (24 - K.toNat) * (n * 2 ^ (K - k).toNat) := by
 unfold dv
 have e : 24 - k.toNat = (24 - K.toNat) + (K - k).toNat := by omega
 rw [e, Int.pow_add, ← Int.mul_assoc, Int.mul_comm n, Int.mul_assoc]
theorem word_shift (m : Int) (hm : wordB m) (s : Nat) (hs : s ≤ 63) : wordB (m / 2 ^ (64 - s)) ∧ wordB (m * 2 ^ s % 18446744073709551616) := by
 have h1 := pow1 (64 - s)
 have h2 : 0 ≤ m / 2 ^ (64 - s) := Int.ediv_nonneg hm.1 (by omega)
 have h3 : m / 2 ^ (64 - s) ≤ m := Int.ediv_le_self _ hm.1
 have h4 := hm.2
 exact ⟨⟨h2, by omega⟩, ⟨Int.emod_nonneg _ (by omega), Int.emod_lt_of_pos _ (by omega)⟩⟩
theorem compareD_ev (n1 k1 n2 k2 : Int) (hn1 : -1099511627776 ≤ n1 ∧ n1 ≤ 1099511627776) (hk1 : 0 ≤ k1 ∧ k1 ≤ 24) (hn2 : -1099511627776 ≤ n2 ∧ n2 ≤ 1099511627776) (hk2 : 0 ≤ k2 ∧ k2 ≤ 24) :
 Ev (fun z => impl_compareD.f z n1 k1 n2 k2) (sgnI (dv n1 k1 - dv n2 k2)) := by
 obtain ⟨K, hK⟩ : ∃ K, mx k1 k2 = K := ⟨_, rfl⟩
 have hKr : k1 ≤ K ∧ k2 ≤ K ∧ K ≤ 24 := by rw [← hK]; unfold mx; split <;> omega
 have w : ∀ n k : Int, -1099511627776 ≤ n ∧ n ≤ 1099511627776 → 0 ≤ k ∧ k ≤ K → impl_wideOf.f n = some (decide (n < 0), 0, ((n.natAbs : Nat) : Int)) ∧ wordB ((n.natAbs : Nat) : Int) ∧ wrap64 (K - k) = (((K - k).toNat : Nat) : Int) ∧ (K - k).toNat ≤ 63 := by
  intro n k hn hk
  exact ⟨wideOf_eq n ⟨by omega, by omega⟩, ⟨by omega, by omega⟩, by unfold wrap64; omega, by omega⟩
 obtain ⟨a1, b1, c1, d1⟩ := w n1 k1 hn1 ⟨hk1.1, by omega⟩
 obtain ⟨a2, b2, c2, d2⟩ := w n2 k2 hn2 ⟨hk2.1, by omega⟩
 have f1 := shift_left (decide (n1 < 0)) _ b1 _ d1
 have f2 := shift_left (decide (n2 < 0)) _ b2 _ d2
 obtain ⟨g1, g2⟩ := word_shift _ b1 _ d1
 obtain ⟨g3, g4⟩ := word_shift _ b2 _ d2
 have v : ∀ (n : Int) (s : Nat), s ≤ 63 → wv (decide (n < 0)) (((n.natAbs : Nat) : Int) / 2 ^ (64 - s)) (((n.natAbs : Nat) : Int) * 2 ^ s % 18446744073709551616) = n * 2 ^ s := by
  intro n s hs
  rw [shift_val _ _ s hs]
  by_cases h : n < 0
  ·rw [decide_eq_true h, if_pos rfl, ← Int.neg_mul, show -((n.natAbs : Nat) : Int) = n by omega]
  ·rw [decide_eq_false h, if_neg (by decide), show ((n.natAbs : Nat) : Int) = n by omega]
 unfold impl_compareD.f
 rw [hK, c1, c2]
 refine Ev_bindS a1 (Ev_bindS f1 (Ev_bindS a2 (Ev_bindS f2 (Ev.bind (cmpWide_ev _ _ _ _ _ _ g1 g2 g3 g4) (Ev_eq (Ev.now _) ?_)))))
 rw [v n1 _ d1, v n2 _ d2, dv_shift n1 k1 K ⟨hk1.1, hKr.1⟩ hKr.2.2, dv_shift n2 k2 K ⟨hk2.1, hKr.2.1⟩ hKr.2.2, ← Int.mul_sub, sgn_mul _ _ (by have := pow1 (24 - K.toNat); omega)]
theorem isPlaces_eq (a : Int) : impl_isPlaces.f a = some (decide (0 ≤ a ∧ a ≤ 24)) := by
 unfold impl_isPlaces.f; rw [inside_eq]; rfl
def dyB (n k : Int) : Bool := if decide (0 ≤ k ∧ k ≤ 24) then (if decide ((-1099511627776) ≤ n ∧ n ≤ 1099511627776) then (if k = 0 then true else (Int.tmod n 2 != 0)) else false) else false
theorem dyGood_eq (n k : Int) : spec_dyGood.f n k = some (dyB n k) := by
 unfold spec_dyGood.f dyB; simp only [l1In_eq, Option.bind_some]
 split <;> (try split) <;> (try split) <;> simp_all
theorem isDyadic_eq (n k : Int) : impl_isDyadic.f n k = some (dyB n k) := by
 unfold impl_isDyadic.f dyB; simp only [isPlaces_eq, inside_eq, Option.bind_some]
 split <;> (try split) <;> (try split) <;> simp_all
theorem dyB_range (n k : Int) (h : dyB n k = true) : (0 ≤ k ∧ k ≤ 24) ∧ ((-1099511627776) ≤ n ∧ n ≤ 1099511627776) := by
 unfold dyB at h
 by_cases h1 : 0 ≤ k ∧ k ≤ 24
 ·rw [decide_eq_true h1, if_pos rfl] at h
  by_cases h2 : (-1099511627776) ≤ n ∧ n ≤ 1099511627776
  ·exact ⟨h1, h2⟩
  ·rw [decide_eq_false h2] at h; simp at h
 ·rw [decide_eq_false h1] at h; simp at h
theorem absmul (x y a b : Int) (hx : -a ≤ x ∧ x ≤ a) (hy : -b ≤ y ∧ y ≤ b) : -(a * b) ≤ x * y ∧ x * y ≤ a * b := by
 have h1 : x.natAbs ≤ a.toNat := by omega
 have h2 : y.natAbs ≤ b.toNat := by omega
 have h := Nat.mul_le_mul h1 h2
 rw [← Int.natAbs_mul] at h
 have e : ((a.toNat * b.toNat : Nat) : Int) = a * b := by rw [Int.natCast_mul, Int.toNat_of_nonneg (by omega), Int.toNat_of_nonneg (by omega)]
 have h3 : (((x * y).natAbs : Nat) : Int) ≤ a * b := by rw [← e]; exact_mod_cast h
 omega
def nrm : Nat → Int → Int × Int
 | 0, n => (n, 0)
 | k + 1, n => if n % 2 = 0 then nrm k (n / 2) else (n, ((k + 1 : Nat) : Int))
theorem tmod2 (n : Int) : Int.tmod n 2 = 0 ↔ n % 2 = 0 := by
 constructor
 ·intro h
  have h1 := Int.mul_tdiv_add_tmod n 2
  omega
 ·intro h
  have h1 : n = 2 * (n / 2) := by omega
  rw [h1, Int.mul_comm, Int.mul_tmod_left]
theorem tdiv2 (n : Int) (h : n % 2 = 0) : Int.tdiv n 2 = n / 2 := by
 have h1 := Int.mul_tdiv_add_tmod n 2
 have h2 := (tmod2 n).2 h
 omega
theorem nrm_form (k : Nat) : ∀ n, (0 ≤ (nrm k n).2 ∧ (nrm k n).2 ≤ (k : Int)) ∧ ((nrm k n).2 = 0 ∨ (nrm k n).1 % 2 ≠ 0) := by
 induction k with
 | zero => intro n; simp [nrm]
 | succ k ih =>
  intro n
  simp only [nrm]
  split
  ·obtain ⟨⟨h1, h2⟩, h3⟩ := ih (n / 2)
   exact ⟨⟨h1, by omega⟩, h3⟩
  ·rename_i h
   exact ⟨⟨by simp only; omega, by simp⟩, .inr h⟩
theorem nrm_neg (k : Nat) : ∀ n, nrm k (-n) = (-(nrm k n).1, (nrm k n).2) := by
 induction k with
 | zero => intro n; rfl
 | succ k ih =>
  intro n
  simp only [nrm]
  by_cases h : n % 2 = 0
  ·rw [if_pos h, if_pos (by omega), show -n / 2 = -(n / 2) by omega]; exact ih _
  ·rw [if_neg h, if_neg (by omega)]
theorem nrm_scale (k s : Nat) (n : Int) : nrm (k + s) (n * 2 ^ s) = nrm k n := by
 induction s with
 | zero => simp
 | succ s ih =>
  rw [Int.pow_succ, ← Int.mul_assoc, ← Nat.add_assoc]
  simp only [nrm]
  rw [if_pos (by omega), show n * 2 ^ s * 2 / 2 = n * 2 ^ s by omega]
  exact ih
theorem dyB_nrm (k : Nat) (n : Int) : dyB (nrm k n).1 (nrm k n).2 = true ↔ (nrm k n).2 ≤ 24 ∧ (-1099511627776 ≤ (nrm k n).1 ∧ (nrm k n).1 ≤ 1099511627776) := by
 obtain ⟨⟨h1, h2⟩, h3⟩ := nrm_form k n
 generalize nrm k n = m at *
 constructor
 ·intro h
  have := dyB_range _ _ h
  exact ⟨this.1.2, this.2⟩
 ·rintro ⟨h4, h5⟩
  unfold dyB
  rw [decide_eq_true (show 0 ≤ m.2 ∧ m.2 ≤ 24 from ⟨h1, h4⟩), if_pos rfl, decide_eq_true h5, if_pos rfl]
  split
  ·rfl
  ·have h6 : ¬ Int.tmod m.1 2 = 0 := by
    rw [tmod2]; rcases h3 with h | h
    ·contradiction
    ·exact h
   simpa using h6
def mkR (m : Int × Int) : Int × Int × Bool := cond (dyB m.1 m.2) (m.1, m.2, true) (0, 0, false)
theorem good_ev (n k : Int) : Ev (fun _ => (spec_dyGood.f n k).bind fun t => if t = true then some (n, k, true) else some (0, 0, false)) (mkR (n, k)) := by
 refine Ev_bindS (dyGood_eq _ _) ?_
 unfold mkR
 simp only
 cases dyB n k with
 | true => exact Ev.now _
 | false => exact Ev.now _
theorem dyMake_l0 (k : Nat) : ∀ n : Int, (-9000000000000000000 ≤ n ∧ n ≤ 9000000000000000000) → k ≤ 100 → Ev (fun z => spec_dyMake.l0 z n (k : Int)) (mkR (nrm k n)) := by
 induction k with
 | zero =>
  intro n hn hk
  refine Ev.step (fun z => rfl) ?_
  simp only [spec_dyMake.l0, nrm]
  exact Ev_if (fun h => by omega) (fun _ => good_ev n 0)
 | succ k ih =>
  intro n hn hk
  refine Ev.step (fun z => rfl) ?_
  simp only [spec_dyMake.l0, nrm]
  refine Ev_if (fun _ => Ev_if (fun h => ?_) (fun h => ?_)) (fun h => by omega)
  ·have h2 := (tmod2 n).1 h
   rw [if_pos h2, tdiv2 n h2, show wrap64 (n / 2) = n / 2 by unfold wrap64; omega, show wrap64 (((k + 1 : Nat) : Int) - 1) = (k : Int) by unfold wrap64; omega]
   exact ih (n / 2) (by omega) (by omega)
  ·have h2 : ¬ n % 2 = 0 := fun h2 => h ((tmod2 n).2 h2)
   rw [if_neg h2]
   exact good_ev n _
theorem dm_j1 (n k : Int) (r : Int × Int × Bool) (h : Ev (fun z => spec_dyMake.l0 z n k) r) : Ev (fun z => spec_dyMake.j1 z n k) r := Ev.step (f := fun z => spec_dyMake.l0 z n k) (fun z => rfl) h
theorem dm_j0f (n k : Int) (r : Int × Int × Bool) (h : Ev (fun z => spec_dyMake.l0 z n k) r) : Ev (fun z => spec_dyMake.j0 z n k false) r := Ev.step (f := fun z => spec_dyMake.j1 z n k) (fun z => rfl) (dm_j1 n k r h)
theorem dm_j0t (n k : Int) (r : Int × Int × Bool) (h : Ev (fun z => spec_dyMake.l0 z n 0) r) : Ev (fun z => spec_dyMake.j0 z n k true) r := Ev.step (f := fun z => spec_dyMake.j1 z n 0) (fun z => rfl) (dm_j1 n 0 r h)
theorem dyMake_ev (k : Nat) (n : Int) (hn : -9000000000000000000 ≤ n ∧ n ≤ 9000000000000000000) (hk : k ≤ 100) (h0 : n ≠ 0) : Ev (fun z => spec_dyMake.f z n (k : Int)) (mkR (nrm k n)) :=
 Ev.congr (f := fun z => spec_dyMake.j0 z n (k : Int) false) (fun z => if_neg h0) (dm_j0f _ _ _ (dyMake_l0 k n hn hk))
theorem dyMake_zero (k : Nat) : Ev (fun z => spec_dyMake.f z 0 (k : Int)) (0, 0, true) := by
 have h0 : Ev (fun z => spec_dyMake.l0 z 0 0) (0, 0, true) := dyMake_l0 0 0 (by omega) (by omega)
 refine Ev.congr (f := fun z => spec_dyMake.j0 z 0 (k : Int) (decide ((k : Int) > 0))) (fun z => if_pos rfl) ?_
 cases hd : decide ((k : Int) > 0) with
 | true => exact dm_j0t _ _ _ h0
 | false =>
  have hk : (k : Int) = 0 := by have := of_decide_eq_false hd; omega
  rw [hk]
  exact dm_j0f _ _ _ h0
theorem shift_half (neg : Bool) (l : Int) (hl : wordB l) : impl_wide_shift.f neg 0 l (-1) = some (neg, 0, l / 2) := by
 have s1 : shr .u64 0 1 = 0 := by have := shr64 0 1 (by omega); simpa using this
 have s2 : shr .u64 l 1 = l / 2 := by have := shr64 l 1 (by omega); simpa using this
 have s3 : shl .u64 0 63 = 0 := by have := shl64 0 63 (by omega); simpa using this
 have s4 : Go.bits .or .u64 (l / 2) 0 = l / 2 := by have := or64 (l / 2) 0 0 (by unfold wordB at hl; omega) (by omega) (by unfold wordB at hl; omega); simpa using this
 unfold impl_wide_shift.f
 rw [if_neg (by omega), show wrap64 (-(-1 : Int)) = 1 by unfold wrap64; omega, if_neg (by omega), if_pos (by omega), show wrap64 (64 - (1 : Int)) = 63 by unfold wrap64; omega, if_pos (by omega), s1, s2, s3, s4]
def fitR (neg : Bool) (m : Int × Int) : Int × Int × Bool := if m.2 > 24 ∨ m.1 > 1099511627776 then (0, 0, false) else (if neg = true then -m.1 else m.1, m.2, true)
theorem fit_j1 (neg : Bool) (l k : Int) (hl : 0 ≤ l ∧ l ≤ 9000000000000000000) : Ev (fun z => impl_wide_fit.j1 z k neg 0 l) (fitR neg (l, k)) := by
 refine Ev.step (fun z => rfl) ?_
 simp only [impl_wide_fit.j1]
 unfold fitR
 refine Ev_if (fun h => ?_) (fun h => Ev_if (fun h2 => by omega) (fun _ => ?_))
 ·rw [if_pos (.inl h)]
  exact Ev.step (f := fun z => some (0, 0, false)) (fun z => rfl) (Ev.now _)
 ·refine Ev.step (fun z => rfl) ?_
  simp only [impl_wide_fit.j2]
  refine Ev_if (fun h2 => ?_) (fun h2 => ?_)
  ·rw [if_pos (.inr (of_decide_eq_true h2))]; exact Ev.now _
  ·have h3 : ¬ l > 1099511627776 := fun h3 => h2 (decide_eq_true h3)
   have hc : ¬ (k > 24 ∨ l > 1099511627776) := fun h5 => h5.elim h h3
   rw [show wrap64 l = l by unfold wrap64; omega, show wrap64 (-l) = -l by unfold wrap64; omega, if_neg hc]
   exact Ev_if (fun h => by rw [if_pos h]; exact Ev.now _) (fun h => by rw [if_neg h]; exact Ev.now _)
theorem fit_l0 (neg : Bool) (k : Nat) : ∀ l : Int, (0 ≤ l ∧ l ≤ 9000000000000000000) → k ≤ 100 → Ev (fun z => impl_wide_fit.l0 z (k : Int) neg 0 l) (fitR neg (nrm k l)) := by
 induction k with
 | zero =>
  intro l hl hk
  refine Ev.step (fun z => rfl) ?_
  simp only [impl_wide_fit.l0, nrm]
  exact Ev_if (fun h => by omega) (fun _ => fit_j1 neg l 0 hl)
 | succ k ih =>
  intro l hl hk
  refine Ev.step (fun z => rfl) ?_
  simp only [impl_wide_fit.l0, nrm]
  refine Ev_if (fun _ => Ev_if (fun h => ?_) (fun h => ?_)) (fun h => by omega)
  ·have h2 := (tmod2 l).1 h
   rw [if_pos h2, shift_half neg l ⟨by omega, by omega⟩, show wrap64 (((k + 1 : Nat) : Int) - 1) = (k : Int) by unfold wrap64; omega]
   simp only [Option.bind_some]
   exact ih (l / 2) (by omega) (by omega)
  ·have h2 : ¬ l % 2 = 0 := fun h2 => h ((tmod2 l).2 h2)
   rw [if_neg h2]
   exact fit_j1 neg l _ hl
theorem both_fit (k s : Nat) (hks : k + s ≤ 100) (R : Int) (hR : -9000000000000000000 ≤ R * 2 ^ s ∧ R * 2 ^ s ≤ 9000000000000000000) : ∃ a b c, Ev (fun z => spec_dyMake.f z R (k : Int)) (a, b, c) ∧ Ev (fun z => (impl_wideOf.f (R * 2 ^ s)).bind fun t => impl_wide_fit.f z t.1 t.2.1 t.2.2 ((k + s : Nat) : Int)) (a, b, c) := by
 have hp := pow1 s
 have hw := wideOf_eq (R * 2 ^ s) ⟨by omega, by omega⟩
 by_cases h0 : R = 0
 ·subst h0
  refine ⟨0, 0, true, dyMake_zero k, ?_⟩
  rw [Int.zero_mul] at hw ⊢
  refine Ev_bindS hw ?_
  simp only [impl_wide_fit.f]
  exact Ev_bindS (isZero_eq _ _ _ ⟨by omega, by omega⟩ ⟨by omega, by omega⟩) (Ev_if (fun _ => Ev.now _) (fun h => absurd (by decide) h))
 ·have hRb : -9000000000000000000 ≤ R ∧ R ≤ 9000000000000000000 := by
   have h1 := absmul R 1 R.natAbs 1 (by omega) (by omega)
   have h2 : (R.natAbs : Int) ≤ ((R * 2 ^ s).natAbs : Nat) := by
    rw [Int.natAbs_mul]
    have : 1 ≤ ((2 : Int) ^ s).natAbs := by omega
    have h3 := Nat.mul_le_mul_left R.natAbs this
    rw [Nat.mul_one] at h3
    exact_mod_cast h3
   omega
  have hn0 : R * 2 ^ s ≠ 0 := Int.mul_ne_zero h0 (by omega)
  have hm : nrm (k + s) (((R * 2 ^ s).natAbs : Nat) : Int) = ((if R < 0 then -(nrm k R).1 else (nrm k R).1), (nrm k R).2) ∧ decide (R * 2 ^ s < 0) = decide (R < 0) := by
   by_cases hn : R < 0
   ·have h1 : R * 2 ^ s < 0 := Int.mul_neg_of_neg_of_pos hn (by omega)
    rw [if_pos hn, decide_eq_true hn, decide_eq_true h1]
    refine ⟨?_, rfl⟩
    rw [show (((R * 2 ^ s).natAbs : Nat) : Int) = -(R * 2 ^ s) by omega, nrm_neg, nrm_scale]
   ·have h1 : 0 < R * 2 ^ s := Int.mul_pos (by omega) (by omega)
    rw [if_neg hn, decide_eq_false hn, decide_eq_false (by omega)]
    refine ⟨?_, rfl⟩
    rw [show (((R * 2 ^ s).natAbs : Nat) : Int) = R * 2 ^ s by omega, nrm_scale]
  have hI : Ev (fun z => (impl_wideOf.f (R * 2 ^ s)).bind fun t => impl_wide_fit.f z t.1 t.2.1 t.2.2 ((k + s : Nat) : Int)) (fitR (decide (R < 0)) ((if R < 0 then -(nrm k R).1 else (nrm k R).1), (nrm k R).2)) := by
   refine Ev_bindS hw ?_
   simp only [impl_wide_fit.f]
   refine Ev_bindS (isZero_eq _ _ _ ⟨by omega, by omega⟩ ⟨by omega, by omega⟩) (Ev_if (fun h => absurd (of_decide_eq_true h) (by omega)) (fun _ => ?_))
   have h := fit_l0 (decide (R * 2 ^ s < 0)) (k + s) (((R * 2 ^ s).natAbs : Nat) : Int) ⟨by omega, by omega⟩ hks
   rw [hm.1, hm.2] at h
   rw [hm.2]
   exact h
  have hS := dyMake_ev k R hRb (by omega) h0
  have hsgn : (R < 0 → (nrm k R).1 ≤ 0) ∧ (0 < R → 0 ≤ (nrm k R).1) := by
   have key : ∀ (k : Nat) (n : Int), (n < 0 → (nrm k n).1 ≤ 0) ∧ (0 < n → 0 ≤ (nrm k n).1) := by
    intro k
    induction k with
    | zero => intro n; simp only [nrm]; omega
    | succ k ih =>
     intro n
     simp only [nrm]
     split
     ·obtain ⟨i1, i2⟩ := ih (n / 2)
      exact ⟨fun h => i1 (by omega), fun h => i2 (by omega)⟩
     ·simp only; omega
   exact key k R
  by_cases hb : dyB (nrm k R).1 (nrm k R).2 = true
  ·unfold mkR at hS; rw [hb] at hS
   obtain ⟨b1, b2, b3⟩ := (dyB_nrm k R).1 hb
   refine ⟨_, _, _, hS, Ev_eq hI ?_⟩
   unfold fitR
   by_cases hn : R < 0
   ·rw [if_pos hn, decide_eq_true hn, if_neg (by simp only; omega), if_pos rfl]; simp
   ·rw [if_neg hn, decide_eq_false hn, if_neg (by simp only; omega)]; simp
  ·unfold mkR at hS; rw [Bool.eq_false_iff.2 hb] at hS
   have hb2 : ¬ ((nrm k R).2 ≤ 24 ∧ (-1099511627776 ≤ (nrm k R).1 ∧ (nrm k R).1 ≤ 1099511627776)) := fun h => hb ((dyB_nrm k R).2 h)
   refine ⟨_, _, _, hS, Ev_eq hI ?_⟩
   unfold fitR
   by_cases hn : R < 0
   ·have := hsgn.1 hn
    rw [if_pos hn, if_pos (by simp only; omega)]
   ·have := hsgn.2 (by omega)
    rw [if_neg hn, if_pos (by simp only; omega)]
theorem Ev_unique {α : Type} {g : Nat → Option α} {r r' : α} (h : Ev g r) (h' : Ev g r') : r = r' := by
 obtain ⟨a, ha⟩ := h
 obtain ⟨b, hb⟩ := h'
 have h1 := ha (max a b) (Nat.le_max_left a b)
 have h2 := hb (max a b) (Nat.le_max_right a b)
 exact Option.some.inj (h1.symm.trans h2)
theorem pow8 (k : Int) (hk : 0 ≤ k ∧ k ≤ 8) : (1 : Int) ≤ 2 ^ k.toNat ∧ (2 : Int) ^ k.toNat ≤ 256 := by
 obtain ⟨n, rfl⟩ := Int.eq_ofNat_of_zero_le hk.1
 have hn : n ≤ 8 := by omega
 rw [Int.toNat_natCast]
 exact ⟨pow1 n, pow_le2 n 8 hn⟩
theorem shlBox (k : Int) (hk : 0 ≤ k ∧ k ≤ 8) : shl .i64 8 k = 8 * 2 ^ k.toNat := by
 have hp := pow8 k hk
 unfold shl
 rw [i64_w]
 show wrap64 (8 * 2 ^ min k.toNat 64) = 8 * 2 ^ k.toNat
 rw [show min k.toNat 64 = k.toNat by omega]
 unfold wrap64; omega
theorem good_loop (m a0 : Int) (l1 l2 : List Int) (hm : 0 ≤ m ∧ m ≤ 1000000) (hl : l1.length ≤ 1000000) (he : l2.length = l1.length) (d : Nat) : ∀ (i : Nat) (odd : Bool), i ≤ l1.length → l1.length - i = d →
 ∃ b, Ev (fun z => spec_bxGood.l0 z m odd l1 (l1.length : Int) (i : Int) a0 l1 l2) b ∧ Ev (fun z => impl_isBox.l0 z m odd l1 (l1.length : Int) (i : Int) a0 l1 l2) (b, a0) ∧
  (b = true → ∀ j : Nat, i ≤ j → j < l1.length → (-m ≤ rd l1 (j : Int) ∧ rd l1 (j : Int) ≤ m) ∧ (-m ≤ rd l2 (j : Int) ∧ rd l2 (j : Int) ≤ m)) := by
 induction d with
 | zero =>
  intro i odd hi hd
  refine ⟨odd, ?_, ?_, fun _ j h1 h2 => by omega⟩
  ·refine Ev.step (fun z => rfl) ?_
   simp only [spec_bxGood.l0]
   exact Ev_if (fun h => by omega) (fun _ => Ev.now _)
  ·refine Ev.step (fun z => rfl) ?_
   simp only [impl_isBox.l0]
   exact Ev_if (fun h => by omega) (fun _ => Ev.now _)
 | succ d ih =>
  intro i odd hi hd
  have hlt : i < l1.length := by omega
  obtain ⟨x, hx⟩ : ∃ x, rd l1 (i : Int) = x := ⟨_, rfl⟩
  obtain ⟨y, hy⟩ : ∃ y, rd l2 (i : Int) = y := ⟨_, rfl⟩
  have hwm : wrap64 (-m) = -m := by unfold wrap64; omega
  by_cases hA : -m ≤ x ∧ x ≤ m
  rotate_left
  ·refine ⟨false, ?_, ?_, fun h => by cases h⟩
   ·refine Ev.step (fun z => rfl) ?_
    simp only [spec_bxGood.l0]
    rw [hx, hy, hwm]
    refine Ev_if (fun _ => Ev_if (fun _ => Ev_if (fun _ => Ev_if (fun _ => Ev_bindS (l1In_eq _ _ _) ?_) (fun h => by omega)) (fun h => by omega)) (fun h => by omega)) (fun h => by omega)
    rw [decide_eq_false hA]
    exact Ev_if (fun h => by cases h) (fun _ => Ev.now _)
   ·refine Ev.step (fun z => rfl) ?_
    simp only [impl_isBox.l0]
    rw [hx, hy, hwm]
    refine Ev_if (fun _ => Ev_if (fun _ => Ev_if (fun _ => Ev_bindS (inside_eq _ _ _) ?_) (fun h => by omega)) (fun h => by omega)) (fun h => by omega)
    rw [decide_eq_false hA]
    exact Ev_if (fun h => by cases h) (fun _ => Ev.now _)
  by_cases hB : (-m ≤ y ∧ y ≤ m) ∧ x < y
  rotate_left
  ·refine ⟨false, ?_, ?_, fun h => by cases h⟩
   ·refine Ev.step (fun z => rfl) ?_
    simp only [spec_bxGood.l0]
    rw [hx, hy, hwm]
    refine Ev_if (fun _ => Ev_if (fun _ => Ev_if (fun _ => Ev_if (fun _ => Ev_bindS (l1In_eq _ _ _) ?_) (fun h => by omega)) (fun h => by omega)) (fun h => by omega)) (fun h => by omega)
    rw [decide_eq_true hA]
    refine Ev_if (fun _ => Ev_bindS (l1In_eq _ _ _) ?_) (fun h => absurd rfl h)
    by_cases hy2 : -m ≤ y ∧ y ≤ m
    ·rw [decide_eq_true hy2]
     exact Ev_if (fun _ => Ev_if (fun _ => Ev.now _) (fun h => absurd ⟨hy2, by omega⟩ hB)) (fun h => absurd rfl h)
    ·rw [decide_eq_false hy2]
     exact Ev_if (fun h => by cases h) (fun _ => Ev.now _)
   ·refine Ev.step (fun z => rfl) ?_
    simp only [impl_isBox.l0]
    rw [hx, hy, hwm, show wrap64 (x + 1) = x + 1 by unfold wrap64; omega]
    refine Ev_if (fun _ => Ev_if (fun _ => Ev_if (fun _ => Ev_bindS (inside_eq _ _ _) ?_) (fun h => by omega)) (fun h => by omega)) (fun h => by omega)
    rw [decide_eq_true hA]
    refine Ev_if (fun _ => Ev_if (fun _ => Ev_bindS (inside_eq _ _ _) ?_) (fun h => by omega)) (fun h => absurd rfl h)
    rw [decide_eq_false (show ¬ (x + 1 ≤ y ∧ y ≤ m) by omega)]
    exact Ev_if (fun h => by cases h) (fun _ => Ev.now _)
  have step : ∀ odd' : Bool, (odd' = if odd = true then true else if Int.tmod x 2 = 0 then (Int.tmod y 2 != 0) else true) → ∃ b, Ev (fun z => spec_bxGood.l0 z m odd l1 (l1.length : Int) (i : Int) a0 l1 l2) b ∧ Ev (fun z => impl_isBox.l0 z m odd l1 (l1.length : Int) (i : Int) a0 l1 l2) (b, a0) ∧
   (b = true → ∀ j : Nat, i ≤ j → j < l1.length → (-m ≤ rd l1 (j : Int) ∧ rd l1 (j : Int) ≤ m) ∧ (-m ≤ rd l2 (j : Int) ∧ rd l2 (j : Int) ≤ m)) := by
   intro odd' ho
   obtain ⟨b, b1, b2, b3⟩ := ih (i + 1) odd' (by omega) (by omega)
   refine ⟨b, ?_, ?_, fun hb j h1 h2 => ?_⟩
   ·refine Ev.step (fun z => rfl) ?_
    simp only [spec_bxGood.l0]
    rw [hx, hy, hwm, wrap_next i (by omega)]
    refine Ev_if (fun _ => Ev_if (fun _ => Ev_if (fun _ => Ev_if (fun _ => Ev_bindS (l1In_eq _ _ _) ?_) (fun h => by omega)) (fun h => by omega)) (fun h => by omega)) (fun h => by omega)
    rw [decide_eq_true hA]
    refine Ev_if (fun _ => Ev_bindS (l1In_eq _ _ _) ?_) (fun h => absurd rfl h)
    rw [decide_eq_true hB.1]
    refine Ev_if (fun _ => Ev_if (fun h => by omega) (fun _ => Ev_if (fun h => ?_) (fun h => Ev_if (fun h2 => ?_) (fun h2 => ?_)))) (fun h => absurd rfl h)
    ·rw [if_pos h] at ho; rw [← ho]; exact b1
    ·rw [if_neg h, if_pos h2] at ho; rw [← ho]; exact b1
    ·rw [if_neg h, if_neg h2] at ho; rw [← ho]; exact b1
   ·refine Ev.step (fun z => rfl) ?_
    simp only [impl_isBox.l0]
    rw [hx, hy, hwm, show wrap64 (x + 1) = x + 1 by unfold wrap64; omega, wrap_next i (by omega)]
    refine Ev_if (fun _ => Ev_if (fun _ => Ev_if (fun _ => Ev_bindS (inside_eq _ _ _) ?_) (fun h => by omega)) (fun h => by omega)) (fun h => by omega)
    rw [decide_eq_true hA]
    refine Ev_if (fun _ => Ev_if (fun _ => Ev_bindS (inside_eq _ _ _) ?_) (fun h => by omega)) (fun h => absurd rfl h)
    rw [decide_eq_true (show x + 1 ≤ y ∧ y ≤ m by omega)]
    refine Ev_if (fun _ => Ev_if (fun h => ?_) (fun h => Ev_if (fun h2 => ?_) (fun h2 => ?_))) (fun h => absurd rfl h)
    ·rw [if_pos h] at ho; rw [← ho]; exact b2
    ·rw [if_neg h, if_pos h2] at ho; rw [← ho]; exact b2
    ·rw [if_neg h, if_neg h2] at ho; rw [← ho]; exact b2
   ·by_cases hj : j = i
    ·rw [hj, hx, hy]; exact ⟨hA, hB.1⟩
    ·exact b3 hb j (by omega) h2
  exact step _ rfl
theorem boxGood_ev (a0 : Int) (l1 l2 : List Int) (hl : l1.length ≤ 1000000) (hl2 : l2.length ≤ 1000000) : ∃ b, Ev (fun z => spec_bxGood.f z a0 l1 l2) b ∧ Ev (fun z => impl_isBox.f z a0 l1 l2) (b, a0) ∧
 (b = true → (0 ≤ a0 ∧ a0 ≤ 8) ∧ l2.length = l1.length ∧ l1.length ≤ 3 ∧ ∀ j : Nat, j < l1.length → (-2048 ≤ rd l1 (j : Int) ∧ rd l1 (j : Int) ≤ 2048) ∧ (-2048 ≤ rd l2 (j : Int) ∧ rd l2 (j : Int) ≤ 2048)) := by
 by_cases hk : 0 ≤ a0 ∧ a0 ≤ 8
 rotate_left
 ·refine ⟨false, ?_, ?_, fun h => by cases h⟩
  ·refine Ev_bindS (l1In_eq _ _ _) ?_
   rw [decide_eq_false hk]
   exact Ev_if (fun h => by cases h) (fun _ => Ev.step (fun z => rfl) (by simp only [spec_bxGood.j0]; exact Ev_if (fun _ => Ev.now _) (fun h => absurd trivial h)))
  ·refine Ev_bindS (inside_eq _ _ _) ?_
   rw [decide_eq_false hk]
   exact Ev_if (fun h => by cases h) (fun _ => Ev.step (fun z => rfl) (by simp only [impl_isBox.j0]; exact Ev_if (fun _ => Ev.now _) (fun h => absurd trivial h)))
 by_cases hn : 1 ≤ (l1.length : Int) ∧ (l1.length : Int) ≤ 3
 rotate_left
 ·refine ⟨false, ?_, ?_, fun h => by cases h⟩
  ·refine Ev_bindS (l1In_eq _ _ _) ?_
   rw [decide_eq_true hk]
   refine Ev_if (fun _ => Ev_bindS (l1In_eq _ _ _) ?_) (fun h => absurd rfl h)
   rw [decide_eq_false hn]
   exact Ev_if (fun h => by cases h) (fun _ => Ev.step (fun z => rfl) (by simp only [spec_bxGood.j0]; exact Ev_if (fun _ => Ev.now _) (fun h => absurd trivial h)))
  ·refine Ev_bindS (inside_eq _ _ _) ?_
   rw [decide_eq_true hk]
   refine Ev_if (fun _ => Ev_bindS (inside_eq _ _ _) ?_) (fun h => absurd rfl h)
   rw [decide_eq_false hn]
   exact Ev_if (fun h => by cases h) (fun _ => Ev.step (fun z => rfl) (by simp only [impl_isBox.j0]; exact Ev_if (fun _ => Ev.now _) (fun h => absurd trivial h)))
 by_cases he : l2.length = l1.length
 rotate_left
 ·have hne : ((l2.length : Int) != (l1.length : Int)) = true := bne_iff_ne.mpr (by omega)
  refine ⟨false, ?_, ?_, fun h => by cases h⟩
  ·refine Ev_bindS (l1In_eq _ _ _) ?_
   rw [decide_eq_true hk]
   refine Ev_if (fun _ => Ev_bindS (l1In_eq _ _ _) ?_) (fun h => absurd rfl h)
   rw [decide_eq_true hn, hne]
   exact Ev_if (fun _ => Ev.step (fun z => rfl) (by simp only [spec_bxGood.j0]; exact Ev_if (fun _ => Ev.now _) (fun h => absurd trivial h))) (fun h => absurd rfl h)
  ·refine Ev_bindS (inside_eq _ _ _) ?_
   rw [decide_eq_true hk]
   refine Ev_if (fun _ => Ev_bindS (inside_eq _ _ _) ?_) (fun h => absurd rfl h)
   rw [decide_eq_true hn, hne]
   exact Ev_if (fun _ => Ev.step (fun z => rfl) (by simp only [impl_isBox.j0]; exact Ev_if (fun _ => Ev.now _) (fun h => absurd trivial h))) (fun h => absurd rfl h)
 have hne : ((l2.length : Int) != (l1.length : Int)) = false := bne_eq_false_iff_eq.mpr (by omega)
 have hp := pow8 a0 hk
 obtain ⟨b, b1, b2, b3⟩ := good_loop (8 * 2 ^ a0.toNat) a0 l1 l2 ⟨by omega, by omega⟩ hl he l1.length 0 (a0 == 0) (by omega) (by omega)
 refine ⟨b, ?_, ?_, fun hb => ⟨hk, he, by omega, fun j hj => ?_⟩⟩
 ·refine Ev_bindS (l1In_eq _ _ _) ?_
  rw [decide_eq_true hk]
  refine Ev_if (fun _ => Ev_bindS (l1In_eq _ _ _) ?_) (fun h => absurd rfl h)
  rw [decide_eq_true hn, hne]
  refine Ev_if (fun _ => Ev.step (fun z => rfl) ?_) (fun h => absurd rfl h)
  simp only [spec_bxGood.j0]
  refine Ev_if (fun h => by cases h) (fun _ => Ev_bindS (dyPower62 a0 ⟨hk.1, by omega⟩) ?_)
  rw [show wrap64 (8 * 2 ^ a0.toNat) = 8 * 2 ^ a0.toNat by unfold wrap64; omega]
  exact b1
 ·refine Ev_bindS (inside_eq _ _ _) ?_
  rw [decide_eq_true hk]
  refine Ev_if (fun _ => Ev_bindS (inside_eq _ _ _) ?_) (fun h => absurd rfl h)
  rw [decide_eq_true hn, hne]
  refine Ev_if (fun _ => Ev.step (fun z => rfl) ?_) (fun h => absurd rfl h)
  simp only [impl_isBox.j0]
  refine Ev_if (fun h => by cases h) (fun _ => Ev_if (fun _ => ?_) (fun h => by omega))
  rw [shlBox a0 hk]
  exact b2
 ·have := b3 hb j (by omega) hj
  exact ⟨⟨by omega, by omega⟩, by omega, by omega⟩
theorem nrm_range (k : Nat) (n : Int) (hn : -2048 ≤ n ∧ n ≤ 2048) : -2048 ≤ (nrm k n).1 ∧ (nrm k n).1 ≤ 2048 := by
 induction k generalizing n with
 | zero => exact hn
 | succ k ih =>
  simp only [nrm]
  split
  ·exact ih _ ⟨by omega, by omega⟩
  ·exact hn
theorem num_ev (n a0 : Int) (l1 l2 : List Int) (hn : -2048 ≤ n ∧ n ≤ 2048) (hk : 0 ≤ a0 ∧ a0 ≤ 8) : ∃ a b : Int, Ev (fun z => spec_bxNumber.f z n a0) (a, b) ∧ Ev (fun z => impl_Box_dyadic.f z a0 l1 l2 n) (a, b, a0) ∧ (-2048 ≤ a ∧ a ≤ 2048) ∧ (0 ≤ b ∧ b ≤ 8) := by
 obtain ⟨k, rfl⟩ := Int.eq_ofNat_of_zero_le hk.1
 have hk8 : k ≤ 8 := by omega
 obtain ⟨a, b, c, h1, h2⟩ := both_fit k 0 (by omega) n ⟨by omega, by omega⟩
 rw [Int.pow_zero, Int.mul_one, Nat.add_zero] at h2
 have hr : (-2048 ≤ a ∧ a ≤ 2048) ∧ (0 ≤ b ∧ b ≤ 8) := by
  by_cases h0 : n = 0
  ·have h3 := Ev_unique h1 (by rw [h0]; exact dyMake_zero k)
   injection h3 with e1 e2
   injection e2 with e2 _
   subst e1 e2
   exact ⟨⟨by omega, by omega⟩, by omega, by omega⟩
  ·have h3 := Ev_unique h1 (dyMake_ev k n ⟨by omega, by omega⟩ (by omega) h0)
   have r1 := nrm_range k n hn
   have r2 := (nrm_form k n).1
   unfold mkR at h3
   cases hd : dyB (nrm k n).1 (nrm k n).2 with
   | true =>
    rw [hd] at h3
    injection h3 with e1 e2
    injection e2 with e2 _
    subst e1 e2
    exact ⟨r1, r2.1, by omega⟩
   | false =>
    rw [hd] at h3
    injection h3 with e1 e2
    injection e2 with e2 _
    subst e1 e2
    exact ⟨⟨by omega, by omega⟩, by omega, by omega⟩
 refine ⟨a, b, ?_, ?_, hr.1, hr.2⟩
 ·exact Ev.bind h1 (Ev.now _)
 ·have hw := wideOf_eq n ⟨by omega, by omega⟩
  rw [hw] at h2
  simp only [Option.bind_some] at h2
  unfold impl_Box_dyadic.f
  refine Ev_bindS hw ?_
  exact Ev.bind h2 (Ev.now _)
theorem side_ev (a0 : Int) (l1 l2 : List Int) (i : Nat) (hi : i < l1.length) (he : l2.length = l1.length) (hk : 0 ≤ a0 ∧ a0 ≤ 8) (h1 : -2048 ≤ rd l1 (i : Int) ∧ rd l1 (i : Int) ≤ 2048) (h2 : -2048 ≤ rd l2 (i : Int) ∧ rd l2 (i : Int) ≤ 2048) :
 ∃ a b c d : Int, Ev (fun z => spec_bxNumber.f z (rd l1 (i : Int)) a0) (a, b) ∧ Ev (fun z => spec_bxNumber.f z (rd l2 (i : Int)) a0) (c, d) ∧ Ev (fun z => impl_Box_side.f z a0 l1 l2 (i : Int)) (a, b, c, d, a0) ∧ (-2048 ≤ a ∧ a ≤ 2048) ∧ (0 ≤ b ∧ b ≤ 8) ∧ (-2048 ≤ c ∧ c ≤ 2048) ∧ (0 ≤ d ∧ d ≤ 8) := by
 obtain ⟨a, b, x1, x2, x3, x4⟩ := num_ev (rd l1 (i : Int)) a0 l1 l2 h1 hk
 obtain ⟨c, d, y1, y2, y3, y4⟩ := num_ev (rd l2 (i : Int)) a0 l1 l2 h2 hk
 refine ⟨a, b, c, d, x1, y1, ?_, x3, x4, y3, y4⟩
 unfold impl_Box_side.f
 exact Ev_if (fun _ => Ev_if (fun _ => Ev_if (fun _ => Ev.bind x2 (Ev.bind y2 (Ev.now _))) (fun h => by omega)) (fun h => by omega)) (fun h => by omega)
theorem rdT_get (l : List S44) (i : Nat) (h : i < l.length) : rd_T44 l (i : Int) = l[i] := by simp [rd_T44, h]
theorem bxPoint_l0 (x0 l : List S44) (m : Int) (hl : l.length ≤ 1000000) (n : Nat) : ∀ i : Nat, i ≤ l.length → l.length - i = n → Ev (fun z => spec_bxPoint.l0 z x0 m l (l.length : Int) (i : Int)) ((l.drop i).all (fun x => dyB x.f0 x.f1) && ((x0.length : Int) == m)) := by
 induction n with
 | zero =>
  intro i hi hn
  refine Ev.step (fun z => rfl) ?_
  simp only [spec_bxPoint.l0]
  refine Ev_if (fun h => by omega) (fun _ => Ev_eq (Ev.now _) ?_)
  rw [List.drop_eq_nil_of_le (by omega)]; simp
 | succ n ih =>
  intro i hi hn
  have hlt : i < l.length := by omega
  have j := ih (i + 1) (by omega) (by omega)
  rw [List.drop_eq_getElem_cons hlt, List.all_cons]
  obtain ⟨q, hq⟩ : ∃ q, l[i] = q := ⟨_, rfl⟩
  rw [hq]
  refine Ev.step (fun z => rfl) ?_
  simp only [spec_bxPoint.l0]
  rw [rdT_get l i hlt, hq, wrap_next i (by omega)]
  refine Ev_if (fun _ => Ev_if (fun _ => Ev_if (fun _ => Ev_bindS (dyGood_eq _ _) ?_) (fun h => by omega)) (fun h => by omega)) (fun h => by omega)
  cases dyB q.f0 q.f1 with
  | false => exact Ev_if (fun h => by cases h) (fun _ => Ev.now _)
  | true => exact Ev_if (fun _ => j) (fun h => absurd rfl h)
theorem cfPoint_eq (l : List S44) : impl_Dyadic_86__impl_HasPoint_1.f l = some (!(l.all fun x => dyB x.f0 x.f1)) := by
 induction l with
 | nil => rfl
 | cons x q ih =>
  have h1 : impl_HasPoint_1.f x.f0 x.f1 = some (!(dyB x.f0 x.f1)) := by unfold impl_HasPoint_1.f; rw [isDyadic_eq]; rfl
  simp only [impl_Dyadic_86__impl_HasPoint_1.f]
  rw [h1, Option.bind_some, List.all_cons, ih]
  cases dyB x.f0 x.f1 <;> simp
theorem sgn_gt0 (x : Int) : sgnI x > 0 ↔ x > 0 := by unfold sgnI; split <;> (try split) <;> omega
theorem sgn_lt0 (x : Int) : sgnI x < 0 ↔ x < 0 := by unfold sgnI; split <;> (try split) <;> omega
theorem has_loop (a0 : Int) (l1 l2 : List Int) (p : List S44) (hp : p.length ≤ 1000000) (hk : 0 ≤ a0 ∧ a0 ≤ 8) (he : l2.length = l1.length) (hlen : p.length = l1.length)
 (hr : ∀ j : Nat, j < l1.length → (-2048 ≤ rd l1 (j : Int) ∧ rd l1 (j : Int) ≤ 2048) ∧ (-2048 ≤ rd l2 (j : Int) ∧ rd l2 (j : Int) ≤ 2048))
 (hd : ∀ x ∈ p, dyB x.f0 x.f1 = true) (n : Nat) : ∀ i : Nat, i ≤ p.length → p.length - i = n →
 ∃ b, Ev (fun z => spec_bxHas.l0 z p (p.length : Int) (i : Int) a0 l1 l2) b ∧ Ev (fun z => impl_HasPoint.l0 z p (p.length : Int) (i : Int) a0 l1 l2) (b, true) := by
 induction n with
 | zero =>
  intro i hi hn
  refine ⟨true, ?_, ?_⟩
  ·refine Ev.step (fun z => rfl) ?_
   simp only [spec_bxHas.l0]
   exact Ev_if (fun h => by omega) (fun _ => Ev.now _)
  ·refine Ev.step (fun z => rfl) ?_
   simp only [impl_HasPoint.l0]
   exact Ev_if (fun h => by omega) (fun _ => Ev.now _)
 | succ n ih =>
  intro i hi hn
  have hlt : i < p.length := by omega
  obtain ⟨c, j1, j2⟩ := ih (i + 1) (by omega) (by omega)
  obtain ⟨q, hq⟩ : ∃ q, p[i] = q := ⟨_, rfl⟩
  have hqd := hd q (by rw [← hq]; exact List.getElem_mem hlt)
  obtain ⟨⟨k0, k1⟩, n0, n1⟩ := dyB_range _ _ hqd
  have hr2 := hr i (by omega)
  obtain ⟨a, b, u, v, s1, s2, s3, ra, rb, ru, rv⟩ := side_ev a0 l1 l2 i (by omega) he hk hr2.1 hr2.2
  have c1 := dyCmp_ev a b q.f0 q.f1 ⟨by omega, by omega⟩ ⟨rb.1, by omega⟩ ⟨n0, n1⟩ ⟨k0, k1⟩
  have c2 := dyCmp_ev q.f0 q.f1 u v ⟨n0, n1⟩ ⟨k0, k1⟩ ⟨by omega, by omega⟩ ⟨rv.1, by omega⟩
  have d1 := compareD_ev q.f0 q.f1 a b ⟨n0, n1⟩ ⟨k0, k1⟩ ⟨by omega, by omega⟩ ⟨rb.1, by omega⟩
  have d2 := compareD_ev q.f0 q.f1 u v ⟨n0, n1⟩ ⟨k0, k1⟩ ⟨by omega, by omega⟩ ⟨rv.1, by omega⟩
  obtain ⟨A, hA⟩ : ∃ A, dv a b = A := ⟨_, rfl⟩
  obtain ⟨Q, hQ⟩ : ∃ Q, dv q.f0 q.f1 = Q := ⟨_, rfl⟩
  obtain ⟨U, hU⟩ : ∃ U, dv u v = U := ⟨_, rfl⟩
  rw [hA, hQ] at c1 d1
  rw [hQ, hU] at c2 d2
  have E : ∀ b1 : Bool, (b1 = if A - Q > 0 then false else if Q - U > 0 then false else c) → Ev (fun z => spec_bxHas.l0 z p (p.length : Int) (i : Int) a0 l1 l2) b1 ∧ Ev (fun z => impl_HasPoint.l0 z p (p.length : Int) (i : Int) a0 l1 l2) (b1, true) := by
   intro b1 hb1
   refine ⟨?_, ?_⟩
   ·refine Ev.step (fun z => rfl) ?_
    simp only [spec_bxHas.l0]
    rw [rdT_get p i hlt, hq, wrap_next i (by omega)]
    refine Ev_if (fun _ => Ev_if (fun _ => Ev_if (fun _ => Ev_if (fun _ => ?_) (fun h => by omega)) (fun h => by omega)) (fun h => by omega)) (fun h => by omega)
    refine Ev.bind s1 (Ev.bind c1 (Ev_if (fun h => ?_) (fun h => Ev_if (fun _ => Ev.bind s2 (Ev.bind c2 (Ev_if (fun h2 => ?_) (fun h2 => ?_)))) (fun h => by omega))))
    ·rw [sgn_gt0] at h; rw [if_pos h] at hb1; rw [hb1]; exact Ev.now _
    ·rw [sgn_gt0] at h h2; rw [if_neg h, if_pos h2] at hb1; rw [hb1]; exact Ev.now _
    ·rw [sgn_gt0] at h h2; rw [if_neg h, if_neg h2] at hb1; rw [hb1]; exact j1
   ·refine Ev.step (fun z => rfl) ?_
    simp only [impl_HasPoint.l0]
    rw [rdT_get p i hlt, hq, wrap_next i (by omega)]
    refine Ev_if (fun _ => Ev_if (fun _ => Ev_if (fun _ => ?_) (fun h => by omega)) (fun h => by omega)) (fun h => by omega)
    refine Ev.bind s3 (Ev.bind d1 (Ev_if (fun h => ?_) (fun h => Ev.bind d2 (Ev_if (fun h2 => ?_) (fun h2 => ?_)))))
    ·rw [sgn_lt0] at h; rw [if_pos (by omega)] at hb1; rw [hb1]; exact Ev.now _
    ·rw [sgn_lt0] at h; rw [sgn_gt0] at h2; rw [if_neg (by omega), if_pos h2] at hb1; rw [hb1]; exact Ev.now _
    ·rw [sgn_lt0] at h; rw [sgn_gt0] at h2; rw [if_neg (by omega), if_neg h2] at hb1; rw [hb1]; exact j2
  obtain ⟨e1, e2⟩ := E _ rfl
  exact ⟨_, e1, e2⟩
theorem Pure_holds : Pure := by
 intro a0 l1 l2 l hl
 have hq : (l.map cvDyadicS).length ≤ 1000000 := by simp; omega
 generalize l.map cvDyadicS = p at hq
 have key : ∃ r1 r2, Ev (fun z => spec_HasPoint.f z a0 l1 l2 p) (r1, r2) ∧ Ev (fun z => impl_HasPoint.f z a0 l1 l2 p) (r1, r2) := by
  obtain ⟨g, g1, g2, g3⟩ := boxGood_ev a0 l1 l2 (by omega) (by omega)
  have hpt := bxPoint_l0 p p (l1.length : Int) hq p.length 0 (by omega) (by omega)
  rw [List.drop_zero] at hpt
  have hj : Ev (fun z => impl_HasPoint.j0 z p true a0 l1 l2) (false, false) := Ev.step (fun z => rfl) (by simp only [impl_HasPoint.j0]; exact Ev_if (fun _ => Ev.now _) (fun h => absurd trivial h))
  cases g with
  | false =>
   refine ⟨false, false, Ev.bind g1 (Ev_if (fun h => by cases h) (fun _ => Ev.now _)), Ev.bind g2 (Ev_if (fun h => by cases h) (fun _ => hj))⟩
  | true =>
   obtain ⟨hk, he, h3, hr⟩ := g3 rfl
   by_cases hlen : (p.length : Int) = (l1.length : Int)
   rotate_left
   ·have e1 : ((p.length : Int) == (l1.length : Int)) = false := beq_eq_false_iff_ne.mpr hlen
    rw [e1, Bool.and_false] at hpt
    refine ⟨false, false, Ev.bind g1 (Ev_if (fun _ => Ev.bind hpt (Ev_if (fun h => by cases h) (fun _ => Ev.now _))) (fun h => absurd rfl h)), Ev.bind g2 (Ev_if (fun _ => Ev_if (fun h => absurd h hlen) (fun _ => hj)) (fun h => absurd rfl h))⟩
   have e1 : ((p.length : Int) == (l1.length : Int)) = true := beq_iff_eq.mpr hlen
   rw [e1, Bool.and_true] at hpt
   cases ha : p.all fun x => dyB x.f0 x.f1 with
   | false =>
    rw [ha] at hpt
    refine ⟨false, false, Ev.bind g1 (Ev_if (fun _ => Ev.bind hpt (Ev_if (fun h => by cases h) (fun _ => Ev.now _))) (fun h => absurd rfl h)), Ev.bind g2 (Ev_if (fun _ => Ev_if (fun _ => Ev_bindS (cfPoint_eq p) ?_) (fun h => absurd hlen h)) (fun h => absurd rfl h))⟩
    rw [ha]; exact hj
   | true =>
    rw [ha] at hpt
    obtain ⟨b, b1, b2⟩ := has_loop a0 l1 l2 p hq hk he (by omega) hr (fun x hx => List.all_eq_true.mp ha x hx) p.length 0 (by omega) (by omega)
    refine ⟨b, true, Ev.bind g1 (Ev_if (fun _ => Ev.bind hpt (Ev_if (fun _ => Ev.bind b1 (Ev.now _)) (fun h => absurd rfl h))) (fun h => absurd rfl h)), Ev.bind g2 (Ev_if (fun _ => Ev_if (fun _ => Ev_bindS (cfPoint_eq p) ?_) (fun h => absurd hlen h)) (fun h => absurd rfl h))⟩
    rw [ha]
    refine Ev.step (fun z => rfl) ?_
    simp only [impl_HasPoint.j0]
    exact Ev_if (fun h => by cases h) (fun _ => b2)
 obtain ⟨r1, r2, h1, h2⟩ := key
 obtain ⟨ks, ki, h, h'⟩ := Ev_both h1 h2
 exact ⟨ks, ki, r1, r2, h, h'⟩
end Go.Proofs.Ytalcohajbcijlaa.QHps
