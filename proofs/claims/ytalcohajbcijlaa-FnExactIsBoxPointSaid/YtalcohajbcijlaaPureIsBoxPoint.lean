/- Plain law: the reference's and the program's IsBoxPoint come to the same, over numbers and lists alone. -/
import Derived.Test.YtalcohajbcijlaaLIsBoxPoint
namespace Go.Proofs.Ytalcohajbcijlaa.QBp
open Go.RowKit Go.Proofs.YtalcohajbcijlaaW.PrintWords Go.Proofs.YtalcohajbcijlaaW.PrintLast Go.Proofs.YtalcohajbcijlaaW.PrintMore
set_option linter.unusedVariables false
set_option linter.unusedSimpArgs false
theorem Ev_if {α : Type} {c : Prop} [Decidable c] {g f : Nat → Option α} {r : α} (hp : c → Ev g r) (hn : ¬ c → Ev f r) : Ev (fun k => if c then g k else f k) r := by
  by_cases h : c
  · simp only [if_pos h]; exact hp h
  · simp only [if_neg h]; exact hn h
theorem Ev_bindS {α β : Type} {a : Option α} {x : α} {f : Nat → α → Option β} {r : β} (h : a = some x) (k : Ev (fun n => f n x) r) : Ev (fun n => a.bind (f n)) r := by
  subst h; simpa only [Option.bind_some] using k
theorem Ev_eq {α : Type} {g : Nat → Option α} {r r' : α} (h : Ev g r) (e : r = r') : Ev g r' := e ▸ h
theorem Ev_both {α β : Type} {g : Nat → Option α} {f : Nat → Option β} {r : α} {q : β} (h : Ev g r) (h' : Ev f q) : ∃ ks ki, g ks = some r ∧ f ki = some q := by
  obtain ⟨a, ha⟩ := h.rounds
  obtain ⟨b, hb⟩ := h'.rounds
  exact ⟨a, b, ha, hb⟩
theorem l1In_eq (a b c : Int) : spec_l1In.f a b c = some (decide (b ≤ a ∧ a ≤ c)) := by
  unfold spec_l1In.f; by_cases h : b ≤ a <;> simp [h]
theorem inside_eq (a b c : Int) : impl_inside.f a b c = some (decide (b ≤ a ∧ a ≤ c)) := by
  unfold impl_inside.f; by_cases h : b ≤ a <;> simp [h]
theorem rd_getElem (l : List Int) (i : Nat) (h : i < l.length) : rd l (i : Int) = l[i] := by simp [rd, h]
theorem wrap_next (i : Nat) (h : i < 9223372036854775807) : wrap64 ((i : Int) + 1) = ((i + 1 : Nat) : Int) := by unfold wrap64; omega
theorem all_drop (l : List Int) (p : Int → Bool) (i : Nat) (h : i < l.length) : (l.drop i).all p = (p (rd l (i : Int)) && (l.drop (i + 1)).all p) := by
  rw [List.drop_eq_getElem_cons h, List.all_cons, rd_getElem l i h]
theorem rd_mem (l : List Int) (i : Nat) (h : i < l.length) : rd l (i : Int) ∈ l := by rw [rd_getElem l i h]; exact List.getElem_mem h
theorem drop_rd (l : List Int) (i : Nat) (h : i < l.length) : l.drop i = rd l (i : Int) :: l.drop (i + 1) := by rw [rd_getElem l i h]; exact List.drop_eq_getElem_cons h
theorem wrap_sum (i k : Nat) (h : i + k ≤ 4000000000000) : wrap64 ((i : Int) + (k : Int)) = ((i + k : Nat) : Int) := by unfold wrap64; omega
def sgnI (x : Int) : Int := if x > 0 then 1 else if x < 0 then -1 else 0
theorem isPlaces_eq (a : Int) : impl_isPlaces.f a = some (decide (0 ≤ a ∧ a ≤ 24)) := by
  unfold impl_isPlaces.f; rw [inside_eq]; rfl
/-- A valid dyadic number. -/
def dyB (n k : Int) : Bool := if decide (0 ≤ k ∧ k ≤ 24) then (if decide ((-1099511627776) ≤ n ∧ n ≤ 1099511627776) then (if k = 0 then true else (Int.tmod n 2 != 0)) else false) else false
theorem dyGood_eq (n k : Int) : spec_dyGood.f n k = some (dyB n k) := by
  unfold spec_dyGood.f dyB; simp only [l1In_eq, Option.bind_some]
  split <;> (try split) <;> (try split) <;> simp_all
theorem isDyadic_eq (n k : Int) : impl_isDyadic.f n k = some (dyB n k) := by
  unfold impl_isDyadic.f dyB; simp only [isPlaces_eq, inside_eq, Option.bind_some]
  split <;> (try split) <;> (try split) <;> simp_all
theorem dyB_range (n k : Int) (h : dyB n k = true) : (0 ≤ k ∧ k ≤ 24) ∧ ((-1099511627776) ≤ n ∧ n ≤ 1099511627776) := by
  unfold dyB at h
  by_cases h1 : 0 ≤ k ∧ k ≤ 24
  · rw [decide_eq_true h1, if_pos rfl] at h
    by_cases h2 : (-1099511627776) ≤ n ∧ n ≤ 1099511627776
    · exact ⟨h1, h2⟩
    · rw [decide_eq_false h2] at h; simp at h
  · rw [decide_eq_false h1] at h; simp at h
theorem l1Sign_eq (x : Int) : spec_l1Sign.f x = some (sgnI x) := by
  unfold spec_l1Sign.f sgnI; split
  · rfl
  · split <;> rfl
theorem u64r (n : Int) (h : 0 ≤ n ∧ n < 18446744073709551616) : IntKind.u64.wrap n = n := by simp [IntKind.wrap, IntKind.signed, IntKind.bits]; omega
theorem u64m (n : Int) : IntKind.u64.wrap n = n % 18446744073709551616 := by simp [IntKind.wrap, IntKind.signed, IntKind.bits]
theorem or64 (a b : Int) (n : Nat) (ha : 0 ≤ a) (hb : 0 ≤ b ∧ b < 2 ^ n) (hab : a * 2 ^ n + b < 18446744073709551616) : Go.bits .or .u64 (a * 2 ^ n) b = a * 2 ^ n + b := by
  obtain ⟨x, rfl⟩ := Int.eq_ofNat_of_zero_le ha
  obtain ⟨y, rfl⟩ := Int.eq_ofNat_of_zero_le hb.1
  have hy : y < 2 ^ n := by have := hb.2; exact_mod_cast this
  have e1 : (x : Int) * 2 ^ n = ((2 ^ n * x : Nat) : Int) := by push_cast; rw [Int.mul_comm]
  have hor := Nat.two_pow_add_eq_or_of_lt hy x
  have h64 : IntKind.u64.bits = 64 := rfl
  rw [e1] at hab ⊢
  obtain ⟨z, hz⟩ : ∃ z, 2 ^ n * x = z := ⟨_, rfl⟩
  rw [hz] at hab hor ⊢
  unfold Go.bits
  simp only [h64, BitVec.toNat_or, BitVec.ofInt_natCast, BitVec.toNat_ofNat]
  rw [Nat.mod_eq_of_lt (show z < 2 ^ 64 by omega), Nat.mod_eq_of_lt (show y < 2 ^ 64 by omega), ← hor]
  rw [u64r _ ⟨by omega, by omega⟩]
  push_cast; rfl
theorem shl64 (x : Int) (s : Nat) (h : s ≤ 64) : shl .u64 x (s : Int) = x * 2 ^ s % 18446744073709551616 := by
  unfold shl
  rw [Int.toNat_natCast, Nat.min_eq_left (by show s ≤ 64; exact h), u64m]
theorem shr64 (x : Int) (s : Nat) (h : s ≤ 64) : shr .u64 x (s : Int) = x / 2 ^ s := by
  unfold shr
  rw [Int.toNat_natCast, Nat.min_eq_left (by show s ≤ 64; exact h)]
theorem split64 (m : Int) (s : Nat) (h : s ≤ 64) : m * 2 ^ s / 18446744073709551616 = m / 2 ^ (64 - s) := by
  have e : (18446744073709551616 : Int) = 2 ^ (64 - s) * 2 ^ s := by rw [← Int.pow_add, show 64 - s + s = 64 by omega]; rfl
  rw [e, Int.mul_ediv_mul_of_pos_left _ _ (Int.pow_pos (by omega))]
theorem pow1 (n : Nat) : (1 : Int) ≤ 2 ^ n := Int.pow_pos (by omega)
theorem pow_split (a b : Nat) (h : b ≤ a) : (2 : Int) ^ a = 2 ^ (a - b) * 2 ^ b := by rw [← Int.pow_add, show a - b + b = a by omega]
theorem pow_le2 (a b : Nat) (h : a ≤ b) : (2 : Int) ^ a ≤ 2 ^ b := by have := Nat.pow_le_pow_right (show 0 < 2 by omega) h; exact_mod_cast this
theorem pow62 (n : Nat) (h : n ≤ 62) : (2 : Int) ^ n ≤ 4611686018427387904 := by
  have h1 := pow_le2 n 62 h
  have h2 : (2 : Int) ^ 62 = 4611686018427387904 := by decide
  omega
theorem sgn_mul (c x : Int) (h : 0 < c) : sgnI (c * x) = sgnI x := by
  unfold sgnI
  by_cases h1 : x > 0
  · rw [if_pos (Int.mul_pos h h1), if_pos h1]
  · rw [if_neg h1]
    by_cases h2 : x < 0
    · have := Int.mul_neg_of_pos_of_neg h h2
      rw [if_neg (by omega), if_pos this, if_pos h2]
    · have : x = 0 := by omega
      subst this; rw [if_neg (by simp), if_neg (by simp), if_neg (by omega)]
theorem sgn_pos (x : Int) (h : 0 < x) : sgnI x = 1 := by unfold sgnI; rw [if_pos h]
theorem sgn_neg (x : Int) (h : x < 0) : sgnI x = -1 := by unfold sgnI; rw [if_neg (by omega), if_pos h]
theorem sgn_zero : sgnI 0 = 0 := rfl
/-- A dyadic number, times 2^24. -/
def dv (n k : Int) : Int := n * 2 ^ (24 - k.toNat)
theorem dyPower62 (k : Int) (h : 0 ≤ k ∧ k ≤ 62) : spec_dyPower.f k = some (2 ^ k.toNat) := by
  have h1 := pow1 k.toNat
  have h2 := pow62 k.toNat (by omega)
  have h3 : shl .i64 1 k = 2 ^ k.toNat := by
    unfold shl
    rw [Nat.min_eq_left (by show k.toNat ≤ 64; omega), Int.one_mul, i64_w]; unfold wrap64; omega
  unfold spec_dyPower.f
  have e : IntKind.u64.wrap k = k := u64r _ ⟨by omega, by omega⟩
  rw [e, if_pos h.1, h3]
theorem tdiv_floor (a b : Int) (hb : 0 < b) : Int.tdiv a b = if Int.tmod a b < 0 then a / b + 1 else a / b := by
  have h1 := Int.mul_ediv_add_emod a b
  have h2 := Int.mul_tdiv_add_tmod a b
  have h3 := Int.emod_nonneg a (show b ≠ 0 by omega)
  have h4 := Int.emod_lt_of_pos a hb
  have h5 : -b < Int.tmod a b ∧ Int.tmod a b < b := by
    have := Int.tmod_lt_of_pos a hb
    have := Int.lt_tmod_of_pos a hb
    omega
  obtain ⟨q, hq⟩ : ∃ q, Int.tdiv a b = q := ⟨_, rfl⟩
  obtain ⟨p, hp⟩ : ∃ p, a / b = p := ⟨_, rfl⟩
  rw [hq] at h2 ⊢
  rw [hp] at h1 ⊢
  by_cases h : Int.tmod a b < 0
  · rw [if_pos h]
    have e : b * (q - p - 1) = a % b - Int.tmod a b - b := by rw [Int.mul_sub, Int.mul_sub]; omega
    rcases Int.lt_trichotomy (q - p - 1) 0 with h6 | h6 | h6
    · have := Int.mul_le_mul_of_nonneg_left (show q - p - 1 ≤ -1 by omega) (show 0 ≤ b by omega)
      omega
    · omega
    · have := Int.mul_le_mul_of_nonneg_left (show 1 ≤ q - p - 1 by omega) (show 0 ≤ b by omega)
      omega
  · rw [if_neg h]
    have e : b * (q - p) = a % b - Int.tmod a b := by rw [Int.mul_sub]; omega
    rcases Int.lt_trichotomy (q - p) 0 with h6 | h6 | h6
    · have := Int.mul_le_mul_of_nonneg_left (show q - p ≤ -1 by omega) (show 0 ≤ b by omega)
      omega
    · omega
    · have := Int.mul_le_mul_of_nonneg_left (show 1 ≤ q - p by omega) (show 0 ≤ b by omega)
      omega
theorem dyDown_gen (a b : Int) (ha : -4611686018427387904 ≤ a ∧ a ≤ 4611686018427387904) (hb : 0 < b) : spec_dyDown.f a b = some (a / b) := by
  have h1 := tdiv_floor a b hb
  have h2 : -4611686018427387904 ≤ Int.tdiv a b ∧ Int.tdiv a b ≤ 4611686018427387904 := by
    have h3 : (Int.tdiv a b).natAbs ≤ a.natAbs := by rw [Int.natAbs_tdiv]; exact Nat.div_le_self _ _
    omega
  unfold spec_dyDown.f
  rw [if_neg (by omega)]
  by_cases h : Int.tmod a b < 0
  · rw [if_pos h] at h1 ⊢
    congr 1
    rw [show wrap64 (Int.tdiv a b) = Int.tdiv a b by unfold wrap64; omega]
    unfold wrap64; omega
  · rw [if_neg h] at h1 ⊢
    congr 1
    unfold wrap64; omega
theorem dyFloor_eq (n k : Int) (hn : -1099511627776 ≤ n ∧ n ≤ 1099511627776) (hk : 0 ≤ k ∧ k ≤ 24) : spec_dyFloor.f n k = some (n / 2 ^ k.toNat) := by
  unfold spec_dyFloor.f
  rw [dyPower62 k ⟨hk.1, by omega⟩, Option.bind_some, dyDown_gen n _ ⟨by omega, by omega⟩ (by have := pow1 k.toNat; omega)]; rfl
theorem dyAt_l0 (t k0 : Int) (d : Nat) : ∀ (n i : Int), 0 ≤ i → i ≤ t → t ≤ 1000 → (t - i).toNat = d → -1152921504606846976 ≤ n * 2 ^ d ∧ n * 2 ^ d ≤ 1152921504606846976 → Ev (fun z => spec_dyAt.l0 z t i n k0) (n * 2 ^ d, true) := by
  induction d with
  | zero =>
    intro n i h0 hi ht hd hn
    refine Ev.step (fun z => rfl) ?_
    simp only [spec_dyAt.l0]
    refine Ev_if (fun h => by omega) (fun _ => ?_)
    refine Ev_eq (Ev.now _) ?_
    simp
  | succ d ih =>
    intro n i h0 hi ht hd hn
    have e : n * 2 ^ (d + 1) = n * 2 * 2 ^ d := by rw [Int.pow_succ]; grind
    have hp := pow1 d
    have hn2 : -1152921504606846976 ≤ n * 2 ∧ n * 2 ≤ 1152921504606846976 := by
      rw [e] at hn
      obtain ⟨x, hx⟩ : ∃ x, n * 2 = x := ⟨_, rfl⟩
      rw [hx] at hn ⊢
      rcases Int.le_total 0 x with h | h
      · have := Int.mul_le_mul_of_nonneg_left hp h; omega
      · have := Int.mul_le_mul_of_nonneg_left hp (show 0 ≤ -x by omega)
        simp only [Int.neg_mul] at this; omega
    refine Ev.step (fun z => rfl) ?_
    simp only [spec_dyAt.l0]
    rw [show wrap64 (i + 1) = i + 1 by unfold wrap64; omega, show wrap64 (n * 2) = n * 2 by unfold wrap64; omega]
    refine Ev_if (fun _ => Ev_bindS (dyPower62 60 ⟨by omega, by omega⟩) (Ev_bindS (l1In_eq _ _ _) (Ev_if (fun _ => ?_) (fun h => ?_)))) (fun h => by omega)
    · rw [e] at hn ⊢
      exact ih (n * 2) (i + 1) (by omega) (by omega) ht (by omega) hn
    · exfalso; apply h
      apply decide_eq_true
      have e60 : (2 : Int) ^ (60 : Int).toNat = 1152921504606846976 := by decide
      rw [e60, show wrap64 (-1152921504606846976) = -1152921504606846976 by unfold wrap64; omega]; omega
theorem dyAt_ev (n k t : Int) (hk : 0 ≤ k ∧ k ≤ t) (ht : t ≤ 1000) (hn : -1152921504606846976 ≤ n * 2 ^ (t - k).toNat ∧ n * 2 ^ (t - k).toNat ≤ 1152921504606846976) : Ev (fun z => spec_dyAt.f z n k t) (n * 2 ^ (t - k).toNat, true) := by
  unfold spec_dyAt.f
  refine Ev_if (fun h => ?_) (fun _ => dyAt_l0 t k _ n k hk.1 hk.2 ht rfl hn)
  subst h; simp only [Int.zero_mul]; exact Ev.now _
/-- The reference's comparison of dyadic numbers. -/
theorem dyCmp_ev (n1 k1 n2 k2 : Int) (hn1 : -1099511627776 ≤ n1 ∧ n1 ≤ 1099511627776) (hk1 : 0 ≤ k1 ∧ k1 ≤ 24) (hn2 : -1099511627776 ≤ n2 ∧ n2 ≤ 1099511627776) (hk2 : 0 ≤ k2 ∧ k2 ≤ 24) :
    Ev (fun z => spec_dyCmp.f z n1 k1 n2 k2) (sgnI (dv n1 k1 - dv n2 k2)) := by
  have key : ∀ n k : Int, -1099511627776 ≤ n ∧ n ≤ 1099511627776 → 0 ≤ k ∧ k ≤ 24 → ∃ q r : Int, n / 2 ^ k.toNat = q ∧ -1099511627776 ≤ q ∧ q ≤ 1099511627776 ∧ wrap64 (n - wrap64 (q * 2 ^ k.toNat)) = r ∧ Ev (fun z => spec_dyAt.f z r k 24) (r * 2 ^ (24 - k.toNat), true) ∧ dv n k = q * 16777216 + r * 2 ^ (24 - k.toNat) ∧ 0 ≤ r * 2 ^ (24 - k.toNat) ∧ r * 2 ^ (24 - k.toNat) < 16777216 := by
    intro n k hn hk
    obtain ⟨q, hq⟩ : ∃ q, n / 2 ^ k.toNat = q := ⟨_, rfl⟩
    have hp := pow1 k.toNat
    have hp2 := pow_le2 k.toNat 24 (by omega)
    have h1 := Int.mul_ediv_add_emod n (2 ^ k.toNat)
    have h2 := Int.emod_nonneg n (show (2 : Int) ^ k.toNat ≠ 0 by omega)
    have h3 := Int.emod_lt_of_pos n (show (0 : Int) < 2 ^ k.toNat by omega)
    rw [hq] at h1
    have hqr : -1099511627776 ≤ q ∧ q ≤ 1099511627776 := by
      rw [← hq]
      refine ⟨?_, ?_⟩
      · apply Int.le_ediv_of_mul_le (by omega)
        have := Int.mul_le_mul_of_nonneg_left hp (show (0 : Int) ≤ 1099511627776 by omega)
        omega
      · rcases Int.le_total 0 n with h | h
        · have := Int.ediv_le_self (2 ^ k.toNat) h; omega
        · have : n / 2 ^ k.toNat ≤ 0 := by
            have := Int.ediv_le_ediv (show (0 : Int) < 2 ^ k.toNat by omega) h
            simpa using this
          omega
    have hw : wrap64 (q * 2 ^ k.toNat) = q * 2 ^ k.toNat := by
      have : q * 2 ^ k.toNat = 2 ^ k.toNat * q := Int.mul_comm _ _
      unfold wrap64; omega
    have hr : wrap64 (n - wrap64 (q * 2 ^ k.toNat)) = n % 2 ^ k.toNat := by
      rw [hw]
      have : q * 2 ^ k.toNat = 2 ^ k.toNat * q := Int.mul_comm _ _
      unfold wrap64; omega
    have e24 : (24 : Int) - k = ((24 - k.toNat : Nat) : Int) := by omega
    have hp24 : (2 : Int) ^ (24 - k.toNat) * 2 ^ k.toNat = 16777216 := by rw [← pow_split 24 k.toNat (by omega)]; rfl
    have hb0 : 0 ≤ n % 2 ^ k.toNat * 2 ^ (24 - k.toNat) := Int.mul_nonneg h2 (by have := pow1 (24 - k.toNat); omega)
    have hb1 : n % 2 ^ k.toNat * 2 ^ (24 - k.toNat) < 16777216 := by
      have := Int.mul_lt_mul_of_pos_right h3 (show (0 : Int) < 2 ^ (24 - k.toNat) by have := pow1 (24 - k.toNat); omega)
      rw [Int.mul_comm (2 ^ k.toNat)] at this; omega
    refine ⟨q, n % 2 ^ k.toNat, hq, hqr.1, hqr.2, hr, ?_, ?_, hb0, hb1⟩
    · have h := dyAt_ev (n % 2 ^ k.toNat) k 24 hk (by omega) (by rw [e24, Int.toNat_natCast]; omega)
      rw [e24, Int.toNat_natCast] at h; exact h
    · unfold dv
      have e : n * 2 ^ (24 - k.toNat) = (2 ^ k.toNat * q + n % 2 ^ k.toNat) * 2 ^ (24 - k.toNat) := by rw [h1]
      rw [e, Int.add_mul, Int.mul_comm (2 ^ k.toNat) q, Int.mul_assoc, Int.mul_comm (2 ^ k.toNat) (2 ^ (24 - k.toNat)), hp24]
  obtain ⟨q1, r1, a1, a2, a3, a4, a5, a6, a7, a8⟩ := key n1 k1 hn1 hk1
  obtain ⟨q2, r2, b1, b2, b3, b4, b5, b6, b7, b8⟩ := key n2 k2 hn2 hk2
  have f1 := dyFloor_eq n1 k1 hn1 hk1
  have f2 := dyFloor_eq n2 k2 hn2 hk2
  rw [a1] at f1
  rw [b1] at f2
  rw [a6, b6]
  obtain ⟨x, hx⟩ : ∃ x, r1 * 2 ^ (24 - k1.toNat) = x := ⟨_, rfl⟩
  obtain ⟨y, hy⟩ : ∃ y, r2 * 2 ^ (24 - k2.toNat) = y := ⟨_, rfl⟩
  rw [hx] at a5 a7 a8 ⊢
  rw [hy] at b5 b7 b8 ⊢
  unfold spec_dyCmp.f
  refine Ev_bindS f1 (Ev_bindS f2 (Ev_if (fun h => ?_) (fun h => ?_)))
  · subst h
    refine Ev_bindS (dyPower62 k1 ⟨hk1.1, by omega⟩) ?_
    rw [a4]
    refine Ev.bind a5 (Ev_bindS (dyPower62 k2 ⟨hk2.1, by omega⟩) ?_)
    rw [b4]
    refine Ev.bind b5 (Ev_bindS (l1Sign_eq _) (Ev_eq (Ev.now _) ?_))
    rw [show wrap64 (x - y) = q1 * 16777216 + x - (q1 * 16777216 + y) by unfold wrap64; omega]
  · refine Ev_bindS (l1Sign_eq _) (Ev_eq (Ev.now _) ?_)
    rw [show wrap64 (q1 - q2) = q1 - q2 by unfold wrap64; omega]
    rcases Int.lt_or_gt_of_ne h with h1 | h1
    · rw [sgn_neg _ (by omega), sgn_neg (q1 * 16777216 + x - (q2 * 16777216 + y)) (by omega)]
    · rw [sgn_pos _ (by omega), sgn_pos (q1 * 16777216 + x - (q2 * 16777216 + y)) (by omega)]
/-- A number that may be one of a box point. -/
def boxNum (n k : Int) : Bool := dyB n k && (decide (k ≤ 9) && decide (-8 * 2 ^ k.toNat ≤ n ∧ n ≤ 8 * 2 ^ k.toNat))
theorem shl8 (c k : Int) (hk : 0 ≤ k ∧ k ≤ 9) (hc : c = 8 ∨ c = -8) : shl .i64 c k = c * 2 ^ k.toNat := by
  have h1 := pow1 k.toNat
  have h2 := pow_le2 k.toNat 9 (by omega)
  unfold shl
  rw [Nat.min_eq_left (by show k.toNat ≤ 64; omega), i64_w]
  rcases hc with rfl | rfl <;> (unfold wrap64; omega)
theorem isBoxNumber_eq (n k : Int) : impl_isBoxNumber.f n k = some (boxNum n k) := by
  unfold impl_isBoxNumber.f boxNum
  rw [isDyadic_eq, Option.bind_some]
  cases hd : dyB n k with
  | false => rw [if_neg (by decide)]; rfl
  | true =>
    rw [if_pos rfl]
    obtain ⟨⟨k0, k1⟩, n0, n1⟩ := dyB_range n k hd
    by_cases h9 : k ≤ 9
    · rw [if_pos h9, if_pos k0, shl8 _ k ⟨k0, h9⟩ (.inl rfl), shl8 _ k ⟨k0, h9⟩ (.inr rfl), inside_eq, decide_eq_true h9]; rfl
    · rw [if_neg h9, decide_eq_false h9]; rfl
theorem dv_eight (n k : Int) (hk : 0 ≤ k ∧ k ≤ 24) (c : Int) : dv n k - dv c 0 = 2 ^ (24 - k.toNat) * (n - c * 2 ^ k.toNat) := by
  unfold dv
  have e := pow_split 24 k.toNat (by omega)
  rw [show (0 : Int).toNat = 0 by rfl, Nat.sub_zero, e]; grind
theorem num_low (n k : Int) (hn : -1099511627776 ≤ n ∧ n ≤ 1099511627776) (hk : 0 ≤ k ∧ k ≤ 24) : Ev (fun z => spec_dyCmp.f z n k (-8) 0) (sgnI (n - (-8) * 2 ^ k.toNat)) := by
  have h := dyCmp_ev n k (-8) 0 hn hk ⟨by omega, by omega⟩ ⟨by omega, by omega⟩
  rw [dv_eight n k hk, sgn_mul _ _ (by have := pow1 (24 - k.toNat); omega)] at h; exact h
theorem num_high (n k : Int) (hn : -1099511627776 ≤ n ∧ n ≤ 1099511627776) (hk : 0 ≤ k ∧ k ≤ 24) : Ev (fun z => spec_dyCmp.f z 8 0 n k) (sgnI (8 * 2 ^ k.toNat - n)) := by
  have h := dyCmp_ev 8 0 n k ⟨by omega, by omega⟩ ⟨by omega, by omega⟩ hn hk
  have e : dv 8 0 - dv n k = 2 ^ (24 - k.toNat) * (8 * 2 ^ k.toNat - n) := by have := dv_eight n k hk 8; grind
  rw [e, sgn_mul _ _ (by have := pow1 (24 - k.toNat); omega)] at h; exact h
theorem sgn_lt (x : Int) : sgnI x < 0 ↔ x < 0 := by unfold sgnI; split <;> (try split) <;> omega
def ptNum (x : S44) : Bool := boxNum x.f0 x.f1
theorem rdT_get (l : List S44) (i : Nat) (h : i < l.length) : rd_T44 l (i : Int) = l[i] := by simp [rd_T44, h]
theorem vaPoint_l0 (x0 l : List S44) (hl : l.length ≤ 1000000) (n : Nat) : ∀ i : Nat, i ≤ l.length → l.length - i = n → Ev (fun z => spec_vaPoint.l0 z x0 l (l.length : Int) (i : Int)) ((l.drop i).all ptNum && decide (1 ≤ (x0.length : Int) ∧ (x0.length : Int) ≤ 3)) := by
  induction n with
  | zero =>
    intro i hi hn
    refine Ev.step (fun z => rfl) ?_
    simp only [spec_vaPoint.l0]
    refine Ev_if (fun h => by omega) (fun _ => Ev_bindS (l1In_eq _ _ _) (Ev_eq (Ev.now _) ?_))
    rw [List.drop_eq_nil_of_le (by omega)]; simp
  | succ n ih =>
    intro i hi hn
    have hlt : i < l.length := by omega
    have j := ih (i + 1) (by omega) (by omega)
    rw [List.drop_eq_getElem_cons hlt, List.all_cons]
    obtain ⟨q, hq⟩ : ∃ q, l[i] = q := ⟨_, rfl⟩
    rw [hq]
    refine Ev.step (fun z => rfl) ?_
    simp only [spec_vaPoint.l0]
    rw [rdT_get l i hlt, hq, wrap_next i (by omega)]
    refine Ev_if (fun _ => Ev_if (fun _ => Ev_if (fun _ => Ev_bindS (dyGood_eq _ _) ?_) (fun h => by omega)) (fun h => by omega)) (fun h => by omega)
    unfold ptNum boxNum
    cases hd : dyB q.f0 q.f1 with
    | false => exact Ev_if (fun h => by cases h) (fun _ => Ev_eq (Ev.now _) (by simp))
    | true =>
      obtain ⟨⟨k0, k1⟩, n0, n1⟩ := dyB_range _ _ hd
      refine Ev_if (fun _ => Ev_if (fun h9 => ?_) (fun h9 => ?_)) (fun h => absurd rfl h)
      · refine Ev_eq (Ev.now _) ?_
        rw [decide_eq_false (show ¬ q.f1 ≤ 9 by omega)]; simp
      · rw [decide_eq_true (show q.f1 ≤ 9 by omega)]
        refine Ev_bindS rfl (Ev.bind (num_low q.f0 q.f1 ⟨n0, n1⟩ ⟨k0, k1⟩) (Ev_if (fun h => ?_) (fun h => ?_)))
        · rw [sgn_lt] at h
          refine Ev_eq (Ev.now _) ?_
          rw [decide_eq_false (show ¬ (-8 * 2 ^ q.f1.toNat ≤ q.f0 ∧ q.f0 ≤ 8 * 2 ^ q.f1.toNat) by omega)]; simp
        · rw [sgn_lt] at h
          refine Ev_bindS rfl (Ev.bind (num_high q.f0 q.f1 ⟨n0, n1⟩ ⟨k0, k1⟩) (Ev_if (fun h2 => ?_) (fun h2 => ?_)))
          · rw [sgn_lt] at h2
            refine Ev_eq (Ev.now _) ?_
            rw [decide_eq_false (show ¬ (-8 * 2 ^ q.f1.toNat ≤ q.f0 ∧ q.f0 ≤ 8 * 2 ^ q.f1.toNat) by omega)]; simp
          · rw [sgn_lt] at h2
            rw [decide_eq_true (show (-8 * 2 ^ q.f1.toNat ≤ q.f0 ∧ q.f0 ≤ 8 * 2 ^ q.f1.toNat) by omega)]
            refine Ev_eq j ?_
            simp only [Bool.and_self, Bool.true_and]; rfl
theorem vaPoint_ev (l : List S44) (hl : l.length ≤ 1000000) : Ev (fun z => spec_vaPoint.f z l) (l.all ptNum && decide (1 ≤ (l.length : Int) ∧ (l.length : Int) ≤ 3)) := by
  have h := vaPoint_l0 l l hl l.length 0 (by omega) (by omega)
  rw [List.drop_zero] at h; exact h
theorem cfPoint_eq (l : List S44) : impl_Dyadic_86__impl_isBoxPoint_1.f l = some (!(l.all ptNum)) := by
  induction l with
  | nil => rfl
  | cons x q ih =>
    have h1 : impl_isBoxPoint_1.f x.f0 x.f1 = some (!(boxNum x.f0 x.f1)) := by unfold impl_isBoxPoint_1.f; rw [isBoxNumber_eq]; rfl
    simp only [impl_Dyadic_86__impl_isBoxPoint_1.f]
    rw [h1, Option.bind_some, List.all_cons, ih]
    show _ = some (!(boxNum x.f0 x.f1 && q.all ptNum))
    cases boxNum x.f0 x.f1 <;> simp
theorem isBoxPoint_eq (l : List S44) : impl_isBoxPoint.f l = some (decide (1 ≤ (l.length : Int) ∧ (l.length : Int) ≤ 3) && l.all ptNum) := by
  unfold impl_isBoxPoint.f
  rw [inside_eq, Option.bind_some]
  cases decide (1 ≤ (l.length : Int) ∧ (l.length : Int) ≤ 3) with
  | false => rfl
  | true => rw [if_pos rfl, cfPoint_eq]; simp
theorem Pure_holds : Pure := by
  intro l hl
  obtain ⟨q, hq⟩ : ∃ q, l.map cvDyadicS = q := ⟨_, rfl⟩
  have hql : q.length = l.length := by rw [← hq]; simp
  rw [hq]
  have h1 : Ev (fun z => spec_IsBoxPoint.f z q) (q.all ptNum && decide (1 ≤ (q.length : Int) ∧ (q.length : Int) ≤ 3)) := Ev.bind (vaPoint_ev q (by omega)) (Ev.now _)
  have h2 : impl_IsBoxPoint.f q = some (q.all ptNum && decide (1 ≤ (q.length : Int) ∧ (q.length : Int) ≤ 3)) := by
    unfold impl_IsBoxPoint.f; rw [isBoxPoint_eq, Option.bind_some, Bool.and_comm]
  obtain ⟨k, hk⟩ := h1.rounds
  exact ⟨k, 0, _, hk, h2⟩
end Go.Proofs.Ytalcohajbcijlaa.QBp
