import Derived.Test.YtalcohajbcijlaaZSidesOverLSidesOver
namespace Go.Proofs.Ytalcohajbcijlaa.QSid
open Go.RowKit Go.Proofs.YtalcohajbcijlaaW.PrintWords Go.Proofs.YtalcohajbcijlaaW.PrintLast Go.Proofs.YtalcohajbcijlaaW.PrintMore
set_option linter.unusedVariables false
set_option linter.unusedSimpArgs false
theorem Ev_if {α : Type} {c : Prop} [Decidable c] {g f : Nat → Option α} {r : α} (hp : c → Ev g r) (hn : ¬ c → Ev f r) : Ev (fun k => if c then g k else f k) r := by
  by_cases h : c
  · simp only [if_pos h]; exact hp h
  · simp only [if_neg h]; exact hn h
theorem Ev_bindS {α β : Type} {a : Option α} {x : α} {f : Nat → α → Option β} {r : β} (h : a = some x) (k : Ev (fun n => f n x) r) : Ev (fun n => a.bind (f n)) r := by
  subst h; simpa only [Option.bind_some] using k
theorem Ev_eq {α : Type} {g : Nat → Option α} {r r' : α} (h : Ev g r) (e : r = r') : Ev g r' := e ▸ h
theorem Ev_both {α β : Type} {g : Nat → Option α} {f : Nat → Option β} {r : α} {q : β} (h : Ev g r) (h' : Ev f q) : ∃ ks ki, g ks = some r ∧ f ki = some q := by
  obtain ⟨a, ha⟩ := h.rounds
  obtain ⟨b, hb⟩ := h'.rounds
  exact ⟨a, b, ha, hb⟩
theorem l1In_eq (a b c : Int) : spec_l1In.f a b c = some (decide (b ≤ a ∧ a ≤ c)) := by
  unfold spec_l1In.f; by_cases h : b ≤ a <;> simp [h]
theorem inside_eq (a b c : Int) : impl_inside.f a b c = some (decide (b ≤ a ∧ a ≤ c)) := by
  unfold impl_inside.f; by_cases h : b ≤ a <;> simp [h]
theorem wrap_next (i : Nat) (h : i < 9223372036854775807) : wrap64 ((i : Int) + 1) = ((i + 1 : Nat) : Int) := by unfold wrap64; omega
theorem u64r (n : Int) (h : 0 ≤ n ∧ n < 18446744073709551616) : IntKind.u64.wrap n = n := by simp [IntKind.wrap, IntKind.signed, IntKind.bits]; omega
theorem u64m (n : Int) : IntKind.u64.wrap n = n % 18446744073709551616 := by simp [IntKind.wrap, IntKind.signed, IntKind.bits]
theorem or64 (a b : Int) (n : Nat) (ha : 0 ≤ a) (hb : 0 ≤ b ∧ b < 2 ^ n) (hab : a * 2 ^ n + b < 18446744073709551616) : Go.bits .or .u64 (a * 2 ^ n) b = a * 2 ^ n + b := by
  obtain ⟨x, rfl⟩ := Int.eq_ofNat_of_zero_le ha
  obtain ⟨y, rfl⟩ := Int.eq_ofNat_of_zero_le hb.1
  have hy : y < 2 ^ n := by have := hb.2; exact_mod_cast this
  have e1 : (x : Int) * 2 ^ n = ((2 ^ n * x : Nat) : Int) := by push_cast; rw [Int.mul_comm]
  have hor := Nat.two_pow_add_eq_or_of_lt hy x
  have h64 : IntKind.u64.bits = 64 := rfl
  rw [e1] at hab ⊢
  obtain ⟨z, hz⟩ : ∃ z, 2 ^ n * x = z := ⟨_, rfl⟩
  rw [hz] at hab hor ⊢
  unfold Go.bits
  simp only [h64, BitVec.toNat_or, BitVec.ofInt_natCast, BitVec.toNat_ofNat]
  rw [Nat.mod_eq_of_lt (show z < 2 ^ 64 by omega), Nat.mod_eq_of_lt (show y < 2 ^ 64 by omega), ← hor]
  rw [u64r _ ⟨by omega, by omega⟩]
  push_cast; rfl
theorem shl64 (x : Int) (s : Nat) (h : s ≤ 64) : shl .u64 x (s : Int) = x * 2 ^ s % 18446744073709551616 := by
  unfold shl
  rw [Int.toNat_natCast, Nat.min_eq_left (by show s ≤ 64; exact h), u64m]
theorem shr64 (x : Int) (s : Nat) (h : s ≤ 64) : shr .u64 x (s : Int) = x / 2 ^ s := by
  unfold shr
  rw [Int.toNat_natCast, Nat.min_eq_left (by show s ≤ 64; exact h)]
theorem pow1 (n : Nat) : (1 : Int) ≤ 2 ^ n := Int.pow_pos (by omega)
theorem pow_le2 (a b : Nat) (h : a ≤ b) : (2 : Int) ^ a ≤ 2 ^ b := by have := Nat.pow_le_pow_right (show 0 < 2 by omega) h; exact_mod_cast this
theorem pow62 (n : Nat) (h : n ≤ 62) : (2 : Int) ^ n ≤ 4611686018427387904 := by
  have h1 := pow_le2 n 62 h
  have h2 : (2 : Int) ^ 62 = 4611686018427387904 := by decide
  omega
theorem dyPower62 (k : Int) (h : 0 ≤ k ∧ k ≤ 62) : spec_dyPower.f k = some (2 ^ k.toNat) := by
  have h1 := pow1 k.toNat
  have h2 := pow62 k.toNat (by omega)
  have h3 : shl .i64 1 k = 2 ^ k.toNat := by
    unfold shl
    rw [Nat.min_eq_left (by show k.toNat ≤ 64; omega), Int.one_mul, i64_w]; unfold wrap64; omega
  unfold spec_dyPower.f
  have e : IntKind.u64.wrap k = k := u64r _ ⟨by omega, by omega⟩
  rw [e, if_pos h.1, h3]
theorem sizeW_eq (n : Int) (h : -9223372036854775807 ≤ n ∧ n ≤ 9223372036854775807) : impl_size.f n = some ((n.natAbs : Nat) : Int) := by
  unfold impl_size.f
  by_cases h0 : n < 0
  · rw [if_pos h0, show wrap64 (-n) = -n by unfold wrap64; omega, u64r _ ⟨by omega, by omega⟩]; congr 1; omega
  · rw [if_neg h0, u64r _ ⟨by omega, by omega⟩]; congr 1; omega
theorem wideOf_eq (n : Int) (h : -9223372036854775807 ≤ n ∧ n ≤ 9223372036854775807) : impl_wideOf.f n = some (decide (n < 0), 0, ((n.natAbs : Nat) : Int)) := by
  unfold impl_wideOf.f; rw [sizeW_eq n h]; rfl
def wordB (x : Int) : Prop := 0 ≤ x ∧ x < 18446744073709551616
theorem isZero_eq (n : Bool) (h l : Int) (a1 : wordB h) (a2 : wordB l) : impl_wide_isZero.f n h l = some (decide (h * 18446744073709551616 + l = 0)) := by
  unfold impl_wide_isZero.f wordB at *
  by_cases e : h = 0
  · subst e; rw [if_pos rfl]; congr 1
    by_cases e2 : l = 0
    · subst e2; rfl
    · rw [decide_eq_false (by omega)]; simp [e2]
  · rw [if_neg e, decide_eq_false (by omega)]
def dyB (n k : Int) : Bool := if decide (0 ≤ k ∧ k ≤ 24) then (if decide ((-1099511627776) ≤ n ∧ n ≤ 1099511627776) then (if k = 0 then true else (Int.tmod n 2 != 0)) else false) else false
theorem dyGood_eq (n k : Int) : spec_dyGood.f n k = some (dyB n k) := by
  unfold spec_dyGood.f dyB; simp only [l1In_eq, Option.bind_some]
  split <;> (try split) <;> (try split) <;> simp_all
theorem dyB_range (n k : Int) (h : dyB n k = true) : (0 ≤ k ∧ k ≤ 24) ∧ ((-1099511627776) ≤ n ∧ n ≤ 1099511627776) := by
  unfold dyB at h
  by_cases h1 : 0 ≤ k ∧ k ≤ 24
  · rw [decide_eq_true h1, if_pos rfl] at h
    by_cases h2 : (-1099511627776) ≤ n ∧ n ≤ 1099511627776
    · exact ⟨h1, h2⟩
    · rw [decide_eq_false h2] at h; simp at h
  · rw [decide_eq_false h1] at h; simp at h
theorem absmul (x y a b : Int) (hx : -a ≤ x ∧ x ≤ a) (hy : -b ≤ y ∧ y ≤ b) : -(a * b) ≤ x * y ∧ x * y ≤ a * b := by
  have h1 : x.natAbs ≤ a.toNat := by omega
  have h2 : y.natAbs ≤ b.toNat := by omega
  have h := Nat.mul_le_mul h1 h2
  rw [← Int.natAbs_mul] at h
  have e : ((a.toNat * b.toNat : Nat) : Int) = a * b := by rw [Int.natCast_mul, Int.toNat_of_nonneg (by omega), Int.toNat_of_nonneg (by omega)]
  have h3 : (((x * y).natAbs : Nat) : Int) ≤ a * b := by rw [← e]; exact_mod_cast h
  omega
def nrm : Nat → Int → Int × Int
  | 0, n => (n, 0)
  | k + 1, n => if n % 2 = 0 then nrm k (n / 2) else (n, ((k + 1 : Nat) : Int))
theorem tmod2 (n : Int) : Int.tmod n 2 = 0 ↔ n % 2 = 0 := by
  constructor
  · intro h
    have h1 := Int.mul_tdiv_add_tmod n 2
    omega
  · intro h
    have h1 : n = 2 * (n / 2) := by omega
    rw [h1, Int.mul_comm, Int.mul_tmod_left]
theorem tdiv2 (n : Int) (h : n % 2 = 0) : Int.tdiv n 2 = n / 2 := by
  have h1 := Int.mul_tdiv_add_tmod n 2
  have h2 := (tmod2 n).2 h
  omega
theorem nrm_form (k : Nat) : ∀ n, (0 ≤ (nrm k n).2 ∧ (nrm k n).2 ≤ (k : Int)) ∧ ((nrm k n).2 = 0 ∨ (nrm k n).1 % 2 ≠ 0) := by
  induction k with
  | zero => intro n; simp [nrm]
  | succ k ih =>
    intro n
    simp only [nrm]
    split
    · obtain ⟨⟨h1, h2⟩, h3⟩ := ih (n / 2)
      exact ⟨⟨h1, by omega⟩, h3⟩
    · rename_i h
      exact ⟨⟨by simp only; omega, by simp⟩, .inr h⟩
theorem nrm_neg (k : Nat) : ∀ n, nrm k (-n) = (-(nrm k n).1, (nrm k n).2) := by
  induction k with
  | zero => intro n; rfl
  | succ k ih =>
    intro n
    simp only [nrm]
    by_cases h : n % 2 = 0
    · rw [if_pos h, if_pos (by omega), show -n / 2 = -(n / 2) by omega]; exact ih _
    · rw [if_neg h, if_neg (by omega)]
theorem nrm_scale (k s : Nat) (n : Int) : nrm (k + s) (n * 2 ^ s) = nrm k n := by
  induction s with
  | zero => simp
  | succ s ih =>
    rw [Int.pow_succ, ← Int.mul_assoc, ← Nat.add_assoc]
    simp only [nrm]
    rw [if_pos (by omega), show n * 2 ^ s * 2 / 2 = n * 2 ^ s by omega]
    exact ih
theorem dyB_nrm (k : Nat) (n : Int) : dyB (nrm k n).1 (nrm k n).2 = true ↔ (nrm k n).2 ≤ 24 ∧ (-1099511627776 ≤ (nrm k n).1 ∧ (nrm k n).1 ≤ 1099511627776) := by
  obtain ⟨⟨h1, h2⟩, h3⟩ := nrm_form k n
  generalize nrm k n = m at *
  constructor
  · intro h
    have := dyB_range _ _ h
    exact ⟨this.1.2, this.2⟩
  · rintro ⟨h4, h5⟩
    unfold dyB
    rw [decide_eq_true (show 0 ≤ m.2 ∧ m.2 ≤ 24 from ⟨h1, h4⟩), if_pos rfl, decide_eq_true h5, if_pos rfl]
    split
    · rfl
    · have h6 : ¬ Int.tmod m.1 2 = 0 := by
        rw [tmod2]; rcases h3 with h | h
        · contradiction
        · exact h
      simpa using h6
def mkR (m : Int × Int) : Int × Int × Bool := cond (dyB m.1 m.2) (m.1, m.2, true) (0, 0, false)
theorem good_ev (n k : Int) : Ev (fun _ => (spec_dyGood.f n k).bind fun t => if t = true then some (n, k, true) else some (0, 0, false)) (mkR (n, k)) := by
  refine Ev_bindS (dyGood_eq _ _) ?_
  unfold mkR
  simp only
  cases dyB n k with
  | true => exact Ev.now _
  | false => exact Ev.now _
theorem dyMake_l0 (k : Nat) : ∀ n : Int, (-9000000000000000000 ≤ n ∧ n ≤ 9000000000000000000) → k ≤ 100 → Ev (fun z => spec_dyMake.l0 z n (k : Int)) (mkR (nrm k n)) := by
  induction k with
  | zero =>
    intro n hn hk
    refine Ev.step (fun z => rfl) ?_
    simp only [spec_dyMake.l0, nrm]
    exact Ev_if (fun h => by omega) (fun _ => good_ev n 0)
  | succ k ih =>
    intro n hn hk
    refine Ev.step (fun z => rfl) ?_
    simp only [spec_dyMake.l0, nrm]
    refine Ev_if (fun _ => Ev_if (fun h => ?_) (fun h => ?_)) (fun h => by omega)
    · have h2 := (tmod2 n).1 h
      rw [if_pos h2, tdiv2 n h2, show wrap64 (n / 2) = n / 2 by unfold wrap64; omega, show wrap64 (((k + 1 : Nat) : Int) - 1) = (k : Int) by unfold wrap64; omega]
      exact ih (n / 2) (by omega) (by omega)
    · have h2 : ¬ n % 2 = 0 := fun h2 => h ((tmod2 n).2 h2)
      rw [if_neg h2]
      exact good_ev n _
theorem dm_j1 (n k : Int) (r : Int × Int × Bool) (h : Ev (fun z => spec_dyMake.l0 z n k) r) : Ev (fun z => spec_dyMake.j1 z n k) r := Ev.step (f := fun z => spec_dyMake.l0 z n k) (fun z => rfl) h
theorem dm_j0f (n k : Int) (r : Int × Int × Bool) (h : Ev (fun z => spec_dyMake.l0 z n k) r) : Ev (fun z => spec_dyMake.j0 z n k false) r := Ev.step (f := fun z => spec_dyMake.j1 z n k) (fun z => rfl) (dm_j1 n k r h)
theorem dm_j0t (n k : Int) (r : Int × Int × Bool) (h : Ev (fun z => spec_dyMake.l0 z n 0) r) : Ev (fun z => spec_dyMake.j0 z n k true) r := Ev.step (f := fun z => spec_dyMake.j1 z n 0) (fun z => rfl) (dm_j1 n 0 r h)
theorem dyMake_ev (k : Nat) (n : Int) (hn : -9000000000000000000 ≤ n ∧ n ≤ 9000000000000000000) (hk : k ≤ 100) (h0 : n ≠ 0) : Ev (fun z => spec_dyMake.f z n (k : Int)) (mkR (nrm k n)) :=
  Ev.congr (f := fun z => spec_dyMake.j0 z n (k : Int) false) (fun z => if_neg h0) (dm_j0f _ _ _ (dyMake_l0 k n hn hk))
theorem dyMake_zero (k : Nat) : Ev (fun z => spec_dyMake.f z 0 (k : Int)) (0, 0, true) := by
  have h0 : Ev (fun z => spec_dyMake.l0 z 0 0) (0, 0, true) := dyMake_l0 0 0 (by omega) (by omega)
  refine Ev.congr (f := fun z => spec_dyMake.j0 z 0 (k : Int) (decide ((k : Int) > 0))) (fun z => if_pos rfl) ?_
  cases hd : decide ((k : Int) > 0) with
  | true => exact dm_j0t _ _ _ h0
  | false =>
    have hk : (k : Int) = 0 := by have := of_decide_eq_false hd; omega
    rw [hk]
    exact dm_j0f _ _ _ h0
theorem shift_half (neg : Bool) (l : Int) (hl : wordB l) : impl_wide_shift.f neg 0 l (-1) = some (neg, 0, l / 2) := by
  have s1 : shr .u64 0 1 = 0 := by have := shr64 0 1 (by omega); simpa using this
  have s2 : shr .u64 l 1 = l / 2 := by have := shr64 l 1 (by omega); simpa using this
  have s3 : shl .u64 0 63 = 0 := by have := shl64 0 63 (by omega); simpa using this
  have s4 : Go.bits .or .u64 (l / 2) 0 = l / 2 := by have := or64 (l / 2) 0 0 (by unfold wordB at hl; omega) (by omega) (by unfold wordB at hl; omega); simpa using this
  unfold impl_wide_shift.f
  rw [if_neg (by omega), show wrap64 (-(-1 : Int)) = 1 by unfold wrap64; omega, if_neg (by omega), if_pos (by omega), show wrap64 (64 - (1 : Int)) = 63 by unfold wrap64; omega, if_pos (by omega), s1, s2, s3, s4]
def fitR (neg : Bool) (m : Int × Int) : Int × Int × Bool := if m.2 > 24 ∨ m.1 > 1099511627776 then (0, 0, false) else (if neg = true then -m.1 else m.1, m.2, true)
theorem fit_j1 (neg : Bool) (l k : Int) (hl : 0 ≤ l ∧ l ≤ 9000000000000000000) : Ev (fun z => impl_wide_fit.j1 z k neg 0 l) (fitR neg (l, k)) := by
  refine Ev.step (fun z => rfl) ?_
  simp only [impl_wide_fit.j1]
  unfold fitR
  refine Ev_if (fun h => ?_) (fun h => Ev_if (fun h2 => by omega) (fun _ => ?_))
  · rw [if_pos (.inl h)]
    exact Ev.step (f := fun z => some (0, 0, false)) (fun z => rfl) (Ev.now _)
  · refine Ev.step (fun z => rfl) ?_
    simp only [impl_wide_fit.j2]
    refine Ev_if (fun h2 => ?_) (fun h2 => ?_)
    · rw [if_pos (.inr (of_decide_eq_true h2))]; exact Ev.now _
    · have h3 : ¬ l > 1099511627776 := fun h3 => h2 (decide_eq_true h3)
      have hc : ¬ (k > 24 ∨ l > 1099511627776) := fun h5 => h5.elim h h3
      rw [show wrap64 l = l by unfold wrap64; omega, show wrap64 (-l) = -l by unfold wrap64; omega, if_neg hc]
      exact Ev_if (fun h => by rw [if_pos h]; exact Ev.now _) (fun h => by rw [if_neg h]; exact Ev.now _)
theorem fit_l0 (neg : Bool) (k : Nat) : ∀ l : Int, (0 ≤ l ∧ l ≤ 9000000000000000000) → k ≤ 100 → Ev (fun z => impl_wide_fit.l0 z (k : Int) neg 0 l) (fitR neg (nrm k l)) := by
  induction k with
  | zero =>
    intro l hl hk
    refine Ev.step (fun z => rfl) ?_
    simp only [impl_wide_fit.l0, nrm]
    exact Ev_if (fun h => by omega) (fun _ => fit_j1 neg l 0 hl)
  | succ k ih =>
    intro l hl hk
    refine Ev.step (fun z => rfl) ?_
    simp only [impl_wide_fit.l0, nrm]
    refine Ev_if (fun _ => Ev_if (fun h => ?_) (fun h => ?_)) (fun h => by omega)
    · have h2 := (tmod2 l).1 h
      rw [if_pos h2, shift_half neg l ⟨by omega, by omega⟩, show wrap64 (((k + 1 : Nat) : Int) - 1) = (k : Int) by unfold wrap64; omega]
      simp only [Option.bind_some]
      exact ih (l / 2) (by omega) (by omega)
    · have h2 : ¬ l % 2 = 0 := fun h2 => h ((tmod2 l).2 h2)
      rw [if_neg h2]
      exact fit_j1 neg l _ hl
theorem both_fit (k s : Nat) (hks : k + s ≤ 100) (R : Int) (hR : -9000000000000000000 ≤ R * 2 ^ s ∧ R * 2 ^ s ≤ 9000000000000000000) : ∃ a b c, Ev (fun z => spec_dyMake.f z R (k : Int)) (a, b, c) ∧ Ev (fun z => (impl_wideOf.f (R * 2 ^ s)).bind fun t => impl_wide_fit.f z t.1 t.2.1 t.2.2 ((k + s : Nat) : Int)) (a, b, c) := by
  have hp := pow1 s
  have hw := wideOf_eq (R * 2 ^ s) ⟨by omega, by omega⟩
  by_cases h0 : R = 0
  · subst h0
    refine ⟨0, 0, true, dyMake_zero k, ?_⟩
    rw [Int.zero_mul] at hw ⊢
    refine Ev_bindS hw ?_
    simp only [impl_wide_fit.f]
    exact Ev_bindS (isZero_eq _ _ _ ⟨by omega, by omega⟩ ⟨by omega, by omega⟩) (Ev_if (fun _ => Ev.now _) (fun h => absurd (by decide) h))
  · have hRb : -9000000000000000000 ≤ R ∧ R ≤ 9000000000000000000 := by
      have h1 := absmul R 1 R.natAbs 1 (by omega) (by omega)
      have h2 : (R.natAbs : Int) ≤ ((R * 2 ^ s).natAbs : Nat) := by
        rw [Int.natAbs_mul]
        have : 1 ≤ ((2 : Int) ^ s).natAbs := by omega
        have h3 := Nat.mul_le_mul_left R.natAbs this
        rw [Nat.mul_one] at h3
        exact_mod_cast h3
      omega
    have hn0 : R * 2 ^ s ≠ 0 := Int.mul_ne_zero h0 (by omega)
    have hm : nrm (k + s) (((R * 2 ^ s).natAbs : Nat) : Int) = ((if R < 0 then -(nrm k R).1 else (nrm k R).1), (nrm k R).2) ∧ decide (R * 2 ^ s < 0) = decide (R < 0) := by
      by_cases hn : R < 0
      · have h1 : R * 2 ^ s < 0 := Int.mul_neg_of_neg_of_pos hn (by omega)
        rw [if_pos hn, decide_eq_true hn, decide_eq_true h1]
        refine ⟨?_, rfl⟩
        rw [show (((R * 2 ^ s).natAbs : Nat) : Int) = -(R * 2 ^ s) by omega, nrm_neg, nrm_scale]
      · have h1 : 0 < R * 2 ^ s := Int.mul_pos (by omega) (by omega)
        rw [if_neg hn, decide_eq_false hn, decide_eq_false (by omega)]
        refine ⟨?_, rfl⟩
        rw [show (((R * 2 ^ s).natAbs : Nat) : Int) = R * 2 ^ s by omega, nrm_scale]
    have hI : Ev (fun z => (impl_wideOf.f (R * 2 ^ s)).bind fun t => impl_wide_fit.f z t.1 t.2.1 t.2.2 ((k + s : Nat) : Int)) (fitR (decide (R < 0)) ((if R < 0 then -(nrm k R).1 else (nrm k R).1), (nrm k R).2)) := by
      refine Ev_bindS hw ?_
      simp only [impl_wide_fit.f]
      refine Ev_bindS (isZero_eq _ _ _ ⟨by omega, by omega⟩ ⟨by omega, by omega⟩) (Ev_if (fun h => absurd (of_decide_eq_true h) (by omega)) (fun _ => ?_))
      have h := fit_l0 (decide (R * 2 ^ s < 0)) (k + s) (((R * 2 ^ s).natAbs : Nat) : Int) ⟨by omega, by omega⟩ hks
      rw [hm.1, hm.2] at h
      rw [hm.2]
      exact h
    have hS := dyMake_ev k R hRb (by omega) h0
    have hsgn : (R < 0 → (nrm k R).1 ≤ 0) ∧ (0 < R → 0 ≤ (nrm k R).1) := by
      have key : ∀ (k : Nat) (n : Int), (n < 0 → (nrm k n).1 ≤ 0) ∧ (0 < n → 0 ≤ (nrm k n).1) := by
        intro k
        induction k with
        | zero => intro n; simp only [nrm]; omega
        | succ k ih =>
          intro n
          simp only [nrm]
          split
          · obtain ⟨i1, i2⟩ := ih (n / 2)
            exact ⟨fun h => i1 (by omega), fun h => i2 (by omega)⟩
          · simp only; omega
      exact key k R
    by_cases hb : dyB (nrm k R).1 (nrm k R).2 = true
    · unfold mkR at hS; rw [hb] at hS
      obtain ⟨b1, b2, b3⟩ := (dyB_nrm k R).1 hb
      refine ⟨_, _, _, hS, Ev_eq hI ?_⟩
      unfold fitR
      by_cases hn : R < 0
      · rw [if_pos hn, decide_eq_true hn, if_neg (by simp only; omega), if_pos rfl]; simp
      · rw [if_neg hn, decide_eq_false hn, if_neg (by simp only; omega)]; simp
    · unfold mkR at hS; rw [Bool.eq_false_iff.2 hb] at hS
      have hb2 : ¬ ((nrm k R).2 ≤ 24 ∧ (-1099511627776 ≤ (nrm k R).1 ∧ (nrm k R).1 ≤ 1099511627776)) := fun h => hb ((dyB_nrm k R).2 h)
      refine ⟨_, _, _, hS, Ev_eq hI ?_⟩
      unfold fitR
      by_cases hn : R < 0
      · have := hsgn.1 hn
        rw [if_pos hn, if_pos (by simp only; omega)]
      · have := hsgn.2 (by omega)
        rw [if_neg hn, if_pos (by simp only; omega)]
theorem Ev_unique {α : Type} {g : Nat → Option α} {r r' : α} (h : Ev g r) (h' : Ev g r') : r = r' := by
  obtain ⟨a, ha⟩ := h
  obtain ⟨b, hb⟩ := h'
  have h1 := ha (max a b) (Nat.le_max_left a b)
  have h2 := hb (max a b) (Nat.le_max_right a b)
  exact Option.some.inj (h1.symm.trans h2)
theorem pow8 (k : Int) (hk : 0 ≤ k ∧ k ≤ 8) : (1 : Int) ≤ 2 ^ k.toNat ∧ (2 : Int) ^ k.toNat ≤ 256 := by
  obtain ⟨n, rfl⟩ := Int.eq_ofNat_of_zero_le hk.1
  have hn : n ≤ 8 := by omega
  rw [Int.toNat_natCast]
  exact ⟨pow1 n, pow_le2 n 8 hn⟩
theorem shlBox (k : Int) (hk : 0 ≤ k ∧ k ≤ 8) : shl .i64 8 k = 8 * 2 ^ k.toNat := by
  have hp := pow8 k hk
  unfold shl
  rw [i64_w]
  show wrap64 (8 * 2 ^ min k.toNat 64) = 8 * 2 ^ k.toNat
  rw [show min k.toNat 64 = k.toNat by omega]
  unfold wrap64; omega
theorem good_loop (m a0 : Int) (l1 l2 : List Int) (hm : 0 ≤ m ∧ m ≤ 1000000) (hl : l1.length ≤ 1000000) (he : l2.length = l1.length) (d : Nat) : ∀ (i : Nat) (odd : Bool), i ≤ l1.length → l1.length - i = d →
    ∃ b, Ev (fun z => spec_bxGood.l0 z m odd l1 (l1.length : Int) (i : Int) a0 l1 l2) b ∧ Ev (fun z => impl_isBox.l0 z m odd l1 (l1.length : Int) (i : Int) a0 l1 l2) (b, a0) ∧
      (b = true → ∀ j : Nat, i ≤ j → j < l1.length → (-m ≤ rd l1 (j : Int) ∧ rd l1 (j : Int) ≤ m) ∧ (-m ≤ rd l2 (j : Int) ∧ rd l2 (j : Int) ≤ m)) := by
  induction d with
  | zero =>
    intro i odd hi hd
    refine ⟨odd, ?_, ?_, fun _ j h1 h2 => by omega⟩
    · refine Ev.step (fun z => rfl) ?_
      simp only [spec_bxGood.l0]
      exact Ev_if (fun h => by omega) (fun _ => Ev.now _)
    · refine Ev.step (fun z => rfl) ?_
      simp only [impl_isBox.l0]
      exact Ev_if (fun h => by omega) (fun _ => Ev.now _)
  | succ d ih =>
    intro i odd hi hd
    have hlt : i < l1.length := by omega
    obtain ⟨x, hx⟩ : ∃ x, rd l1 (i : Int) = x := ⟨_, rfl⟩
    obtain ⟨y, hy⟩ : ∃ y, rd l2 (i : Int) = y := ⟨_, rfl⟩
    have hwm : wrap64 (-m) = -m := by unfold wrap64; omega
    by_cases hA : -m ≤ x ∧ x ≤ m
    rotate_left
    · refine ⟨false, ?_, ?_, fun h => by cases h⟩
      · refine Ev.step (fun z => rfl) ?_
        simp only [spec_bxGood.l0]
        rw [hx, hy, hwm]
        refine Ev_if (fun _ => Ev_if (fun _ => Ev_if (fun _ => Ev_if (fun _ => Ev_bindS (l1In_eq _ _ _) ?_) (fun h => by omega)) (fun h => by omega)) (fun h => by omega)) (fun h => by omega)
        rw [decide_eq_false hA]
        exact Ev_if (fun h => by cases h) (fun _ => Ev.now _)
      · refine Ev.step (fun z => rfl) ?_
        simp only [impl_isBox.l0]
        rw [hx, hy, hwm]
        refine Ev_if (fun _ => Ev_if (fun _ => Ev_if (fun _ => Ev_bindS (inside_eq _ _ _) ?_) (fun h => by omega)) (fun h => by omega)) (fun h => by omega)
        rw [decide_eq_false hA]
        exact Ev_if (fun h => by cases h) (fun _ => Ev.now _)
    by_cases hB : (-m ≤ y ∧ y ≤ m) ∧ x < y
    rotate_left
    · refine ⟨false, ?_, ?_, fun h => by cases h⟩
      · refine Ev.step (fun z => rfl) ?_
        simp only [spec_bxGood.l0]
        rw [hx, hy, hwm]
        refine Ev_if (fun _ => Ev_if (fun _ => Ev_if (fun _ => Ev_if (fun _ => Ev_bindS (l1In_eq _ _ _) ?_) (fun h => by omega)) (fun h => by omega)) (fun h => by omega)) (fun h => by omega)
        rw [decide_eq_true hA]
        refine Ev_if (fun _ => Ev_bindS (l1In_eq _ _ _) ?_) (fun h => absurd rfl h)
        by_cases hy2 : -m ≤ y ∧ y ≤ m
        · rw [decide_eq_true hy2]
          exact Ev_if (fun _ => Ev_if (fun _ => Ev.now _) (fun h => absurd ⟨hy2, by omega⟩ hB)) (fun h => absurd rfl h)
        · rw [decide_eq_false hy2]
          exact Ev_if (fun h => by cases h) (fun _ => Ev.now _)
      · refine Ev.step (fun z => rfl) ?_
        simp only [impl_isBox.l0]
        rw [hx, hy, hwm, show wrap64 (x + 1) = x + 1 by unfold wrap64; omega]
        refine Ev_if (fun _ => Ev_if (fun _ => Ev_if (fun _ => Ev_bindS (inside_eq _ _ _) ?_) (fun h => by omega)) (fun h => by omega)) (fun h => by omega)
        rw [decide_eq_true hA]
        refine Ev_if (fun _ => Ev_if (fun _ => Ev_bindS (inside_eq _ _ _) ?_) (fun h => by omega)) (fun h => absurd rfl h)
        rw [decide_eq_false (show ¬ (x + 1 ≤ y ∧ y ≤ m) by omega)]
        exact Ev_if (fun h => by cases h) (fun _ => Ev.now _)
    have step : ∀ odd' : Bool, (odd' = if odd = true then true else if Int.tmod x 2 = 0 then (Int.tmod y 2 != 0) else true) → ∃ b, Ev (fun z => spec_bxGood.l0 z m odd l1 (l1.length : Int) (i : Int) a0 l1 l2) b ∧ Ev (fun z => impl_isBox.l0 z m odd l1 (l1.length : Int) (i : Int) a0 l1 l2) (b, a0) ∧
      (b = true → ∀ j : Nat, i ≤ j → j < l1.length → (-m ≤ rd l1 (j : Int) ∧ rd l1 (j : Int) ≤ m) ∧ (-m ≤ rd l2 (j : Int) ∧ rd l2 (j : Int) ≤ m)) := by
      intro odd' ho
      obtain ⟨b, b1, b2, b3⟩ := ih (i + 1) odd' (by omega) (by omega)
      refine ⟨b, ?_, ?_, fun hb j h1 h2 => ?_⟩
      · refine Ev.step (fun z => rfl) ?_
        simp only [spec_bxGood.l0]
        rw [hx, hy, hwm, wrap_next i (by omega)]
        refine Ev_if (fun _ => Ev_if (fun _ => Ev_if (fun _ => Ev_if (fun _ => Ev_bindS (l1In_eq _ _ _) ?_) (fun h => by omega)) (fun h => by omega)) (fun h => by omega)) (fun h => by omega)
        rw [decide_eq_true hA]
        refine Ev_if (fun _ => Ev_bindS (l1In_eq _ _ _) ?_) (fun h => absurd rfl h)
        rw [decide_eq_true hB.1]
        refine Ev_if (fun _ => Ev_if (fun h => by omega) (fun _ => Ev_if (fun h => ?_) (fun h => Ev_if (fun h2 => ?_) (fun h2 => ?_)))) (fun h => absurd rfl h)
        · rw [if_pos h] at ho; rw [← ho]; exact b1
        · rw [if_neg h, if_pos h2] at ho; rw [← ho]; exact b1
        · rw [if_neg h, if_neg h2] at ho; rw [← ho]; exact b1
      · refine Ev.step (fun z => rfl) ?_
        simp only [impl_isBox.l0]
        rw [hx, hy, hwm, show wrap64 (x + 1) = x + 1 by unfold wrap64; omega, wrap_next i (by omega)]
        refine Ev_if (fun _ => Ev_if (fun _ => Ev_if (fun _ => Ev_bindS (inside_eq _ _ _) ?_) (fun h => by omega)) (fun h => by omega)) (fun h => by omega)
        rw [decide_eq_true hA]
        refine Ev_if (fun _ => Ev_if (fun _ => Ev_bindS (inside_eq _ _ _) ?_) (fun h => by omega)) (fun h => absurd rfl h)
        rw [decide_eq_true (show x + 1 ≤ y ∧ y ≤ m by omega)]
        refine Ev_if (fun _ => Ev_if (fun h => ?_) (fun h => Ev_if (fun h2 => ?_) (fun h2 => ?_))) (fun h => absurd rfl h)
        · rw [if_pos h] at ho; rw [← ho]; exact b2
        · rw [if_neg h, if_pos h2] at ho; rw [← ho]; exact b2
        · rw [if_neg h, if_neg h2] at ho; rw [← ho]; exact b2
      · by_cases hj : j = i
        · rw [hj, hx, hy]; exact ⟨hA, hB.1⟩
        · exact b3 hb j (by omega) h2
    exact step _ rfl
theorem boxGood_ev (a0 : Int) (l1 l2 : List Int) (hl : l1.length ≤ 1000000) (hl2 : l2.length ≤ 1000000) : ∃ b, Ev (fun z => spec_bxGood.f z a0 l1 l2) b ∧ Ev (fun z => impl_isBox.f z a0 l1 l2) (b, a0) ∧
    (b = true → (0 ≤ a0 ∧ a0 ≤ 8) ∧ l2.length = l1.length ∧ l1.length ≤ 3 ∧ ∀ j : Nat, j < l1.length → (-2048 ≤ rd l1 (j : Int) ∧ rd l1 (j : Int) ≤ 2048) ∧ (-2048 ≤ rd l2 (j : Int) ∧ rd l2 (j : Int) ≤ 2048)) := by
  by_cases hk : 0 ≤ a0 ∧ a0 ≤ 8
  rotate_left
  · refine ⟨false, ?_, ?_, fun h => by cases h⟩
    · refine Ev_bindS (l1In_eq _ _ _) ?_
      rw [decide_eq_false hk]
      exact Ev_if (fun h => by cases h) (fun _ => Ev.step (fun z => rfl) (by simp only [spec_bxGood.j0]; exact Ev_if (fun _ => Ev.now _) (fun h => absurd trivial h)))
    · refine Ev_bindS (inside_eq _ _ _) ?_
      rw [decide_eq_false hk]
      exact Ev_if (fun h => by cases h) (fun _ => Ev.step (fun z => rfl) (by simp only [impl_isBox.j0]; exact Ev_if (fun _ => Ev.now _) (fun h => absurd trivial h)))
  by_cases hn : 1 ≤ (l1.length : Int) ∧ (l1.length : Int) ≤ 3
  rotate_left
  · refine ⟨false, ?_, ?_, fun h => by cases h⟩
    · refine Ev_bindS (l1In_eq _ _ _) ?_
      rw [decide_eq_true hk]
      refine Ev_if (fun _ => Ev_bindS (l1In_eq _ _ _) ?_) (fun h => absurd rfl h)
      rw [decide_eq_false hn]
      exact Ev_if (fun h => by cases h) (fun _ => Ev.step (fun z => rfl) (by simp only [spec_bxGood.j0]; exact Ev_if (fun _ => Ev.now _) (fun h => absurd trivial h)))
    · refine Ev_bindS (inside_eq _ _ _) ?_
      rw [decide_eq_true hk]
      refine Ev_if (fun _ => Ev_bindS (inside_eq _ _ _) ?_) (fun h => absurd rfl h)
      rw [decide_eq_false hn]
      exact Ev_if (fun h => by cases h) (fun _ => Ev.step (fun z => rfl) (by simp only [impl_isBox.j0]; exact Ev_if (fun _ => Ev.now _) (fun h => absurd trivial h)))
  by_cases he : l2.length = l1.length
  rotate_left
  · have hne : ((l2.length : Int) != (l1.length : Int)) = true := bne_iff_ne.mpr (by omega)
    refine ⟨false, ?_, ?_, fun h => by cases h⟩
    · refine Ev_bindS (l1In_eq _ _ _) ?_
      rw [decide_eq_true hk]
      refine Ev_if (fun _ => Ev_bindS (l1In_eq _ _ _) ?_) (fun h => absurd rfl h)
      rw [decide_eq_true hn, hne]
      exact Ev_if (fun _ => Ev.step (fun z => rfl) (by simp only [spec_bxGood.j0]; exact Ev_if (fun _ => Ev.now _) (fun h => absurd trivial h))) (fun h => absurd rfl h)
    · refine Ev_bindS (inside_eq _ _ _) ?_
      rw [decide_eq_true hk]
      refine Ev_if (fun _ => Ev_bindS (inside_eq _ _ _) ?_) (fun h => absurd rfl h)
      rw [decide_eq_true hn, hne]
      exact Ev_if (fun _ => Ev.step (fun z => rfl) (by simp only [impl_isBox.j0]; exact Ev_if (fun _ => Ev.now _) (fun h => absurd trivial h))) (fun h => absurd rfl h)
  have hne : ((l2.length : Int) != (l1.length : Int)) = false := bne_eq_false_iff_eq.mpr (by omega)
  have hp := pow8 a0 hk
  obtain ⟨b, b1, b2, b3⟩ := good_loop (8 * 2 ^ a0.toNat) a0 l1 l2 ⟨by omega, by omega⟩ hl he l1.length 0 (a0 == 0) (by omega) (by omega)
  refine ⟨b, ?_, ?_, fun hb => ⟨hk, he, by omega, fun j hj => ?_⟩⟩
  · refine Ev_bindS (l1In_eq _ _ _) ?_
    rw [decide_eq_true hk]
    refine Ev_if (fun _ => Ev_bindS (l1In_eq _ _ _) ?_) (fun h => absurd rfl h)
    rw [decide_eq_true hn, hne]
    refine Ev_if (fun _ => Ev.step (fun z => rfl) ?_) (fun h => absurd rfl h)
    simp only [spec_bxGood.j0]
    refine Ev_if (fun h => by cases h) (fun _ => Ev_bindS (dyPower62 a0 ⟨hk.1, by omega⟩) ?_)
    rw [show wrap64 (8 * 2 ^ a0.toNat) = 8 * 2 ^ a0.toNat by unfold wrap64; omega]
    exact b1
  · refine Ev_bindS (inside_eq _ _ _) ?_
    rw [decide_eq_true hk]
    refine Ev_if (fun _ => Ev_bindS (inside_eq _ _ _) ?_) (fun h => absurd rfl h)
    rw [decide_eq_true hn, hne]
    refine Ev_if (fun _ => Ev.step (fun z => rfl) ?_) (fun h => absurd rfl h)
    simp only [impl_isBox.j0]
    refine Ev_if (fun h => by cases h) (fun _ => Ev_if (fun _ => ?_) (fun h => by omega))
    rw [shlBox a0 hk]
    exact b2
  · have := b3 hb j (by omega) hj
    exact ⟨⟨by omega, by omega⟩, by omega, by omega⟩
theorem nrm_range (k : Nat) (n : Int) (hn : -2048 ≤ n ∧ n ≤ 2048) : -2048 ≤ (nrm k n).1 ∧ (nrm k n).1 ≤ 2048 := by
  induction k generalizing n with
  | zero => exact hn
  | succ k ih =>
    simp only [nrm]
    split
    · exact ih _ ⟨by omega, by omega⟩
    · exact hn
theorem num_ev (n a0 : Int) (l1 l2 : List Int) (hn : -2048 ≤ n ∧ n ≤ 2048) (hk : 0 ≤ a0 ∧ a0 ≤ 8) : ∃ a b : Int, Ev (fun z => spec_bxNumber.f z n a0) (a, b) ∧ Ev (fun z => impl_Box_dyadic.f z a0 l1 l2 n) (a, b, a0) ∧ (-2048 ≤ a ∧ a ≤ 2048) ∧ (0 ≤ b ∧ b ≤ 8) := by
  obtain ⟨k, rfl⟩ := Int.eq_ofNat_of_zero_le hk.1
  have hk8 : k ≤ 8 := by omega
  obtain ⟨a, b, c, h1, h2⟩ := both_fit k 0 (by omega) n ⟨by omega, by omega⟩
  rw [Int.pow_zero, Int.mul_one, Nat.add_zero] at h2
  have hr : (-2048 ≤ a ∧ a ≤ 2048) ∧ (0 ≤ b ∧ b ≤ 8) := by
    by_cases h0 : n = 0
    · have h3 := Ev_unique h1 (by rw [h0]; exact dyMake_zero k)
      injection h3 with e1 e2
      injection e2 with e2 _
      subst e1 e2
      exact ⟨⟨by omega, by omega⟩, by omega, by omega⟩
    · have h3 := Ev_unique h1 (dyMake_ev k n ⟨by omega, by omega⟩ (by omega) h0)
      have r1 := nrm_range k n hn
      have r2 := (nrm_form k n).1
      unfold mkR at h3
      cases hd : dyB (nrm k n).1 (nrm k n).2 with
      | true =>
        rw [hd] at h3
        injection h3 with e1 e2
        injection e2 with e2 _
        subst e1 e2
        exact ⟨r1, r2.1, by omega⟩
      | false =>
        rw [hd] at h3
        injection h3 with e1 e2
        injection e2 with e2 _
        subst e1 e2
        exact ⟨⟨by omega, by omega⟩, by omega, by omega⟩
  refine ⟨a, b, ?_, ?_, hr.1, hr.2⟩
  · exact Ev.bind h1 (Ev.now _)
  · have hw := wideOf_eq n ⟨by omega, by omega⟩
    rw [hw] at h2
    simp only [Option.bind_some] at h2
    unfold impl_Box_dyadic.f
    refine Ev_bindS hw ?_
    exact Ev.bind h2 (Ev.now _)
theorem side_ev (a0 : Int) (l1 l2 : List Int) (i : Nat) (hi : i < l1.length) (he : l2.length = l1.length) (hk : 0 ≤ a0 ∧ a0 ≤ 8) (h1 : -2048 ≤ rd l1 (i : Int) ∧ rd l1 (i : Int) ≤ 2048) (h2 : -2048 ≤ rd l2 (i : Int) ∧ rd l2 (i : Int) ≤ 2048) :
    ∃ a b c d : Int, Ev (fun z => spec_bxNumber.f z (rd l1 (i : Int)) a0) (a, b) ∧ Ev (fun z => spec_bxNumber.f z (rd l2 (i : Int)) a0) (c, d) ∧ Ev (fun z => impl_Box_side.f z a0 l1 l2 (i : Int)) (a, b, c, d, a0) ∧ (-2048 ≤ a ∧ a ≤ 2048) ∧ (0 ≤ b ∧ b ≤ 8) ∧ (-2048 ≤ c ∧ c ≤ 2048) ∧ (0 ≤ d ∧ d ≤ 8) := by
  obtain ⟨a, b, x1, x2, x3, x4⟩ := num_ev (rd l1 (i : Int)) a0 l1 l2 h1 hk
  obtain ⟨c, d, y1, y2, y3, y4⟩ := num_ev (rd l2 (i : Int)) a0 l1 l2 h2 hk
  refine ⟨a, b, c, d, x1, y1, ?_, x3, x4, y3, y4⟩
  unfold impl_Box_side.f
  exact Ev_if (fun _ => Ev_if (fun _ => Ev_if (fun _ => Ev.bind x2 (Ev.bind y2 (Ev.now _))) (fun h => by omega)) (fun h => by omega)) (fun h => by omega)
theorem sides_loop (a0 : Int) (l1 l2 : List Int) (hl : l1.length ≤ 3) (hk : 0 ≤ a0 ∧ a0 ≤ 8) (he : l2.length = l1.length)
    (hr : ∀ j : Nat, j < l1.length → (-2048 ≤ rd l1 (j : Int) ∧ rd l1 (j : Int) ≤ 2048) ∧ (-2048 ≤ rd l2 (j : Int) ∧ rd l2 (j : Int) ≤ 2048)) (n : Nat) : ∀ (i : Nat) (acc : List S92), i ≤ l1.length → l1.length - i = n → acc.length = i →
    ∃ r, Ev (fun z => spec_vaSides.l0 z acc l1 (l1.length : Int) (i : Int) a0 l1 l2) r ∧ Ev (fun z => impl_Box_sides.l0 z acc (l1.length : Int) (i : Int) a0 l1 l2) (r, a0) ∧ r.length = l1.length := by
  induction n with
  | zero =>
    intro i acc hi hn ha
    refine ⟨acc, ?_, ?_, by omega⟩
    · refine Ev.step (fun z => rfl) ?_
      simp only [spec_vaSides.l0]
      exact Ev_if (fun h => by omega) (fun _ => Ev.now _)
    · refine Ev.step (fun z => rfl) ?_
      simp only [impl_Box_sides.l0]
      exact Ev_if (fun h => by omega) (fun _ => Ev.now _)
  | succ n ih =>
    intro i acc hi hn ha
    have hlt : i < l1.length := by omega
    have hr2 := hr i hlt
    obtain ⟨a, b, u, v, s1, s2, s3, _, _, _, _⟩ := side_ev a0 l1 l2 i hlt he hk hr2.1 hr2.2
    obtain ⟨r, j1, j2, j3⟩ := ih (i + 1) (acc ++ [(⟨(⟨a, b⟩ : S44), (⟨u, v⟩ : S44)⟩ : S92)]) (by omega) (by omega) (by simp [ha])
    refine ⟨r, ?_, ?_, j3⟩
    · refine Ev.step (fun z => rfl) ?_
      simp only [spec_vaSides.l0]
      rw [wrap_next i (by omega)]
      refine Ev_if (fun _ => Ev_if (fun _ => Ev_if (fun _ => Ev.bind s1 (Ev_if (fun _ => Ev.bind s2 (Ev_if (fun _ => j1) (fun h => by omega))) (fun h => by omega))) (fun h => by omega)) (fun h => by omega)) (fun h => by omega)
    · refine Ev.step (fun z => rfl) ?_
      simp only [impl_Box_sides.l0]
      rw [wrap_next i (by omega)]
      refine Ev_if (fun _ => Ev.bind s3 (Ev_if (fun _ => j2) (fun h => by omega))) (fun h => by omega)
theorem Pure_holds : Pure := by
  intro a0 l1 l2 hl
  have key : ∃ r1 r2, Ev (fun z => spec_SidesOver.f z a0 l1 l2) (r1, r2) ∧ Ev (fun z => impl_SidesOver.f z a0 l1 l2) (r1, r2) ∧ r1.length ≤ 1000000 := by
    obtain ⟨g, g1, g2, g3⟩ := boxGood_ev a0 l1 l2 (by omega) (by omega)
    cases g with
    | false => exact ⟨[], false, Ev.bind g1 (Ev_if (fun h => by cases h) (fun _ => Ev.now _)), Ev.bind g2 (Ev_if (fun h => by cases h) (fun _ => Ev.now _)), by simp⟩
    | true =>
      obtain ⟨hk, he, h3, hr⟩ := g3 rfl
      obtain ⟨r, r1, r2, r3⟩ := sides_loop a0 l1 l2 h3 hk he hr l1.length 0 [] (by omega) (by omega) rfl
      exact ⟨r, true, Ev.bind g1 (Ev_if (fun _ => Ev.bind r1 (Ev.now _)) (fun h => absurd rfl h)), Ev.bind g2 (Ev_if (fun _ => Ev.bind r2 (Ev.now _)) (fun h => absurd rfl h)), by omega⟩
  obtain ⟨r1, r2, h1, h2, h3⟩ := key
  obtain ⟨ks, ki, h, h'⟩ := Ev_both h1 h2
  exact ⟨ks, ki, r1, r2, h, h', h3⟩
end Go.Proofs.Ytalcohajbcijlaa.QSid
