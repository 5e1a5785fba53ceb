/- Plain law: the reference's and the program's SignsOfChain come to the same, over numbers and lists alone. -/
import Derived.Test.YtcgcgifndkeeoaaLSignsOfChain
namespace Go.Proofs.Ytcgcgifndkeeoaa.QSoC
open Go.RowKit Go.Proofs.YtcgcgifndkeeoaaW.PrintWords Go.Proofs.YtcgcgifndkeeoaaW.PrintLast Go.Proofs.YtcgcgifndkeeoaaW.PrintMore
set_option linter.unusedVariables false
set_option linter.unusedSimpArgs false
theorem Ev_if {α : Type} {c : Prop} [Decidable c] {g f : Nat → Option α} {r : α} (hp : c → Ev g r) (hn : ¬ c → Ev f r) : Ev (fun k => if c then g k else f k) r := by
  by_cases h : c
  · simp only [if_pos h]; exact hp h
  · simp only [if_neg h]; exact hn h
theorem Ev_bindS {α β : Type} {a : Option α} {x : α} {f : Nat → α → Option β} {r : β} (h : a = some x) (k : Ev (fun n => f n x) r) : Ev (fun n => a.bind (f n)) r := by
  subst h; simpa only [Option.bind_some] using k
theorem Ev_eq {α : Type} {g : Nat → Option α} {r r' : α} (h : Ev g r) (e : r = r') : Ev g r' := e ▸ h
theorem Ev_both {α β : Type} {g : Nat → Option α} {f : Nat → Option β} {r : α} {q : β} (h : Ev g r) (h' : Ev f q) : ∃ ks ki, g ks = some r ∧ f ki = some q := by
  obtain ⟨a, ha⟩ := h.rounds
  obtain ⟨b, hb⟩ := h'.rounds
  exact ⟨a, b, ha, hb⟩
theorem l1In_eq (a b c : Int) : spec_l1In.f a b c = some (decide (b ≤ a ∧ a ≤ c)) := by
  unfold spec_l1In.f; by_cases h : b ≤ a <;> simp [h]
theorem inside_eq (a b c : Int) : impl_inside.f a b c = some (decide (b ≤ a ∧ a ≤ c)) := by
  unfold impl_inside.f; by_cases h : b ≤ a <;> simp [h]
theorem rd_getElem (l : List Int) (i : Nat) (h : i < l.length) : rd l (i : Int) = l[i] := by simp [rd, h]
theorem wrap_next (i : Nat) (h : i < 9223372036854775807) : wrap64 ((i : Int) + 1) = ((i + 1 : Nat) : Int) := by unfold wrap64; omega
theorem all_drop (l : List Int) (p : Int → Bool) (i : Nat) (h : i < l.length) : (l.drop i).all p = (p (rd l (i : Int)) && (l.drop (i + 1)).all p) := by
  rw [List.drop_eq_getElem_cons h, List.all_cons, rd_getElem l i h]
theorem rd_mem (l : List Int) (i : Nat) (h : i < l.length) : rd l (i : Int) ∈ l := by rw [rd_getElem l i h]; exact List.getElem_mem h
theorem drop_rd (l : List Int) (i : Nat) (h : i < l.length) : l.drop i = rd l (i : Int) :: l.drop (i + 1) := by rw [rd_getElem l i h]; exact List.drop_eq_getElem_cons h
theorem wrap_sum (i k : Nat) (h : i + k ≤ 4000000000000) : wrap64 ((i : Int) + (k : Int)) = ((i + k : Nat) : Int) := by unfold wrap64; omega
theorem l1All_l0 (l : List Int) (lo hi : Int) (hl : l.length ≤ 1000000) (d : Nat) : ∀ (k i : Nat), i ≤ l.length → l.length - i = d → d < k → spec_l1All.l0 k lo hi l (l.length : Int) (i : Int) = some ((l.drop i).all fun x => decide (lo ≤ x ∧ x ≤ hi)) := by
  induction d with
  | zero =>
    intro k i h1 hd hk
    obtain ⟨k, rfl⟩ : ∃ m, k = m + 1 := ⟨k - 1, by omega⟩
    simp only [spec_l1All.l0]; rw [if_neg (by omega), List.drop_eq_nil_of_le (by omega)]; rfl
  | succ d ih =>
    intro k i h1 hd hk
    obtain ⟨k, rfl⟩ : ∃ m, k = m + 1 := ⟨k - 1, by omega⟩
    simp only [spec_l1All.l0]
    rw [if_pos (by omega), if_pos (by omega), if_pos (by omega), l1In_eq, Option.bind_some, wrap_next i (by omega), all_drop l _ i (by omega)]
    by_cases hp : lo ≤ rd l (i : Int) ∧ rd l (i : Int) ≤ hi
    · rw [if_pos (decide_eq_true hp), decide_eq_true hp, ih k (i + 1) (by omega) (by omega) (by omega)]; rfl
    · rw [if_neg (by rw [decide_eq_false hp]; decide), decide_eq_false hp]; rfl
theorem l1All_eq (l : List Int) (lo hi : Int) (hl : l.length ≤ 1000000) (k : Nat) (hk : l.length < k) : spec_l1All.f k l lo hi = some (l.all fun x => decide (lo ≤ x ∧ x ≤ hi)) := by
  unfold spec_l1All.f
  have h := l1All_l0 l lo hi hl l.length k 0 (by omega) (by omega) hk
  simpa using h
def absI (x : Int) : Int := (x.natAbs : Int)
def boundB (l : List Int) (m : Int) : Prop := ∀ x ∈ l, -m ≤ x ∧ x ≤ m
theorem pow30 (n : Nat) (h : n ≤ 30) : (2 : Int) ^ n ≤ 2 ^ 30 := by have := Nat.pow_le_pow_right (show 0 < 2 by omega) h; exact_mod_cast this
theorem shl_one (x k : Int) (h0 : 0 ≤ k ∧ k ≤ 30) (hx : 0 ≤ x ∧ x ≤ 1000000000) : shl .i64 x k = x * 2 ^ k.toNat := by
  unfold shl
  obtain ⟨n, rfl⟩ := Int.eq_ofNat_of_zero_le h0.1
  have hn : n ≤ 30 := by omega
  rw [Int.toNat_natCast, Nat.min_eq_left (by show n ≤ 64; omega), i64_w]
  have h1 := pow30 n hn
  have h2 : (0 : Int) < 2 ^ n := Int.pow_pos (by omega)
  have h3 : x * 2 ^ n ≤ 1000000000 * 2 ^ 30 := Int.mul_le_mul hx.2 h1 (by omega) (by omega)
  have h4 : 0 ≤ x * 2 ^ n := Int.mul_nonneg hx.1 (by omega)
  unfold wrap64; omega
theorem dyPower_eq (k : Int) (h0 : 0 ≤ k ∧ k ≤ 30) : spec_dyPower.f k = some (2 ^ k.toNat) := by
  unfold spec_dyPower.f
  have e : IntKind.u64.wrap k = k := by simp [IntKind.wrap, IntKind.signed, IntKind.bits]; omega
  rw [e, if_pos h0.1, shl_one 1 k h0 ⟨by omega, by omega⟩, Int.one_mul]
theorem isPlaces_eq (a : Int) : impl_isPlaces.f a = some (decide (0 ≤ a ∧ a ≤ 24)) := by
  unfold impl_isPlaces.f; rw [inside_eq]; rfl
/-- A valid dyadic number. -/
def dyB (n k : Int) : Bool := if decide (0 ≤ k ∧ k ≤ 24) then (if decide ((-1099511627776) ≤ n ∧ n ≤ 1099511627776) then (if k = 0 then true else (Int.tmod n 2 != 0)) else false) else false
theorem dyGood_eq (n k : Int) : spec_dyGood.f n k = some (dyB n k) := by
  unfold spec_dyGood.f dyB; simp only [l1In_eq, Option.bind_some]
  split <;> (try split) <;> (try split) <;> simp_all
theorem isDyadic_eq (n k : Int) : impl_isDyadic.f n k = some (dyB n k) := by
  unfold impl_isDyadic.f dyB; simp only [isPlaces_eq, inside_eq, Option.bind_some]
  split <;> (try split) <;> (try split) <;> simp_all
theorem dyB_range (n k : Int) (h : dyB n k = true) : (0 ≤ k ∧ k ≤ 24) ∧ ((-1099511627776) ≤ n ∧ n ≤ 1099511627776) := by
  unfold dyB at h
  by_cases h1 : 0 ≤ k ∧ k ≤ 24
  · rw [decide_eq_true h1, if_pos rfl] at h
    by_cases h2 : (-1099511627776) ≤ n ∧ n ≤ 1099511627776
    · exact ⟨h1, h2⟩
    · rw [decide_eq_false h2] at h; simp at h
  · rw [decide_eq_false h1] at h; simp at h
/-- A mark. -/
def markB (n k : Int) : Bool := dyB n k && (decide (k ≤ 12) && decide ((-16777216) ≤ n ∧ n ≤ 16777216))
theorem stMark_eq (n k : Int) : spec_stMark.f n k = some (markB n k) := by
  unfold spec_stMark.f markB
  rw [dyGood_eq, l1In_eq]
  simp only [Option.bind_some]
  cases dyB n k
  · rfl
  · by_cases h : k ≤ 12 <;> simp [h]
theorem isMark_eq (n k : Int) : impl_isMark.f n k = some (markB n k) := by
  unfold impl_isMark.f markB
  rw [isDyadic_eq, inside_eq]
  simp only [Option.bind_some]
  cases dyB n k
  · rfl
  · by_cases h : k ≤ 12 <;> simp [h]
theorem markB_range (n k : Int) (h : markB n k = true) : (0 ≤ k ∧ k ≤ 12) ∧ ((-16777216) ≤ n ∧ n ≤ 16777216) := by
  unfold markB at h
  simp only [Bool.and_eq_true, decide_eq_true_eq] at h
  have := dyB_range n k h.1
  omega
theorem u64w (n : Int) (h : 0 ≤ n ∧ n < 18446744073709551616) : IntKind.u64.wrap n = n := by simp [IntKind.wrap, IntKind.signed, IntKind.bits]; omega
theorem size_eq (a : Int) (h : -4611686018427387904 ≤ a ∧ a ≤ 4611686018427387904) : impl_size.f a = some (absI a) := by
  unfold impl_size.f absI
  by_cases hn : a < 0
  · rw [if_pos hn, show wrap64 (-a) = -a by unfold wrap64; omega, u64w _ ⟨by omega, by omega⟩]; congr 1; omega
  · rw [if_neg hn, u64w _ ⟨by omega, by omega⟩]; congr 1; omega
/-- The value of the first n digits to the base 2^32, the lowest first. -/
def valN (f : Nat → Int) : Nat → Int
  | 0 => 0
  | n + 1 => valN f n + f n * 4294967296 ^ n
theorem pw_pos (n : Nat) : (0 : Int) < 4294967296 ^ n := Int.pow_pos (by omega)
theorem pw_succ (n : Nat) : (4294967296 : Int) ^ (n + 1) = 4294967296 ^ n * 4294967296 := Int.pow_succ ..
def isDig (x : Int) : Prop := 0 ≤ x ∧ x ≤ 4294967295
theorem valN_range (f : Nat → Int) (n : Nat) (h : ∀ i, isDig (f i)) : 0 ≤ valN f n ∧ valN f n < 4294967296 ^ n := by
  induction n with
  | zero => simp [valN]
  | succ n ih =>
    have hp := pw_pos n
    have h1 : 0 ≤ f n * 4294967296 ^ n := Int.mul_nonneg (h n).1 (by omega)
    have h2 : f n * 4294967296 ^ n ≤ 4294967295 * 4294967296 ^ n := Int.mul_le_mul_of_nonneg_right (h n).2 (by omega)
    simp only [valN]; rw [pw_succ]; omega
theorem valN_congr (f g : Nat → Int) (n : Nat) (h : ∀ i, i < n → f i = g i) : valN f n = valN g n := by
  induction n with
  | zero => rfl
  | succ n ih => simp only [valN]; rw [ih (fun i hi => h i (by omega)), h n (by omega)]
theorem valN_zero (f : Nat → Int) (n k : Nat) (h : ∀ i, n ≤ i → f i = 0) : valN f (n + k) = valN f n := by
  induction k with
  | zero => rfl
  | succ k ih => rw [← Nat.add_assoc]; simp only [valN]; rw [ih, h _ (by omega)]; simp
theorem valN_split (f : Nat → Int) (n k : Nat) (h : ∀ i, isDig (f i)) : ∃ K : Int, 0 ≤ K ∧ valN f (n + k) = valN f n + 4294967296 ^ n * K := by
  induction k with
  | zero => exact ⟨0, by omega, by simp⟩
  | succ k ih =>
    obtain ⟨K, h0, hK⟩ := ih
    have hp := pw_pos k
    refine ⟨K + f (n + k) * 4294967296 ^ k, ?_, ?_⟩
    · have h1 : 0 ≤ f (n + k) * 4294967296 ^ k := Int.mul_nonneg (h _).1 (by omega)
      omega
    · rw [← Nat.add_assoc]; simp only [valN]; rw [hK, Int.pow_add]; grind
def dig (l : List Int) (i : Nat) : Int := if i < l.length then rd l (i : Int) else 0
def digs (l : List Int) : Prop := ∀ x ∈ l, isDig x
theorem dig_range (l : List Int) (h : digs l) (i : Nat) : isDig (dig l i) := by
  unfold dig; split
  · rename_i hi; exact h _ (rd_mem l i hi)
  · exact ⟨by omega, by omega⟩
def vl (l : List Int) : Int := valN (dig l) l.length
theorem vl_far (l : List Int) (n : Nat) (h : l.length ≤ n) : valN (dig l) n = vl l := by
  obtain ⟨k, rfl⟩ : ∃ k, n = l.length + k := ⟨n - l.length, by omega⟩
  exact valN_zero _ _ _ (fun i hi => by unfold dig; rw [if_neg (by omega)])
theorem vl_range (l : List Int) (h : digs l) : 0 ≤ vl l ∧ vl l < 4294967296 ^ l.length := valN_range _ _ (dig_range l h)
theorem vl_append (l : List Int) (x : Int) : vl (l ++ [x]) = vl l + x * 4294967296 ^ l.length := by
  unfold vl
  rw [show (l ++ [x]).length = l.length + 1 by simp]
  simp only [valN]
  have h1 : valN (dig (l ++ [x])) l.length = valN (dig l) l.length := by
    apply valN_congr
    intro i hi
    unfold dig
    rw [if_pos (by simp; omega), if_pos hi, rd_getElem _ i (by simp; omega), rd_getElem l i hi, List.getElem_append_left hi]
  have h2 : dig (l ++ [x]) l.length = x := by
    unfold dig
    rw [if_pos (by simp), rd_getElem _ _ (by simp)]
    simp
  rw [h1, h2]
theorem digs_append (l : List Int) (x : Int) (h : digs l) (hx : isDig x) : digs (l ++ [x]) := by
  intro y hy
  rcases List.mem_append.1 hy with h1 | h1
  · exact h y h1
  · rw [List.mem_singleton.1 h1]; exact hx
theorem digs_nil : digs [] := fun x hx => by cases hx
theorem digit_eq (neg : Bool) (l : List Int) (i : Nat) : impl_long_digit.f neg l (i : Int) = some (dig l i) := by
  unfold impl_long_digit.f dig
  by_cases h : i < l.length
  · rw [if_pos (by omega), if_pos (by omega), if_pos h]
  · rw [if_neg (by omega), if_neg h]
theorem times_l0 (ds : List Int) (hds : digs ds) (hl : ds.length ≤ 1000000) (n : Int) (hn : -4294967295 ≤ n ∧ n ≤ 4294967295) (neg : Bool) (d : Nat) : ∀ (i : Nat) (out : List Int) (c : Int), i ≤ ds.length → ds.length - i = d → out.length = i → digs out → isDig c → vl out + c * 4294967296 ^ i = valN (dig ds) i * absI n →
    ∃ o, Ev (fun z => impl_long_times.l0 z n c ds (ds.length : Int) (i : Int) neg out) (neg, o) ∧ o.length = ds.length + 1 ∧ digs o ∧ vl o = vl ds * absI n := by
  induction d with
  | zero =>
    intro i out c hi hd ho hdo hc hv
    have e : i = ds.length := by omega
    refine ⟨out ++ [c], ?_, by simp; omega, digs_append out c hdo hc, ?_⟩
    · refine Ev.step (fun z => rfl) ?_
      simp only [impl_long_times.l0]
      refine Ev_if (fun h => by omega) (fun _ => Ev_if (fun _ => ?_) (fun h => by omega))
      rw [show c % 4294967296 = c by unfold isDig at hc; omega]
      exact Ev.now _
    · rw [vl_append, ho, hv, e]; rfl
  | succ d ih =>
    intro i out c hi hd ho hdo hc hv
    have hi' : i < ds.length := by omega
    have hx : isDig (rd ds (i : Int)) := hds _ (rd_mem ds i hi')
    have hdig : dig ds i = rd ds (i : Int) := by unfold dig; rw [if_pos hi']
    obtain ⟨x, hxe⟩ : ∃ x, rd ds (i : Int) = x := ⟨_, rfl⟩
    rw [hxe] at hx hdig
    obtain ⟨m, hm⟩ : ∃ m, absI n = m := ⟨_, rfl⟩
    have hmr : 0 ≤ m ∧ m ≤ 4294967295 := by rw [← hm]; unfold absI; omega
    unfold isDig at hx hc
    have hxm : 0 ≤ x * m ∧ x * m ≤ 18446744065119617025 := by
      refine ⟨Int.mul_nonneg hx.1 hmr.1, ?_⟩
      exact Int.le_trans (Int.mul_le_mul hx.2 hmr.2 hmr.1 (by omega)) (by decide)
    have ew : IntKind.u64.wrap (c + IntKind.u64.wrap (IntKind.u64.wrap x * m)) = c + x * m := by
      rw [u64w x ⟨by omega, by omega⟩, u64w (x * m) ⟨by omega, by omega⟩, u64w _ ⟨by omega, by omega⟩]
    obtain ⟨t, ht⟩ : ∃ t, c + x * m = t := ⟨_, rfl⟩
    rw [hm] at hv
    obtain ⟨o, h1, h2, h3, h4⟩ := ih (i + 1) (out ++ [t % 4294967296]) (t / 4294967296) (by omega) (by omega) (by simp; omega) (digs_append _ _ hdo ⟨by omega, by omega⟩) ⟨by omega, by omega⟩ (by
      rw [vl_append, ho, pw_succ, hm]
      simp only [valN]
      rw [hdig]
      have hq : t = t / 4294967296 * 4294967296 + t % 4294967296 := by omega
      obtain ⟨q, hqe⟩ : ∃ q, t / 4294967296 = q := ⟨_, rfl⟩
      obtain ⟨g, hge⟩ : ∃ g, t % 4294967296 = g := ⟨_, rfl⟩
      rw [hqe, hge] at hq ⊢
      generalize (4294967296 : Int) ^ i = P at hv ⊢
      rw [← ht] at hq
      grind)
    refine ⟨o, ?_, h2, h3, h4⟩
    refine Ev.step (fun z => rfl) ?_
    simp only [impl_long_times.l0]
    rw [hxe, wrap_next i (by omega)]
    refine Ev_if (fun _ => Ev_if (fun _ => Ev_if (fun _ => Ev_bindS (size_eq n ⟨by omega, by omega⟩) ?_) (fun h => by omega)) (fun h => by omega)) (fun h => by omega)
    rw [hm, ew, ht]
    exact Ev_if (fun _ => h1) (fun h => by omega)
theorem times_ev (neg : Bool) (ds : List Int) (hds : digs ds) (hl : ds.length ≤ 1000000) (n : Int) (hn : -4294967295 ≤ n ∧ n ≤ 4294967295) :
    ∃ o, Ev (fun z => impl_long_times.f z neg ds n) (neg != decide (n < 0), o) ∧ o.length = ds.length + 1 ∧ digs o ∧ vl o = vl ds * absI n := by
  exact times_l0 ds hds hl n hn (neg != decide (n < 0)) ds.length 0 [] 0 (by omega) (by omega) rfl digs_nil ⟨by omega, by omega⟩ (by simp [vl, valN])
def cmpV (x y : Int) : Int := if x < y then -1 else if x > y then 1 else 0
theorem cmp_eq (x y : Int) : cmp_Compare_uint32.f x y = some (cmpV x y) := by
  unfold cmp_Compare_uint32.f cmp_isNaN_uint32.f cmpV
  by_cases h1 : x < y
  · simp [h1]
  · by_cases h2 : x > y <;> simp [h1, h2]
theorem compare_l0 (na nb : Bool) (a b : List Int) (ha : digs a) (hb : digs b) (j : Nat) (hj : j ≤ 1000000) : Ev (fun z => impl_compareDigits.l0 z ((j : Int) - 1) na a nb b) (cmpV (valN (dig a) j) (valN (dig b) j)) := by
  induction j with
  | zero =>
    refine Ev.step (fun z => rfl) ?_
    simp only [impl_compareDigits.l0]
    exact Ev_if (fun h => by omega) (fun _ => Ev.now _)
  | succ j ih =>
    refine Ev.step (fun z => rfl) ?_
    simp only [impl_compareDigits.l0]
    rw [show ((j + 1 : Nat) : Int) - 1 = (j : Int) by omega]
    refine Ev_if (fun _ => Ev_bindS (digit_eq na a j) (Ev_bindS (digit_eq nb b j) (Ev_bindS (cmp_eq _ _) ?_))) (fun h => by omega)
    have ra := valN_range (dig a) j (dig_range a ha)
    have rb := valN_range (dig b) j (dig_range b hb)
    have hp := pw_pos j
    have hx := dig_range a ha j
    have hy := dig_range b hb j
    simp only [valN]
    obtain ⟨x, hxe⟩ : ∃ x, dig a j = x := ⟨_, rfl⟩
    obtain ⟨y, hye⟩ : ∃ y, dig b j = y := ⟨_, rfl⟩
    rw [hxe] at hx ⊢; rw [hye] at hy ⊢
    rw [show wrap64 ((j : Int) - 1) = (j : Int) - 1 by unfold wrap64; omega]
    by_cases h1 : x < y
    · have hm : x * 4294967296 ^ j + 4294967296 ^ j ≤ y * 4294967296 ^ j := by
        have := Int.mul_le_mul_of_nonneg_right (show x + 1 ≤ y by omega) (show (0 : Int) ≤ 4294967296 ^ j by omega)
        rw [Int.add_mul, Int.one_mul] at this; exact this
      have e : cmpV x y = -1 := by unfold cmpV; rw [if_pos h1]
      rw [e]
      refine Ev_if (fun h => by omega) (fun _ => Ev_eq (Ev.now _) ?_)
      unfold cmpV; rw [if_pos (by omega)]
    · by_cases h2 : x > y
      · have hm : y * 4294967296 ^ j + 4294967296 ^ j ≤ x * 4294967296 ^ j := by
          have := Int.mul_le_mul_of_nonneg_right (show y + 1 ≤ x by omega) (show (0 : Int) ≤ 4294967296 ^ j by omega)
          rw [Int.add_mul, Int.one_mul] at this; exact this
        have e : cmpV x y = 1 := by unfold cmpV; rw [if_neg h1, if_pos h2]
        rw [e]
        refine Ev_if (fun h => by omega) (fun _ => Ev_eq (Ev.now _) ?_)
        unfold cmpV; rw [if_neg (by omega), if_pos (by omega)]
      · have e : cmpV x y = 0 := by unfold cmpV; rw [if_neg h1, if_neg h2]
        have hxy : x = y := by omega
        subst hxy
        rw [e]
        refine Ev_if (fun _ => Ev_eq (ih (by omega)) ?_) (fun h => by omega)
        unfold cmpV
        simp only [gt_iff_lt, Int.add_lt_add_iff_right]
theorem compare_ev (na nb : Bool) (a b : List Int) (ha : digs a) (hb : digs b) (hla : a.length ≤ 1000000) (hlb : b.length ≤ 1000000) : Ev (fun z => impl_compareDigits.f z na a nb b) (cmpV (vl a) (vl b)) := by
  unfold impl_compareDigits.f
  obtain ⟨j, hj⟩ : ∃ j : Nat, mx (a.length : Int) (b.length : Int) = (j : Int) ∧ a.length ≤ j ∧ b.length ≤ j ∧ j ≤ 1000000 := by
    unfold mx; split
    · exact ⟨b.length, rfl, by omega, by omega, hlb⟩
    · exact ⟨a.length, rfl, by omega, by omega, hla⟩
  rw [hj.1, show wrap64 ((j : Int) - 1) = (j : Int) - 1 by unfold wrap64; omega]
  have h := compare_l0 na nb a b ha hb j hj.2.2.2
  rw [vl_far a j hj.2.1, vl_far b j hj.2.2.1] at h
  exact h
/-- The sum of two numbers, of which the first is not smaller. -/
theorem plus_l0 (na nb no : Bool) (a b : List Int) (ha : digs a) (hb : digs b) (hl : a.length ≤ 1000000) (s : Int) (hs : s = if (na == nb) = true then 1 else -1) (d : Nat) : ∀ (i : Nat) (out : List Int) (c : Int), i ≤ a.length + 1 → a.length + 1 - i = d → out.length = i → digs out → -1 ≤ c ∧ c ≤ 1 → vl out + c * 4294967296 ^ i = valN (dig a) i + s * valN (dig b) i →
    ∃ o c', Ev (fun z => impl_long_plus.l0 z c ((a.length : Int) + 1) (i : Int) na a nb b no out) (no, o) ∧ o.length = a.length + 1 ∧ digs o ∧ (-1 ≤ c' ∧ c' ≤ 1) ∧ vl o + c' * 4294967296 ^ (a.length + 1) = valN (dig a) (a.length + 1) + s * valN (dig b) (a.length + 1) := by
  induction d with
  | zero =>
    intro i out c hi hd ho hdo hc hv
    have e : i = a.length + 1 := by omega
    subst e
    refine ⟨out, c, ?_, ho, hdo, hc, hv⟩
    refine Ev.step (fun z => rfl) ?_
    simp only [impl_long_plus.l0]
    exact Ev_if (fun h => by omega) (fun _ => Ev.now _)
  | succ d ih =>
    intro i out c hi hd ho hdo hc hv
    have hx := dig_range a ha i
    have hy := dig_range b hb i
    obtain ⟨x, hxe⟩ : ∃ x, dig a i = x := ⟨_, rfl⟩
    obtain ⟨y, hye⟩ : ∃ y, dig b i = y := ⟨_, rfl⟩
    rw [hxe] at hx; rw [hye] at hy
    unfold isDig at hx hy
    have key : ∀ t : Int, t = c + x + s * y → -4294967296 ≤ t ∧ t ≤ 8589934591 → ∃ o c', Ev (fun z => impl_long_plus.l0 z (t / 4294967296) ((a.length : Int) + 1) ((i + 1 : Nat) : Int) na a nb b no (out ++ [t % 4294967296])) (no, o) ∧ o.length = a.length + 1 ∧ digs o ∧ (-1 ≤ c' ∧ c' ≤ 1) ∧ vl o + c' * 4294967296 ^ (a.length + 1) = valN (dig a) (a.length + 1) + s * valN (dig b) (a.length + 1) := by
      intro t ht htb
      refine ih (i + 1) (out ++ [t % 4294967296]) (t / 4294967296) (by omega) (by omega) (by simp; omega) (digs_append _ _ hdo ⟨by omega, by omega⟩) ⟨by omega, by omega⟩ ?_
      rw [vl_append, ho, pw_succ]
      simp only [valN]
      rw [hxe, hye]
      have hq : t = t / 4294967296 * 4294967296 + t % 4294967296 := by omega
      obtain ⟨q, hqe⟩ : ∃ q, t / 4294967296 = q := ⟨_, rfl⟩
      obtain ⟨g, hge⟩ : ∃ g, t % 4294967296 = g := ⟨_, rfl⟩
      rw [hqe, hge] at hq ⊢
      generalize (4294967296 : Int) ^ i = P at hv ⊢
      rw [ht] at hq
      grind
    by_cases hsame : (na == nb) = true
    · rw [if_pos hsame] at hs
      obtain ⟨o, c', h1, h2, h3, h4, h5⟩ := key (c + x + y) (by rw [hs]; omega) ⟨by omega, by omega⟩
      refine ⟨o, c', ?_, h2, h3, h4, h5⟩
      refine Ev.step (fun z => rfl) ?_
      simp only [impl_long_plus.l0]
      refine Ev_if (fun _ => Ev_bindS (digit_eq na a i) (Ev_if (fun _ => Ev_bindS (digit_eq nb b i) ?_) (fun h => absurd hsame h))) (fun h => by omega)
      rw [hxe, hye, wrap_next i (by omega), show wrap64 (wrap64 (c + wrap64 x) + wrap64 y) = c + x + y by unfold wrap64; omega]
      exact Ev_if (fun _ => h1) (fun h => by omega)
    · rw [if_neg hsame] at hs
      obtain ⟨o, c', h1, h2, h3, h4, h5⟩ := key (c + x - y) (by rw [hs]; omega) ⟨by omega, by omega⟩
      refine ⟨o, c', ?_, h2, h3, h4, h5⟩
      refine Ev.step (fun z => rfl) ?_
      simp only [impl_long_plus.l0]
      refine Ev_if (fun _ => Ev_bindS (digit_eq na a i) (Ev_if (fun h => absurd h hsame) (fun _ => Ev_bindS (digit_eq nb b i) ?_))) (fun h => by omega)
      rw [hxe, hye, wrap_next i (by omega), show wrap64 (wrap64 (c + wrap64 x) - wrap64 y) = c + x - y by unfold wrap64; omega]
      exact Ev_if (fun _ => h1) (fun h => by omega)
theorem plus_j0 (na nb : Bool) (a b : List Int) (ha : digs a) (hb : digs b) (hl : a.length ≤ 1000000) (hab : vl b ≤ vl a) :
    ∃ o, Ev (fun z => impl_long_plus.j0 z na a nb b) (na, o) ∧ o.length = a.length + 1 ∧ digs o ∧ vl o = if (na == nb) = true then vl a + vl b else vl a - vl b := by
  obtain ⟨s, hs⟩ : ∃ s : Int, s = if (na == nb) = true then 1 else -1 := ⟨_, rfl⟩
  obtain ⟨o, c', h1, h2, h3, h4, h5⟩ := plus_l0 na nb na a b ha hb hl s hs (a.length + 1) 0 [] 0 (by omega) (by omega) rfl digs_nil ⟨by omega, by omega⟩ (by simp [vl, valN])
  refine ⟨o, ?_, h2, h3, ?_⟩
  · refine Ev.step (fun z => rfl) ?_
    simp only [impl_long_plus.j0]
    rw [show wrap64 ((a.length : Int) + 1) = (a.length : Int) + 1 by unfold wrap64; omega]
    exact h1
  · rw [vl_far a _ (by omega)] at h5
    have ra := vl_range a ha
    have rb := vl_range b hb
    have ro := vl_range o h3
    rw [h2] at ro
    have hp := pw_pos a.length
    have hbb : valN (dig b) (a.length + 1) = vl b := by
      obtain ⟨K, k0, hK⟩ := valN_split (dig b) (a.length + 1) b.length (dig_range b hb)
      rw [vl_far b _ (by omega)] at hK
      have r := valN_range (dig b) (a.length + 1) (dig_range b hb)
      rcases Int.lt_or_eq_of_le k0 with h | h
      · have : (4294967296 : Int) ^ (a.length + 1) * 1 ≤ 4294967296 ^ (a.length + 1) * K := Int.mul_le_mul_of_nonneg_left (by omega) (by have := pw_pos (a.length + 1); omega)
        rw [pw_succ] at this hK r
        omega
      · rw [← h] at hK; simp at hK; exact hK.symm
    rw [hbb] at h5
    rw [pw_succ] at ro h5
    have hc : c' = -1 ∨ c' = 0 ∨ c' = 1 := by omega
    by_cases hsame : (na == nb) = true
    · rw [if_pos hsame] at hs ⊢
      rw [hs] at h5
      rcases hc with rfl | rfl | rfl <;> omega
    · rw [if_neg hsame] at hs ⊢
      rw [hs] at h5
      rcases hc with rfl | rfl | rfl <;> omega
/-- The value of a long number. -/
def sv (neg : Bool) (l : List Int) : Int := if neg = true then -(vl l) else vl l
theorem plus_ev (na nb : Bool) (a b : List Int) (ha : digs a) (hb : digs b) (hla : a.length ≤ 1000000) (hlb : b.length ≤ 1000000) :
    ∃ no o, Ev (fun z => impl_long_plus.f z na a nb b) (no, o) ∧ (o.length ≤ a.length + 1 ∨ o.length ≤ b.length + 1) ∧ digs o ∧ sv no o = sv na a + sv nb b := by
  unfold impl_long_plus.f
  have hc := compare_ev na nb a b ha hb hla hlb
  by_cases h : vl a < vl b
  · have e : cmpV (vl a) (vl b) = -1 := by unfold cmpV; rw [if_pos h]
    rw [e] at hc
    obtain ⟨o, h1, h2, h3, h4⟩ := plus_j0 nb na b a hb ha hlb (by omega)
    refine ⟨nb, o, Ev.bind hc (Ev_if (fun _ => h1) (fun h => by omega)), .inr (by omega), h3, ?_⟩
    unfold sv; rw [h4]
    cases na <;> cases nb <;> simp <;> omega
  · have e : ¬ cmpV (vl a) (vl b) < 0 := by unfold cmpV; rw [if_neg h]; split <;> omega
    obtain ⟨o, h1, h2, h3, h4⟩ := plus_j0 na nb a b ha hb hla (by omega)
    refine ⟨na, o, Ev.bind hc (Ev_if (fun h => absurd h e) (fun _ => h1)), .inl (by omega), h3, ?_⟩
    unfold sv; rw [h4]
    cases na <;> cases nb <;> simp <;> omega
theorem vl_zeros (q : Nat) : vl (List.replicate q 0) = 0 ∧ digs (List.replicate q 0) := by
  induction q with
  | zero => exact ⟨rfl, digs_nil⟩
  | succ q ih => rw [List.replicate_succ', vl_append, ih.1]; exact ⟨by simp, digs_append _ _ ih.2 ⟨by omega, by omega⟩⟩
theorem longOf_ev (n : Int) (hn : -1073741824 ≤ n ∧ n ≤ 1073741824) (k : Nat) (hk : k ≤ 3200) : ∃ o, impl_longOf.f n (k : Int) = some (decide (n < 0), o) ∧ o.length = k / 32 + 3 ∧ digs o ∧ vl o = absI n * 2 ^ k := by
  have hm : Int.tmod (k : Int) 32 = ((k % 32 : Nat) : Int) := by rw [Int.tmod_eq_emod_of_nonneg (by omega)]; omega
  have hd : wrap64 (Int.tdiv (k : Int) 32) = ((k / 32 : Nat) : Int) := by rw [Int.tdiv_eq_ediv_of_nonneg (by omega)]; unfold wrap64; omega
  have hsz := size_eq n ⟨by omega, by omega⟩
  obtain ⟨m, hme⟩ : ∃ m, absI n = m := ⟨_, rfl⟩
  have hmr : 0 ≤ m ∧ m ≤ 1073741824 := by rw [← hme]; unfold absI; omega
  obtain ⟨s, hs⟩ : ∃ s, k % 32 = s := ⟨_, rfl⟩
  obtain ⟨q, hq⟩ : ∃ q, k / 32 = q := ⟨_, rfl⟩
  have hs32 : s < 32 := by omega
  have hkq : k = 32 * q + s := by omega
  rw [hme] at hsz ⊢; rw [hs] at hm; rw [hq] at hd
  have p1 : (1 : Int) ≤ 2 ^ s := Int.pow_pos (by omega)
  have p2 : (2 : Int) ^ s ≤ 2 ^ 31 := by
    obtain ⟨r, hr⟩ : ∃ r, 31 = s + r := ⟨31 - s, by omega⟩
    rw [hr, Int.pow_add]
    have : (1 : Int) ≤ 2 ^ r := Int.pow_pos (by omega)
    have := Int.mul_le_mul_of_nonneg_left this (show (0 : Int) ≤ 2 ^ s by omega)
    omega
  have hlow : 0 ≤ m * 2 ^ s ∧ m * 2 ^ s ≤ 1073741824 * 2147483648 := ⟨Int.mul_nonneg hmr.1 (by omega), Int.mul_le_mul hmr.2 p2 (by omega) (by omega)⟩
  have eshl : shl .u64 m (s : Int) = m * 2 ^ s := by
    unfold shl
    rw [Int.toNat_natCast, Nat.min_eq_left (by show s ≤ 64; omega), u64w _ ⟨by omega, by omega⟩]
  have eshr : 0 < s → shr .u64 m (wrap64 (64 - (s : Int))) = 0 := by
    intro h0
    unfold shr
    have e : wrap64 (64 - (s : Int)) = ((64 - s : Nat) : Int) := by unfold wrap64; omega
    rw [e, Int.toNat_natCast, Nat.min_eq_left (by show 64 - s ≤ 64; omega)]
    apply Int.ediv_eq_zero_of_lt hmr.1
    obtain ⟨r, hr⟩ : ∃ r, 64 - s = 33 + r := ⟨31 - s, by omega⟩
    rw [hr, Int.pow_add]
    have : (1 : Int) ≤ 2 ^ r := Int.pow_pos (by omega)
    have := Int.mul_le_mul_of_nonneg_left this (show (0 : Int) ≤ 2 ^ 33 by omega)
    omega
  obtain ⟨t, ht⟩ : ∃ t, m * 2 ^ s = t := ⟨_, rfl⟩
  rw [ht] at hlow eshl
  obtain ⟨v0, d0⟩ := vl_zeros q
  have hval : ∀ z : Int, z = 0 → digs (List.replicate q 0 ++ [t % 4294967296, t / 4294967296 % 4294967296, z]) ∧ vl (List.replicate q 0 ++ [t % 4294967296, t / 4294967296 % 4294967296, z]) = m * 2 ^ k := by
    intro z hz
    have e : List.replicate q 0 ++ [t % 4294967296, t / 4294967296 % 4294967296, z] = ((List.replicate q 0 ++ [t % 4294967296]) ++ [t / 4294967296 % 4294967296]) ++ [z] := by simp
    rw [e]
    refine ⟨digs_append _ _ (digs_append _ _ (digs_append _ _ d0 ⟨by omega, by omega⟩) ⟨by omega, by omega⟩) (by rw [hz]; exact ⟨by omega, by omega⟩), ?_⟩
    rw [vl_append, vl_append, vl_append, v0, hz]
    simp only [List.length_append, List.length_replicate, List.length_cons, List.length_nil, Nat.zero_add]
    have e3 : (2 : Int) ^ k = 4294967296 ^ q * 2 ^ s := by
      rw [hkq, Int.pow_add, Int.pow_mul, show (2 : Int) ^ 32 = 4294967296 by decide]
    rw [pw_succ, e3]
    have hq2 : t = t / 4294967296 % 4294967296 * 4294967296 + t % 4294967296 := by omega
    obtain ⟨u, hue⟩ : ∃ u, t / 4294967296 % 4294967296 = u := ⟨_, rfl⟩
    obtain ⟨g, hge⟩ : ∃ g, t % 4294967296 = g := ⟨_, rfl⟩
    rw [hue, hge] at hq2 ⊢
    generalize (4294967296 : Int) ^ q = P
    generalize (2 : Int) ^ s = S at ht
    grind
  unfold impl_longOf.f
  rw [hsz, hm, hd]
  simp only [Option.bind_some]
  rw [eshl, if_pos (by omega)]
  by_cases h0 : 0 < s
  · rw [if_pos (by omega), if_pos (by unfold wrap64; omega), if_pos (by omega), if_pos (by omega), eshr h0]
    simp only [Int.toNat_natCast]
    rw [if_pos (by simp; omega)]
    exact ⟨_, rfl, by simp; omega, hval _ (by decide)⟩
  · rw [if_neg (by omega), if_pos (by omega), if_pos (by omega)]
    simp only [Int.toNat_natCast]
    rw [if_pos (by simp; omega)]
    exact ⟨_, rfl, by simp; omega, hval _ rfl⟩
theorem cf_long (l : List Int) : slices_ContainsFunc_uint32_uint32__impl_long_sign_1.f l = some (l.any fun x => x != 0) := by
  induction l with
  | nil => rfl
  | cons x q ih =>
    simp only [slices_ContainsFunc_uint32_uint32__impl_long_sign_1.f, impl_long_sign_1.f, Option.bind_some, List.any_cons, ih]
    cases (x != 0) <;> rfl
theorem valN_none (f : Nat → Int) (n : Nat) (h : ∀ i, isDig (f i)) (h0 : valN f n = 0) : ∀ i, i < n → f i = 0 := by
  induction n with
  | zero => intro i hi; omega
  | succ n ih =>
    simp only [valN] at h0
    have r := valN_range f n h
    have hp := pw_pos n
    have h1 : 0 ≤ f n * 4294967296 ^ n := Int.mul_nonneg (h n).1 (by omega)
    have h2 : f n * 4294967296 ^ n = 0 := by omega
    have h3 : f n = 0 := by
      rcases Int.mul_eq_zero.1 h2 with h | h
      · exact h
      · omega
    intro i hi
    by_cases e : i = n
    · rw [e]; exact h3
    · exact ih (by omega) i (by omega)
theorem any_vl (l : List Int) (h : digs l) : (l.any fun x => x != 0) = decide (vl l ≠ 0) := by
  by_cases h0 : vl l = 0
  · rw [decide_eq_false (by simpa using h0)]
    rw [List.any_eq_false]
    intro x hx
    obtain ⟨i, hi, rfl⟩ := List.getElem_of_mem hx
    have := valN_none (dig l) l.length (dig_range l h) h0 i hi
    unfold dig at this
    rw [if_pos hi, rd_getElem l i hi] at this
    simp [this]
  · rw [decide_eq_true h0, List.any_eq_true]
    by_cases hz : ∃ x, x ∈ l ∧ (x != 0) = true
    · exact hz
    · exfalso
      apply h0
      have : ∀ i, i < l.length → dig l i = (fun _ => (0 : Int)) i := by
        intro i hi
        unfold dig
        rw [if_pos hi]
        have hm := rd_mem l i hi
        by_cases e : rd l (i : Int) = 0
        · exact e
        · exact absurd ⟨_, hm, by simpa using e⟩ hz
      unfold vl
      rw [valN_congr _ _ _ this]
      have : ∀ n, valN (fun _ => (0 : Int)) n = 0 := by
        intro n; induction n with
        | zero => rfl
        | succ n ih => simp [valN, ih]
      exact this _
def sgnI (x : Int) : Int := if x > 0 then 1 else if x < 0 then -1 else 0
theorem longSign_eq (neg : Bool) (l : List Int) (h : digs l) : impl_long_sign.f neg l = some (sgnI (sv neg l)) := by
  unfold impl_long_sign.f
  rw [cf_long, any_vl l h, Option.bind_some]
  have r := vl_range l h
  unfold sgnI sv
  by_cases h0 : vl l = 0
  · rw [h0]; cases neg <;> simp
  · rw [decide_eq_true h0, if_pos rfl]
    cases neg
    · rw [if_neg (by decide)]; simp only [Bool.false_eq_true, if_false]; rw [if_pos (by omega)]
    · rw [if_pos rfl]; simp only [if_true]; rw [if_neg (by omega), if_pos (by omega)]
/-- Horner's sum: the value times 2^(k times the degree), from the top down. -/
def hor (p : List Int) (n : Int) (k : Nat) : Nat → Int
  | 0 => 0
  | j + 1 => hor p n k j * n + rd p ((p.length - 1 - j : Nat) : Int) * 2 ^ (k * j)
theorem signAt_l0 (p : List Int) (hl : p.length ≤ 9) (hb : boundB p 1000000000) (n : Int) (hn : -4294967295 ≤ n ∧ n ≤ 4294967295) (k : Nat) (hk : k ≤ 24) (d : Nat) : ∀ (j : Nat) (neg : Bool) (ds : List Int), j ≤ p.length → p.length - j = d → digs ds → ds.length ≤ 16 * j → sv neg ds = hor p n k j →
    Ev (fun z => impl_signAt.l0 z p ((p.length : Int) - 1 - (j : Int)) n (k : Int) neg ds) (sgnI (hor p n k p.length)) := by
  induction d with
  | zero =>
    intro j neg ds hj hd hds hlen hv
    have e : j = p.length := by omega
    subst e
    refine Ev.step (fun z => rfl) ?_
    simp only [impl_signAt.l0]
    refine Ev_if (fun h => by omega) (fun _ => Ev_bindS (longSign_eq neg ds hds) ?_)
    rw [hv]; exact Ev.now _
  | succ d ih =>
    intro j neg ds hj hd hds hlen hv
    obtain ⟨o, t1, t2, t3, t4⟩ := times_ev neg ds hds (by omega) n hn
    have hjk : k * j ≤ 24 * 8 := Nat.mul_le_mul hk (by omega)
    have hx := hb _ (rd_mem p (p.length - 1 - j) (by omega))
    obtain ⟨b, l1, l2, l3, l4⟩ := longOf_ev (rd p ((p.length - 1 - j : Nat) : Int)) ⟨by omega, by omega⟩ (k * j) (by omega)
    obtain ⟨no, s, s1, s2, s3, s4⟩ := plus_ev (neg != decide (n < 0)) (decide (rd p ((p.length - 1 - j : Nat) : Int) < 0)) o b t3 l3 (by omega) (by omega)
    have e1 : (p.length : Int) - 1 - (j : Int) = ((p.length - 1 - j : Nat) : Int) := by omega
    have ew : wrap64 ((k : Int) * wrap64 (wrap64 ((p.length : Int) - 1) - ((p.length - 1 - j : Nat) : Int))) = ((k * j : Nat) : Int) := by
      have : wrap64 (wrap64 ((p.length : Int) - 1) - ((p.length - 1 - j : Nat) : Int)) = (j : Int) := by unfold wrap64; omega
      rw [this, ← Int.natCast_mul]; unfold wrap64; omega
    have hval : sv no s = hor p n k (j + 1) := by
      rw [s4]
      simp only [hor]
      rw [← hv]
      have a1 : sv (neg != decide (n < 0)) o = sv neg ds * n := by
        unfold sv; rw [t4]; unfold absI
        by_cases h : n < 0
        · rw [decide_eq_true h, show ((n.natAbs : Nat) : Int) = -n by omega]
          cases neg <;> simp [Int.mul_neg, Int.neg_mul]
        · rw [decide_eq_false h, show ((n.natAbs : Nat) : Int) = n by omega]
          cases neg <;> simp [Int.mul_neg, Int.neg_mul]
      have a2 : sv (decide (rd p ((p.length - 1 - j : Nat) : Int) < 0)) b = rd p ((p.length - 1 - j : Nat) : Int) * 2 ^ (k * j) := by
        unfold sv; rw [l4]; unfold absI
        generalize rd p ((p.length - 1 - j : Nat) : Int) = x
        by_cases h : x < 0
        · rw [decide_eq_true h, if_pos rfl, show ((x.natAbs : Nat) : Int) = -x by omega, Int.neg_mul, Int.neg_neg]
        · rw [decide_eq_false h, if_neg (by decide), show ((x.natAbs : Nat) : Int) = x by omega]
      rw [a1, a2]
    have hrec := ih (j + 1) no s (by omega) (by omega) s3 (by omega) hval
    refine Ev.step (fun z => rfl) ?_
    simp only [impl_signAt.l0]
    rw [e1, ew]
    refine Ev_if (fun _ => Ev.bind t1 (Ev_if (fun _ => Ev_if (fun _ => Ev_bindS l1 (Ev.bind s1 ?_)) (fun h => by omega)) (fun h => by omega))) (fun h => by omega)
    rw [show wrap64 (((p.length - 1 - j : Nat) : Int) - 1) = (p.length : Int) - 1 - ((j + 1 : Nat) : Int) by unfold wrap64; omega]
    exact hrec
theorem signAt_ev (p : List Int) (hl : p.length ≤ 9) (hb : boundB p 1000000000) (n : Int) (hn : -4294967295 ≤ n ∧ n ≤ 4294967295) (k : Nat) (hk : k ≤ 24) : Ev (fun z => impl_signAt.f z p n (k : Int)) (sgnI (hor p n k p.length)) := by
  unfold impl_signAt.f
  have h := signAt_l0 p hl hb n hn k hk p.length 0 false [] (by omega) (by omega) digs_nil (by simp) (by simp [sv, vl, valN, hor])
  rw [show wrap64 ((p.length : Int) - 1) = (p.length : Int) - 1 - ((0 : Nat) : Int) by unfold wrap64; omega]
  exact h
theorem l1Sign_eq (x : Int) : spec_l1Sign.f x = some (sgnI x) := by
  unfold spec_l1Sign.f sgnI; split
  · rfl
  · split <;> rfl
theorem dyDown_eq (a : Int) (h : -4611686018427387904 ≤ a ∧ a ≤ 4611686018427387904) : spec_dyDown.f a 16777216 = some (a / 16777216) := by
  unfold spec_dyDown.f
  rw [if_neg (by omega)]
  by_cases h0 : 0 ≤ a
  · have e1 : Int.tmod a 16777216 = a % 16777216 := Int.tmod_eq_emod_of_nonneg h0
    have e2 : Int.tdiv a 16777216 = a / 16777216 := Int.tdiv_eq_ediv_of_nonneg h0
    rw [e1, e2, if_neg (by omega), show wrap64 (a / 16777216) = a / 16777216 by unfold wrap64; omega]
  · obtain ⟨b, rfl⟩ : ∃ b, a = -b := ⟨-a, by omega⟩
    rw [Int.neg_tmod, Int.neg_tdiv, Int.tmod_eq_emod_of_nonneg (by omega), Int.tdiv_eq_ediv_of_nonneg (by omega)]
    by_cases hm : b % 16777216 = 0
    · rw [if_neg (by omega), show wrap64 (-(b / 16777216)) = -b / 16777216 by unfold wrap64; omega]
    · rw [if_pos (by omega), show wrap64 (wrap64 (-(b / 16777216)) - 1) = -b / 16777216 by unfold wrap64; omega]
/-- The value of the first n digits to the base 2^24. -/
def valW (f : Nat → Int) : Nat → Int
  | 0 => 0
  | n + 1 => valW f n + f n * 16777216 ^ n
theorem qw_pos (n : Nat) : (0 : Int) < 16777216 ^ n := Int.pow_pos (by omega)
theorem qw_succ (n : Nat) : (16777216 : Int) ^ (n + 1) = 16777216 ^ n * 16777216 := Int.pow_succ ..
theorem valW_congr (f g : Nat → Int) (n : Nat) (h : ∀ i, i < n → f i = g i) : valW f n = valW g n := by
  induction n with
  | zero => rfl
  | succ n ih => simp only [valW]; rw [ih (fun i hi => h i (by omega)), h n (by omega)]
theorem valW_zero (f : Nat → Int) (n k : Nat) (h : ∀ i, n ≤ i → f i = 0) : valW f (n + k) = valW f n := by
  induction k with
  | zero => rfl
  | succ k ih => rw [← Nat.add_assoc]; simp only [valW]; rw [ih, h _ (by omega)]; simp
theorem valW_add (f g : Nat → Int) (n : Nat) : valW (fun i => f i + g i) n = valW f n + valW g n := by
  induction n with
  | zero => rfl
  | succ n ih => simp only [valW]; rw [ih, Int.add_mul]; omega
theorem valW_mul (f : Nat → Int) (m : Int) (n : Nat) : valW (fun i => f i * m) n = valW f n * m := by
  induction n with
  | zero => simp [valW]
  | succ n ih => simp only [valW]; rw [ih]; grind
def isDigW (x : Int) : Prop := 0 ≤ x ∧ x ≤ 16777215
theorem valW_range (f : Nat → Int) (n : Nat) (h : ∀ i, i < n → isDigW (f i)) : 0 ≤ valW f n ∧ valW f n < 16777216 ^ n := by
  induction n with
  | zero => simp [valW]
  | succ n ih =>
    have hp := qw_pos n
    have r := ih (fun i hi => h i (by omega))
    have h1 : 0 ≤ f n * 16777216 ^ n := Int.mul_nonneg (h n (by omega)).1 (by omega)
    have h2 : f n * 16777216 ^ n ≤ 16777215 * 16777216 ^ n := Int.mul_le_mul_of_nonneg_right (h n (by omega)).2 (by omega)
    simp only [valW]; rw [qw_succ]; omega
def wl (l : List Int) : Int := valW (dig l) l.length
theorem wl_far (l : List Int) (n : Nat) (h : l.length ≤ n) : valW (dig l) n = wl l := by
  obtain ⟨k, rfl⟩ : ∃ k, n = l.length + k := ⟨n - l.length, by omega⟩
  exact valW_zero _ _ _ (fun i hi => by unfold dig; rw [if_neg (by omega)])
theorem dig_app_lt (l : List Int) (x : Int) (i : Nat) (hi : i < l.length) : dig (l ++ [x]) i = dig l i := by
  unfold dig
  rw [if_pos (by simp; omega), if_pos hi, rd_getElem _ i (by simp; omega), rd_getElem l i hi, List.getElem_append_left hi]
theorem dig_app_eq (l : List Int) (x : Int) : dig (l ++ [x]) l.length = x := by
  unfold dig
  rw [if_pos (by simp), rd_getElem _ _ (by simp)]
  simp
theorem wl_append (l : List Int) (x : Int) : wl (l ++ [x]) = wl l + x * 16777216 ^ l.length := by
  unfold wl
  rw [show (l ++ [x]).length = l.length + 1 by simp]
  simp only [valW]
  rw [dig_app_eq, valW_congr _ _ _ (fun i hi => dig_app_lt l x i hi)]
def digsW (l : List Int) : Prop := ∀ x ∈ l, isDigW x
theorem digsW_append (l : List Int) (x : Int) (h : digsW l) (hx : isDigW x) : digsW (l ++ [x]) := by
  intro y hy
  rcases List.mem_append.1 hy with h1 | h1
  · exact h y h1
  · rw [List.mem_singleton.1 h1]; exact hx
theorem digW_range (l : List Int) (h : digsW l) (i : Nat) : isDigW (dig l i) := by
  unfold dig; split
  · rename_i hi; exact h _ (rd_mem l i hi)
  · exact ⟨by omega, by omega⟩
/-- Digits, and the sign behind them. -/
def niceW (l : List Int) : Prop := digsW l ∨ ∃ d, l = d ++ [-1] ∧ digsW d
theorem nice_bound (l : List Int) (h : niceW l) : boundB l 16777216 := by
  intro x hx
  rcases h with h | ⟨d, rfl, h⟩
  · have := h x hx; unfold isDigW at this; omega
  · rcases List.mem_append.1 hx with h1 | h1
    · have := h x h1; unfold isDigW at this; omega
    · rw [List.mem_singleton.1 h1]; omega
theorem carry_l1 (n : Nat) : ∀ (out : List Int) (c : Int), out.length + n ≤ 1000000 → digsW out → -(16777216 ^ n) ≤ c ∧ c < 16777216 ^ n → -2305843009213693952 ≤ c ∧ c ≤ 2305843009213693952 →
    ∃ o, Ev (fun z => spec_stCarry.l1 z out c) o ∧ wl o = wl out + c * 16777216 ^ out.length ∧ o.length ≤ out.length + n + 1 ∧ niceW o := by
  have base : ∀ (n : Nat) (out : List Int) (c : Int), out.length ≤ 1000000 → digsW out → (c = 0 ∨ c = -1) →
      ∃ o, Ev (fun z => spec_stCarry.l1 z out c) o ∧ wl o = wl out + c * 16777216 ^ out.length ∧ o.length ≤ out.length + n + 1 ∧ niceW o := by
    intro n out c hl hd hc
    rcases hc with rfl | rfl
    · refine ⟨out, ?_, by simp, by omega, .inl hd⟩
      refine Ev.step (fun z => rfl) ?_
      simp only [spec_stCarry.l1]
      exact Ev_if (fun _ => Ev_if (fun h => by omega) (fun _ => Ev.now _)) (fun h => by simp at h)
    · refine ⟨out ++ [-1], ?_, wl_append _ _, by simp, .inr ⟨out, rfl, hd⟩⟩
      refine Ev.step (fun z => rfl) ?_
      simp only [spec_stCarry.l1]
      exact Ev_if (fun h => by omega) (fun _ => Ev_if (fun _ => Ev_if (fun _ => Ev.now _) (fun h => by omega)) (fun h => by simp at h))
  induction n with
  | zero =>
    intro out c hl hd hc _
    rw [Int.pow_zero] at hc
    exact base 0 out c (by omega) hd (by omega)
  | succ n ih =>
    intro out c hl hd hc hb
    by_cases h0 : c = 0 ∨ c = -1
    · exact base (n + 1) out c (by omega) hd h0
    · rw [qw_succ] at hc
      have hr : -(16777216 ^ n) ≤ c / 16777216 ∧ c / 16777216 < 16777216 ^ n := by
        generalize (16777216 : Int) ^ n = P at hc ⊢
        omega
      obtain ⟨o, h1, h2, h3, h4⟩ := ih (out ++ [c % 16777216]) (c / 16777216) (by simp; omega) (digsW_append _ _ hd ⟨by omega, by omega⟩) hr ⟨by omega, by omega⟩
      refine ⟨o, ?_, ?_, by simp at h3; omega, h4⟩
      · refine Ev.step (fun z => rfl) ?_
        simp only [spec_stCarry.l1]
        refine Ev_if (fun h => by omega) (fun _ => Ev_if (fun h => by omega) (fun _ => Ev_bindS (dyDown_eq c ⟨by omega, by omega⟩) (Ev_if (fun _ => ?_) (fun h => by omega))))
        rw [show wrap64 (c - wrap64 (c / 16777216 * 16777216)) = c % 16777216 by unfold wrap64; omega]
        exact h1
      · rw [h2, wl_append]
        simp only [List.length_append, List.length_cons, List.length_nil, Nat.zero_add]
        rw [qw_succ]
        have hq : c = c / 16777216 * 16777216 + c % 16777216 := by omega
        obtain ⟨q, hqe⟩ : ∃ q, c / 16777216 = q := ⟨_, rfl⟩
        obtain ⟨g, hge⟩ : ∃ g, c % 16777216 = g := ⟨_, rfl⟩
        rw [hqe, hge] at hq ⊢
        generalize (16777216 : Int) ^ out.length = P
        rw [hq]
        grind
theorem take_dig (l : List Int) (i : Nat) (h : i < l.length) : valW (dig l) (i + 1) = valW (dig l) i + rd l (i : Int) * 16777216 ^ i := by
  simp only [valW]; unfold dig; rw [if_pos h]
theorem carry_l0 (l : List Int) (hl : l.length ≤ 100000) (hb : boundB l 1152921504606846976) (d : Nat) : ∀ (i : Nat) (out : List Int) (c : Int), i ≤ l.length → l.length - i = d → out.length = i → digsW out → -1152921504606846976 ≤ c ∧ c ≤ 1152921504606846976 → wl out + c * 16777216 ^ i = valW (dig l) i →
    ∃ o, Ev (fun z => spec_stCarry.l0 z out c l (l.length : Int) (i : Int)) o ∧ wl o = wl l ∧ o.length ≤ l.length + 4 ∧ niceW o := by
  induction d with
  | zero =>
    intro i out c hi hd ho hdo hc hv
    have e : i = l.length := by omega
    subst e
    obtain ⟨o, h1, h2, h3, h4⟩ := carry_l1 3 out c (by omega) hdo (by rw [show (16777216 : Int) ^ 3 = 4722366482869645213696 by decide]; omega) (by omega)
    refine ⟨o, ?_, by rw [h2, ho, hv]; rfl, by omega, h4⟩
    refine Ev.step (fun z => rfl) ?_
    simp only [spec_stCarry.l0]
    exact Ev_if (fun h => by omega) (fun _ => h1)
  | succ d ih =>
    intro i out c hi hd ho hdo hc hv
    have hx := hb _ (rd_mem l i (by omega))
    obtain ⟨x, hxe⟩ : ∃ x, rd l (i : Int) = x := ⟨_, rfl⟩
    obtain ⟨t, ht⟩ : ∃ t, x + c = t := ⟨_, rfl⟩
    have htd := take_dig l i (by omega)
    rw [hxe] at hx htd
    obtain ⟨o, h1, h2, h3, h4⟩ := ih (i + 1) (out ++ [t % 16777216]) (t / 16777216) (by omega) (by omega) (by simp; omega) (digsW_append _ _ hdo ⟨by omega, by omega⟩) ⟨by omega, by omega⟩ (by
      rw [wl_append, ho, qw_succ, htd]
      have hq : t = t / 16777216 * 16777216 + t % 16777216 := by omega
      obtain ⟨q, hqe⟩ : ∃ q, t / 16777216 = q := ⟨_, rfl⟩
      obtain ⟨g, hge⟩ : ∃ g, t % 16777216 = g := ⟨_, rfl⟩
      rw [hqe, hge] at hq ⊢
      generalize (16777216 : Int) ^ i = P at hv ⊢
      rw [← ht] at hq
      grind)
    refine ⟨o, ?_, h2, h3, h4⟩
    refine Ev.step (fun z => rfl) ?_
    simp only [spec_stCarry.l0]
    rw [hxe, show wrap64 (x + c) = t by unfold wrap64; omega, wrap_next i (by omega)]
    refine Ev_if (fun _ => Ev_if (fun _ => Ev_if (fun _ => Ev_bindS (dyDown_eq t ⟨by omega, by omega⟩) (Ev_if (fun _ => ?_) (fun h => by omega))) (fun h => by omega)) (fun h => by omega)) (fun h => by omega)
    rw [show wrap64 (t - wrap64 (t / 16777216 * 16777216)) = t % 16777216 by unfold wrap64; omega]
    exact h1
theorem carry_ev (l : List Int) (hl : l.length ≤ 100000) (hb : boundB l 1152921504606846976) : ∃ o, Ev (fun z => spec_stCarry.f z l) o ∧ wl o = wl l ∧ o.length ≤ l.length + 4 ∧ niceW o :=
  carry_l0 l hl hb l.length 0 [] 0 (by omega) (by omega) rfl (fun x hx => by cases hx) ⟨by omega, by omega⟩ (by simp [wl, valW])
def mulW (l : List Int) (m : Int) : List Int := l.map fun x => x * m
theorem mulW_length (l : List Int) (m : Int) : (mulW l m).length = l.length := by simp [mulW]
theorem mulW_rd (l : List Int) (m : Int) (j : Nat) (h : j < l.length) : rd (mulW l m) (j : Int) = rd l (j : Int) * m := by
  rw [rd_getElem _ j (by rw [mulW_length]; exact h), rd_getElem l j h]; simp [mulW]
theorem mulW_wl (l : List Int) (m : Int) : wl (mulW l m) = wl l * m := by
  unfold wl
  rw [mulW_length, ← valW_mul]
  apply valW_congr
  intro i hi
  unfold dig
  rw [if_pos (by rw [mulW_length]; exact hi), if_pos hi, mulW_rd l m i hi]
theorem mul_absW (x y a b : Int) (hx : -a ≤ x ∧ x ≤ a) (hy : -b ≤ y ∧ y ≤ b) : -(a * b) ≤ x * y ∧ x * y ≤ a * b := by
  have h1 : ((x.natAbs : Nat) : Int) ≤ a := by omega
  have h2 : ((y.natAbs : Nat) : Int) ≤ b := by omega
  have h3 : (((x * y).natAbs : Nat) : Int) ≤ a * b := by
    rw [Int.natAbs_mul, Int.natCast_mul]
    exact Int.mul_le_mul h1 h2 (by omega) (by omega)
  omega
theorem mulW_bound (l : List Int) (m : Int) (hb : boundB l 16777216) (hm : -1073741824 ≤ m ∧ m ≤ 1073741824) : boundB (mulW l m) 18014398509481984 := by
  intro x hx
  obtain ⟨y, hy, rfl⟩ := List.mem_map.1 hx
  have := mul_absW y m 16777216 1073741824 (hb y hy) hm
  omega
theorem stTimes_l0 (l : List Int) (hl : l.length ≤ 100000) (m : Int) (hm : -1073741824 ≤ m ∧ m ≤ 1073741824) (hb : boundB l 16777216) (r : List Int) (hr : Ev (fun z => spec_stCarry.f z (mulW l m)) r) (n : Nat) : ∀ (i : Nat), i ≤ l.length → l.length - i = n → Ev (fun z => spec_stTimes.l0 z m ((mulW l m).take i) l (l.length : Int) (i : Int)) r := by
  induction n with
  | zero =>
    intro i hi hn
    refine Ev.step (fun z => rfl) ?_
    simp only [spec_stTimes.l0]
    refine Ev_if (fun h => by omega) (fun _ => ?_)
    rw [List.take_of_length_le (by rw [mulW_length]; omega)]
    exact Ev.bind hr (Ev.now _)
  | succ n ih =>
    intro i hi hn
    refine Ev.step (fun z => rfl) ?_
    simp only [spec_stTimes.l0]
    have hx := mul_absW _ m 16777216 1073741824 (hb _ (rd_mem l i (by omega))) hm
    have e : (mulW l m).take i ++ [wrap64 (rd l (i : Int) * m)] = (mulW l m).take (i + 1) := by
      have h1 : i < (mulW l m).length := by rw [mulW_length]; omega
      rw [show wrap64 (rd l (i : Int) * m) = rd l (i : Int) * m by unfold wrap64; omega, ← mulW_rd l m i (by omega), rd_getElem _ i h1, List.take_succ_eq_append_getElem h1]
    rw [wrap_next i (by omega), e]
    exact Ev_if (fun _ => Ev_if (fun _ => Ev_if (fun _ => Ev_if (fun _ => ih (i + 1) (by omega) (by omega)) (fun h => absurd (by simp; omega) h)) (fun h => by omega)) (fun h => by omega)) (fun h => by omega)
theorem stTimes_ev (l : List Int) (hl : l.length ≤ 90000) (m : Int) (hm : -1073741824 ≤ m ∧ m ≤ 1073741824) (hb : boundB l 16777216) : ∃ o, Ev (fun z => spec_stTimes.f z l m) o ∧ wl o = wl l * m ∧ o.length ≤ l.length + 4 ∧ niceW o := by
  obtain ⟨o, h1, h2, h3, h4⟩ := carry_ev (mulW l m) (by rw [mulW_length]; omega) (fun x hx => by have := mulW_bound l m hb hm x hx; omega)
  rw [mulW_length] at h3
  refine ⟨o, ?_, by rw [h2, mulW_wl], h3, h4⟩
  have h := stTimes_l0 l (by omega) m hm hb o h1 l.length 0 (by omega) (by omega)
  unfold spec_stTimes.f
  simpa using h
def joinW (a b : List Int) (n : Nat) : List Int := (List.range n).map fun i => dig a i + dig b i
theorem joinW_length (a b : List Int) (n : Nat) : (joinW a b n).length = n := by simp [joinW]
theorem joinW_succ (a b : List Int) (n : Nat) : joinW a b (n + 1) = joinW a b n ++ [dig a n + dig b n] := by simp [joinW, List.range_succ]
theorem joinW_wl (a b : List Int) (n : Nat) (ha : a.length ≤ n) (hb : b.length ≤ n) : wl (joinW a b n) = wl a + wl b := by
  rw [← wl_far a n ha, ← wl_far b n hb, ← valW_add]
  unfold wl
  rw [joinW_length]
  apply valW_congr
  intro i hi
  rw [show dig (joinW a b n) i = rd (joinW a b n) (i : Int) by unfold dig; rw [if_pos (by rw [joinW_length]; exact hi)], rd_getElem _ i (by rw [joinW_length]; exact hi)]
  simp [joinW]
theorem dig_bound (l : List Int) (m : Int) (hm : 0 ≤ m) (hb : boundB l m) (i : Nat) : -m ≤ dig l i ∧ dig l i ≤ m := by
  unfold dig; split
  · rename_i hi; exact hb _ (rd_mem l i hi)
  · omega
theorem stJoin_l0 (a b : List Int) (hla : a.length ≤ 100000) (hlb : b.length ≤ 100000) (ha : boundB a 16777216) (hb : boundB b 16777216) (N : Nat) (hN : N = if a.length < b.length then b.length else a.length) (r : List Int) (hr : Ev (fun z => spec_stCarry.f z (joinW a b N)) r) (n : Nat) : ∀ (i : Nat), i ≤ N → N - i = n → Ev (fun z => spec_stJoin.l0 z a b (joinW a b i) (i : Int)) r := by
  have hNa : a.length ≤ N := by rw [hN]; split <;> omega
  have hNb : b.length ≤ N := by rw [hN]; split <;> omega
  have hNm : N = a.length ∨ N = b.length := by rw [hN]; split <;> omega
  clear hN
  induction n with
  | zero =>
    intro i hi hn
    have e : i = N := by omega
    subst e
    refine Ev.step (fun z => rfl) ?_
    simp only [spec_stJoin.l0]
    refine Ev_if (fun h => by omega) (fun _ => ?_)
    rw [decide_eq_false (show ¬ (i : Int) < (b.length : Int) by omega)]
    refine Ev.step (fun z => rfl) ?_
    simp only [spec_stJoin.j1]
    exact Ev_if (fun h => by cases h) (fun _ => Ev.bind hr (Ev.now _))
  | succ n ih =>
    intro i hi hn
    have hrec := ih (i + 1) (by omega) (by omega)
    rw [joinW_succ] at hrec
    have hlen := joinW_length a b i
    have hda := dig_bound a 16777216 (by omega) ha i
    have hdb := dig_bound b 16777216 (by omega) hb i
    have key : Ev (fun z => spec_stJoin.j1 z a b (joinW a b i) (i : Int) true) r := by
      refine Ev.step (fun z => rfl) ?_
      simp only [spec_stJoin.j1]
      rw [wrap_next i (by omega)]
      refine Ev_if (fun _ => Ev_if (fun h1 => Ev_if (fun _ => Ev_if (fun h2 => Ev_if (fun _ => ?_) (fun h => by omega)) (fun h2 => Ev_if (fun _ => ?_) (fun h => by omega))) (fun h => by omega)) (fun h1 => Ev_if (fun h2 => Ev_if (fun _ => Ev_if (fun _ => ?_) (fun h => by omega)) (fun h => by omega)) (fun h2 => by omega))) (fun h => by simp at h)
      · have ea : dig a i = rd a (i : Int) := by unfold dig; rw [if_pos (by omega)]
        have eb : dig b i = rd b (i : Int) := by unfold dig; rw [if_pos (by omega)]
        rw [← ea, ← eb, show wrap64 (wrap64 (dig a i) + dig b i) = dig a i + dig b i by unfold wrap64; omega]
        exact hrec
      · have ea : dig a i = rd a (i : Int) := by unfold dig; rw [if_pos (by omega)]
        have eb : dig b i = 0 := by unfold dig; rw [if_neg (by omega)]
        rw [← ea, show wrap64 (dig a i) = dig a i + dig b i by unfold wrap64; omega]
        exact hrec
      · have ea : dig a i = 0 := by unfold dig; rw [if_neg (by omega)]
        have eb : dig b i = rd b (i : Int) := by unfold dig; rw [if_pos (by omega)]
        rw [← eb, show wrap64 (dig b i) = dig a i + dig b i by unfold wrap64; omega]
        exact hrec
    refine Ev.step (fun z => rfl) ?_
    simp only [spec_stJoin.l0]
    refine Ev_if (fun _ => key) (fun h => ?_)
    rw [decide_eq_true (show (i : Int) < (b.length : Int) by omega)]
    exact key
theorem stJoin_ev (a b : List Int) (hla : a.length ≤ 99990) (hlb : b.length ≤ 99990) (ha : boundB a 16777216) (hb : boundB b 16777216) : ∃ o, Ev (fun z => spec_stJoin.f z a b) o ∧ wl o = wl a + wl b ∧ (o.length ≤ a.length + 4 ∨ o.length ≤ b.length + 4) ∧ niceW o := by
  obtain ⟨N, hN⟩ : ∃ N, N = if a.length < b.length then b.length else a.length := ⟨_, rfl⟩
  have hNa : a.length ≤ N := by rw [hN]; split <;> omega
  have hNb : b.length ≤ N := by rw [hN]; split <;> omega
  have hNm : N = a.length ∨ N = b.length := by rw [hN]; split <;> omega
  obtain ⟨o, h1, h2, h3, h4⟩ := carry_ev (joinW a b N) (by rw [joinW_length]; omega) (by
    intro x hx
    obtain ⟨i, hi, rfl⟩ := List.mem_map.1 hx
    have hda := dig_bound a 16777216 (by omega) ha i
    have hdb := dig_bound b 16777216 (by omega) hb i
    omega)
  rw [joinW_length] at h3
  exact ⟨o, stJoin_l0 a b (by omega) (by omega) ha hb N hN o h1 N 0 (by omega) (by omega), by rw [h2, joinW_wl a b N hNa hNb], by omega, h4⟩
theorem stSign_digs (l d : List Int) (hl : l.length ≤ 100000) (hd : digsW d) (j : Nat) (hj : j ≤ l.length) (hdl : ∀ i, i < j → dig l i = dig d i) : Ev (fun z => spec_stSign.l1 z l ((j : Int) - 1)) (sgnI (valW (dig l) j)) := by
  induction j with
  | zero =>
    refine Ev.step (fun z => rfl) ?_
    simp only [spec_stSign.l1]
    exact Ev_if (fun h => by omega) (fun _ => Ev.now _)
  | succ j ih =>
    have hdj := digW_range d hd j
    rw [← hdl j (by omega)] at hdj
    have hr : dig l j = rd l (j : Int) := by unfold dig; rw [if_pos (by omega)]
    have rg := valW_range (dig l) j (fun i hi => by rw [hdl i (by omega)]; exact digW_range d hd i)
    have hp := qw_pos j
    refine Ev.step (fun z => rfl) ?_
    simp only [spec_stSign.l1]
    rw [show ((j + 1 : Nat) : Int) - 1 = (j : Int) by omega, ← hr]
    refine Ev_if (fun _ => Ev_if (fun _ => Ev_if (fun _ => Ev_if (fun h0 => ?_) (fun h0 => Ev_bindS (l1Sign_eq _) (Ev_eq (Ev.now _) ?_))) (fun h => by omega)) (fun h => by omega)) (fun h => by omega)
    · rw [show wrap64 ((j : Int) - 1) = (j : Int) - 1 by unfold wrap64; omega]
      refine Ev_eq (ih (by omega) (fun i hi => hdl i (by omega))) ?_
      simp only [valW]; rw [h0]; simp
    · unfold isDigW at hdj
      have h1 : 1 * 16777216 ^ j ≤ dig l j * 16777216 ^ j := Int.mul_le_mul_of_nonneg_right (by omega) (by omega)
      simp only [valW]
      unfold sgnI
      rw [if_pos (by omega), if_pos (by omega)]
theorem stSign_nice (l : List Int) (hl : l.length ≤ 100000) (h : niceW l) : Ev (fun z => spec_stSign.l1 z l ((l.length : Int) - 1)) (sgnI (wl l)) := by
  rcases h with h | ⟨d, rfl, h⟩
  · exact stSign_digs l l hl h l.length (Nat.le_refl _) (fun i hi => rfl)
  · have e : (((d ++ [-1]).length : Nat) : Int) - 1 = (d.length : Int) := by simp
    have hr : rd (d ++ [-1]) (d.length : Int) = -1 := by
      rw [rd_getElem _ _ (by simp)]; simp
    have rg := valW_range (dig d) d.length (fun i hi => digW_range d h i)
    rw [e, wl_append]
    refine Ev.step (fun z => rfl) ?_
    simp only [spec_stSign.l1]
    rw [hr]
    refine Ev_if (fun _ => Ev_if (fun _ => Ev_if (fun _ => Ev_if (fun h0 => by omega) (fun h0 => Ev_bindS (l1Sign_eq _) (Ev_eq (Ev.now _) ?_))) (fun h => absurd (by simp; omega) h)) (fun h => by omega)) (fun h => by omega)
    have : wl d + -1 * 16777216 ^ d.length < 0 := by unfold wl; omega
    unfold sgnI
    rw [if_neg (by omega), if_pos (by omega), if_neg (by omega), if_pos (by omega)]
theorem stSign_l0 (p : List Int) (hl : p.length ≤ 9) (hb : boundB p 1000000000) (n : Int) (hn : -16777216 ≤ n ∧ n ≤ 16777216) (k : Nat) (hk : k ≤ 24) (d : Nat) : ∀ (j : Nat) (s w : List Int), j ≤ p.length → p.length - j = d → niceW s → niceW w → s.length ≤ 16 * j + 16 → w.length ≤ 4 * j + 4 → wl s = hor p n k j → wl w = 2 ^ (k * j) →
    Ev (fun z => spec_stSign.l0 z p n (k : Int) s w ((p.length : Int) - 1 - (j : Int))) (sgnI (hor p n k p.length)) := by
  induction d with
  | zero =>
    intro j s w hj hd hs hw hsl hwl hsv hwv
    have e : j = p.length := by omega
    subst e
    refine Ev.step (fun z => rfl) ?_
    simp only [spec_stSign.l0]
    refine Ev_if (fun h => by omega) (fun _ => ?_)
    rw [← hsv, show wrap64 ((s.length : Int) - 1) = (s.length : Int) - 1 by unfold wrap64; omega]
    exact stSign_nice s (by omega) hs
  | succ d ih =>
    intro j s w hj hd hs hw hsl hwl hsv hwv
    have hx := hb _ (rd_mem p (p.length - 1 - j) (by omega))
    obtain ⟨a, a1, a2, a3, a4⟩ := stTimes_ev s (by omega) n ⟨by omega, by omega⟩ (nice_bound s hs)
    obtain ⟨b, b1, b2, b3, b4⟩ := stTimes_ev w (by omega) (rd p ((p.length - 1 - j : Nat) : Int)) ⟨by omega, by omega⟩ (nice_bound w hw)
    obtain ⟨c, c1, c2, c3, c4⟩ := stJoin_ev a b (by omega) (by omega) (nice_bound a a4) (nice_bound b b4)
    have hpk : (1 : Int) ≤ 2 ^ k := Int.pow_pos (by omega)
    have hpk2 : (2 : Int) ^ k ≤ 2 ^ 30 := pow30 k (by omega)
    obtain ⟨v, v1, v2, v3, v4⟩ := stTimes_ev w (by omega) (2 ^ k) ⟨by omega, by omega⟩ (nice_bound w hw)
    have e1 : (p.length : Int) - 1 - (j : Int) = ((p.length - 1 - j : Nat) : Int) := by omega
    have hrec := ih (j + 1) c v (by omega) (by omega) c4 v4 (by omega) (by omega) (by
      rw [c2, a2, b2, hsv, hwv]; simp only [hor]; rw [Int.mul_comm (2 ^ (k * j))]) (by
      rw [v2, hwv, ← Int.pow_add, Nat.mul_add, Nat.mul_one])
    refine Ev.step (fun z => rfl) ?_
    simp only [spec_stSign.l0]
    rw [e1]
    refine Ev_if (fun _ => Ev.bind a1 (Ev_if (fun _ => Ev_if (fun _ => Ev.bind b1 (Ev.bind c1 (Ev_bindS (dyPower_eq (k : Int) ⟨by omega, by omega⟩) ?_))) (fun h => by omega)) (fun h => by omega))) (fun h => by omega)
    rw [Int.toNat_natCast]
    refine Ev.bind v1 ?_
    rw [show wrap64 (((p.length - 1 - j : Nat) : Int) - 1) = (p.length : Int) - 1 - ((j + 1 : Nat) : Int) by unfold wrap64; omega]
    exact hrec
theorem stSign_ev (p : List Int) (hl : p.length ≤ 9) (hb : boundB p 1000000000) (n : Int) (hn : -16777216 ≤ n ∧ n ≤ 16777216) (k : Nat) (hk : k ≤ 24) : Ev (fun z => spec_stSign.f z p n (k : Int)) (sgnI (hor p n k p.length)) := by
  have hw : niceW [1] := .inl (by intro x hx; rw [List.mem_singleton.1 hx]; exact ⟨by omega, by omega⟩)
  have h := stSign_l0 p hl hb n hn k hk p.length 0 [] [1] (by omega) (by omega) (.inl (fun x hx => by cases hx)) hw (by simp) (by simp) (by simp [wl, valW, hor]) (by simp [wl, valW, dig, rd])
  unfold spec_stSign.f
  rw [show wrap64 ((p.length : Int) - 1) = (p.length : Int) - 1 - ((0 : Nat) : Int) by unfold wrap64; omega]
  exact h
theorem rdL1_at (xs : List (List Int)) (j : Nat) (h : j < xs.length) : rd_L1 xs (j : Int) = xs[j] := by simp [rd_L1, h]
/-- Lists that may be given. -/
def partB (q : List Int) : Bool := decide (q.length ≤ 9) && q.all fun x => decide ((-1000000000) ≤ x ∧ x ≤ 1000000000)
def listsB (c : List (List Int)) : Bool := (c.all partB) && decide (1 ≤ (c.length : Int) ∧ (c.length : Int) ≤ 9)
theorem any_part (l : List Int) : slices_ContainsFunc_int_int__impl_areLists_1.f l = some (!(l.all fun x => decide ((-1000000000) ≤ x ∧ x ≤ 1000000000))) := by
  induction l with
  | nil => rfl
  | cons x t ih =>
    simp only [slices_ContainsFunc_int_int__impl_areLists_1.f, impl_areLists_1.f, inside_eq, Option.bind_some, List.all_cons]
    by_cases h : (-1000000000) ≤ x ∧ x ≤ 1000000000
    · rw [decide_eq_true h, if_neg (by decide), ih]; rfl
    · rw [decide_eq_false h, if_pos (by decide)]; rfl
theorem part_long (q : List Int) (h : ¬ q.length ≤ 9) : partB q = false := by unfold partB; rw [decide_eq_false h]; rfl
theorem part_short (q : List Int) (h : q.length ≤ 9) : partB q = q.all fun x => decide ((-1000000000) ≤ x ∧ x ≤ 1000000000) := by unfold partB; rw [decide_eq_true h]; rfl
theorem all_dropL (c : List (List Int)) (i : Nat) (h : i < c.length) : (c.drop i).all partB = (partB c[i] && (c.drop (i + 1)).all partB) := by
  rw [List.drop_eq_getElem_cons h, List.all_cons]
theorem lists_loop (c : List (List Int)) (hc : c.length ≤ 1000000) (n : Nat) : ∀ i : Nat, i ≤ c.length → c.length - i = n →
    Ev (fun k => spec_stLists.l0 k c c (c.length : Int) (i : Int)) ((c.drop i).all partB && decide (1 ≤ (c.length : Int) ∧ (c.length : Int) ≤ 9)) ∧
    Ev (fun k => impl_areLists.l0 k c c (c.length : Int) (i : Int)) ((c.drop i).all partB && decide (1 ≤ (c.length : Int) ∧ (c.length : Int) ≤ 9)) := by
  induction n with
  | zero =>
    intro i hi hn
    rw [List.drop_eq_nil_of_le (by omega), List.all_nil, Bool.true_and]
    refine ⟨?_, ?_⟩
    · refine Ev.step (fun z => rfl) ?_
      simp only [spec_stLists.l0]
      exact Ev_if (fun h => by omega) (fun _ => Ev_bindS (l1In_eq _ _ _) (Ev.now _))
    · refine Ev.step (fun z => rfl) ?_
      simp only [impl_areLists.l0]
      exact Ev_if (fun h => by omega) (fun _ => Ev_bindS (inside_eq _ _ _) (Ev.now _))
  | succ n ih =>
    intro i hi hn
    have hlt : i < c.length := by omega
    obtain ⟨j1, j2⟩ := ih (i + 1) (by omega) (by omega)
    obtain ⟨q, hq⟩ : ∃ q, c[i] = q := ⟨_, rfl⟩
    have e1 : rd_L1 c (i : Int) = q := by rw [rdL1_at c i hlt, hq]
    have e2 := all_dropL c i hlt
    rw [hq] at e2
    rw [e2]
    refine ⟨?_, ?_⟩
    · refine Ev.step (fun z => rfl) ?_
      simp only [spec_stLists.l0]
      rw [e1, wrap_next i (by omega)]
      refine Ev_if (fun _ => Ev_if (fun _ => Ev_if (fun _ => Ev_if (fun hx => ?_) (fun hx => ?_)) (fun h => by omega)) (fun h => by omega)) (fun h => by omega)
      · rw [part_long q (by omega)]; exact Ev.now _
      · have h9 : q.length ≤ 9 := by omega
        rw [part_short q h9]
        refine Ev.bind (show Ev (fun k => spec_l1All.f k q (-1000000000) 1000000000) (q.all fun x => decide ((-1000000000) ≤ x ∧ x ≤ 1000000000)) from ⟨q.length + 1, fun k hk => l1All_eq q _ _ (by omega) k (by omega)⟩) ?_
        cases q.all fun x => decide ((-1000000000) ≤ x ∧ x ≤ 1000000000) with
        | true => exact Ev_if (fun _ => j1) (fun h => absurd rfl h)
        | false => exact Ev_if (fun h => by cases h) (fun _ => Ev.now _)
    · refine Ev.step (fun z => rfl) ?_
      simp only [impl_areLists.l0]
      rw [e1, wrap_next i (by omega)]
      refine Ev_if (fun _ => Ev_if (fun _ => Ev_if (fun _ => Ev_if (fun hx => ?_) (fun hx => ?_)) (fun h => by omega)) (fun h => by omega)) (fun h => by omega)
      · rw [part_long q (by omega)]; exact Ev.now _
      · have h9 : q.length ≤ 9 := by omega
        rw [part_short q h9]
        refine Ev_bindS (any_part q) ?_
        cases q.all fun x => decide ((-1000000000) ≤ x ∧ x ≤ 1000000000) with
        | true => exact Ev_if (fun h => by cases h) (fun _ => j2)
        | false => exact Ev_if (fun _ => Ev.now _) (fun h => absurd rfl h)
theorem stLists_ev (c : List (List Int)) (hc : c.length ≤ 1000000) : Ev (fun k => spec_stLists.f k c) (listsB c) := (lists_loop c hc c.length 0 (by omega) (by omega)).1
theorem areLists_ev (c : List (List Int)) (hc : c.length ≤ 1000000) : Ev (fun k => impl_areLists.f k c) (listsB c) := (lists_loop c hc c.length 0 (by omega) (by omega)).2
theorem lists_part (c : List (List Int)) (h : listsB c = true) : (∀ q ∈ c, (∀ x ∈ q, (-1000000000 : Int) ≤ x ∧ x ≤ 1000000000) ∧ q.length ≤ 9) ∧ 1 ≤ c.length ∧ c.length ≤ 9 := by
  unfold listsB partB at h
  simp only [Bool.and_eq_true, List.all_eq_true, decide_eq_true_eq] at h
  refine ⟨fun q hq => ⟨(h.1 q hq).2, (h.1 q hq).1⟩, by omega, by omega⟩
theorem signsL_loop (c : List (List Int)) (hc : c.length ≤ 1000000) (hp : ∀ q ∈ c, boundB q 1000000000 ∧ q.length ≤ 9) (n : Int) (hn : -16777216 ≤ n ∧ n ≤ 16777216) (k : Nat) (hk : k ≤ 24) (d : Nat) : ∀ i : Nat, i ≤ c.length → c.length - i = d →
    Ev (fun z => spec_stSigns.l0 z ((c.take i).map fun q => sgnI (hor q n k q.length)) c (c.length : Int) (i : Int) n (k : Int)) (c.map fun q => sgnI (hor q n k q.length)) ∧
    Ev (fun z => impl_signsOfChain.l0 z ((c.take i).map fun q => sgnI (hor q n k q.length)) c (c.length : Int) (i : Int) n (k : Int)) (c.map fun q => sgnI (hor q n k q.length)) := by
  induction d with
  | zero =>
    intro i hi hd
    have e : c.take i = c := List.take_of_length_le (by omega)
    rw [e]
    refine ⟨?_, ?_⟩
    · refine Ev.step (fun z => rfl) ?_
      simp only [spec_stSigns.l0]
      exact Ev_if (fun h => by omega) (fun _ => Ev.now _)
    · refine Ev.step (fun z => rfl) ?_
      simp only [impl_signsOfChain.l0]
      exact Ev_if (fun h => by omega) (fun _ => Ev.now _)
  | succ d ih =>
    intro i hi hd
    have hlt : i < c.length := by omega
    obtain ⟨j1, j2⟩ := ih (i + 1) (by omega) (by omega)
    obtain ⟨q, hq⟩ : ∃ q, c[i] = q := ⟨_, rfl⟩
    obtain ⟨q0, q2⟩ := hp q (by rw [← hq]; exact List.getElem_mem hlt)
    have e1 : rd_L1 c (i : Int) = q := by rw [rdL1_at c i hlt, hq]
    have e2 : (c.take (i + 1)).map (fun q => sgnI (hor q n k q.length)) = (c.take i).map (fun q => sgnI (hor q n k q.length)) ++ [sgnI (hor q n k q.length)] := by rw [List.take_succ_eq_append_getElem hlt, hq]; simp
    have hlen : ((c.take i).map (fun q => sgnI (hor q n k q.length))).length < 17592186044416 := by simp; omega
    rw [e2] at j1 j2
    refine ⟨?_, ?_⟩
    · refine Ev.step (fun z => rfl) ?_
      simp only [spec_stSigns.l0]
      rw [e1, wrap_next i (by omega)]
      exact Ev_if (fun _ => Ev_if (fun _ => Ev_if (fun _ => Ev.bind (stSign_ev q q2 q0 n hn k hk) (Ev_if (fun _ => j1) (fun h => absurd hlen h))) (fun h => by omega)) (fun h => by omega)) (fun h => by omega)
    · refine Ev.step (fun z => rfl) ?_
      simp only [impl_signsOfChain.l0]
      rw [e1, wrap_next i (by omega)]
      exact Ev_if (fun _ => Ev_if (fun _ => Ev_if (fun _ => Ev.bind (signAt_ev q q2 q0 n ⟨by omega, by omega⟩ k hk) (Ev_if (fun _ => j2) (fun h => absurd hlen h))) (fun h => by omega)) (fun h => by omega)) (fun h => by omega)
theorem Pure_holds : Pure := by
  intro c n k hc
  have key : ∃ r1 r2, Ev (fun z => spec_SignsOfChain.f z c n k) (r1, r2) ∧ Ev (fun z => impl_SignsOfChain.f z c n k) (r1, r2) ∧ r1.length ≤ 1000000 := by
    cases hg : listsB c with
    | false =>
      refine ⟨[], false, ?_, ?_, by simp⟩
      · refine Ev.bind (stLists_ev c (by omega)) ?_; rw [hg]; exact Ev_if (fun h => by cases h) (fun _ => Ev.now _)
      · refine Ev.bind (areLists_ev c (by omega)) ?_; rw [hg]; exact Ev_if (fun h => by cases h) (fun _ => Ev.now _)
    | true =>
      cases hd : markB n k with
      | false =>
        refine ⟨[], false, ?_, ?_, by simp⟩
        · refine Ev.bind (stLists_ev c (by omega)) ?_; rw [hg]
          refine Ev_if (fun _ => Ev_bindS (stMark_eq n k) ?_) (fun h => absurd rfl h); rw [hd]
          exact Ev_if (fun h => by cases h) (fun _ => Ev.now _)
        · refine Ev.bind (areLists_ev c (by omega)) ?_; rw [hg]
          refine Ev_if (fun _ => Ev_bindS (isMark_eq n k) ?_) (fun h => absurd rfl h); rw [hd]
          exact Ev_if (fun h => by cases h) (fun _ => Ev.now _)
      | true =>
        obtain ⟨⟨k0, k1⟩, n0, n1⟩ := markB_range n k hd
        obtain ⟨kn, rfl⟩ := Int.eq_ofNat_of_zero_le k0
        obtain ⟨hp, _, _⟩ := lists_part c hg
        obtain ⟨g1, g2⟩ := signsL_loop c (by omega) hp n ⟨n0, n1⟩ kn (by omega) c.length 0 (by omega) (by omega)
        refine ⟨c.map fun q => sgnI (hor q n kn q.length), true, ?_, ?_, ?_⟩
        · refine Ev.bind (stLists_ev c (by omega)) ?_; rw [hg]
          refine Ev_if (fun _ => Ev_bindS (stMark_eq n kn) ?_) (fun h => absurd rfl h); rw [hd]
          exact Ev_if (fun _ => Ev.bind g1 (Ev.now _)) (fun h => absurd rfl h)
        · refine Ev.bind (areLists_ev c (by omega)) ?_; rw [hg]
          refine Ev_if (fun _ => Ev_bindS (isMark_eq n kn) ?_) (fun h => absurd rfl h); rw [hd]
          exact Ev_if (fun _ => Ev.bind g2 (Ev.now _)) (fun h => absurd rfl h)
        · simp; omega
  obtain ⟨r1, r2, h1, h2, h3⟩ := key
  obtain ⟨ks, ki, h, h'⟩ := Ev_both h1 h2
  exact ⟨ks, ki, r1, r2, h, h', h3⟩
end Go.Proofs.Ytcgcgifndkeeoaa.QSoC
