import Derived.Test.YtcgcgifndkeeoaaZHasRootBetweenSq
import Derived.Test.YtcgcgifndkeeoaaZHasRootBetweenQStx2
import Derived.Test.YtcgcgifndkeeoaaZHasRootBetweenQStx10
namespace Go.Proofs.Ytcgcgifndkeeoaa.QSt
open Go.RowKit Go.Proofs.YtcgcgifndkeeoaaW.PrintWords Go.Proofs.YtcgcgifndkeeoaaW.PrintLast Go.Proofs.YtcgcgifndkeeoaaW.PrintMore
attribute [local go_sem] max2_int min2_int max_two min_two max_three min_three max_four min_four
set_option linter.unusedVariables false
set_option linter.unusedSimpArgs false
def cmp_Or_int.l0 : Nat → Int → List Int → Int → Int → Option (Int)
 | 0, _, _, _, _ => none
 | k + 1, x3, x6, x7, x8 => if x8 < x7 then (if 0 ≤ x8 then (if x8 < (x6.length : Int) then (if (rd x6 x8) = x3 then (cmp_Or_int.l0 k x3 x6 x7 (wrap64 (x8 + 1))) else (some (rd x6 x8))) else (none)) else (none)) else (some x3)
def cmp_Or_int.f (k : Nat) (l0 : List Int) : Option (Int) := cmp_Or_int.l0 k 0 l0 (l0.length : Int) 0
set_option maxHeartbeats 8000000 in
set_option maxRecDepth 100000 in
theorem cmp_Or_int.calls (k : Nat) (A0 : Option Addr) (c0 : Nat) (l0 : List Int) (r : Int) (w : World) (hr0 : Kd.C (Kd.int .i64) w A0 l0.length l0) (hc0 : l0.length ≤ c0) (h : cmp_Or_int.f k l0 = some r) :
 Calls Try.prog 134 #[.slice A0 l0.length c0] w fun e w' => e = .returned (.int .i64 r) ∧ Drawn0 w w' := by
 have HR0 := Aside0.mk hr0
 have HC0 := Aside0.mk hc0
 clear hr0 hc0
 have H : (cmp_Or_int.l0 k 0 l0 (l0.length : Int) 0) = some r := h
 clear h
 have H' := Aside0.mk H
 clear H
 go_enter Try.func134, Try.ntmps134
 go_wp2
 go_loopg [8] k (fun kq v8 w' => ∃ (x8_1 : Int), v8 = .int .i64 x8_1 ∧ Aside0 (cmp_Or_int.l0 kq 0 l0 (l0.length : Int) x8_1 = some r) ∧ Aside0 (kq ≤ k) ∧ Drawn0 w w')
 case atStart => exact ⟨(0), sr, H', ⟨Nat.le_refl _⟩, dz⟩
 case round =>
  clear H'
  try clear c1
  obtain ⟨x8_1, rfl, HA, HK1, ⟨m1, rfl⟩⟩ := hrel
  cases gk with
  | zero => exact absurd HA.out (by simp [cmp_Or_int.l0])
  | succ k1 =>
   have H := HA.out
   clear HA
   simp only [cmp_Or_int.l0] at H
   by_cases c2 : x8_1 < (l0.length : Int)
   ·rw [if_pos c2] at H
    have c2b0 : decide (x8_1 < (l0.length : Int)) = true := decide_eq_true c2
    clear c2
    by_cases c3 : 0 ≤ x8_1
    ·rw [if_pos c3] at H
     have c3b0 : decide (0 ≤ x8_1) = true := decide_eq_true c3
     clear c3
     by_cases c4 : x8_1 < (l0.length : Int)
     ·rw [if_pos c4] at H
      have c4b0 : decide (x8_1 < (l0.length : Int)) = true := decide_eq_true c4
      clear c4
      by_cases c5 : (rd l0 x8_1) = 0
      ·rw [if_pos c5] at H
       have c5b0 : ((rd l0 x8_1) == 0) = true := beq_iff_eq.mpr c5
       have c5b1 : ((rd l0 x8_1) != 0) = false := bne_eq_false_iff_eq.mpr c5
       clear c5
       have H' := Aside0.mk H
       clear H
       have p366 : 0 ≤ (x8_1 : Int) := of_decide_eq_true am
       have q366 : x8_1 < (l0.length : Int) := of_decide_eq_true am
       obtain ⟨ad366, e366, hx366_0⟩ := Kd.at_int HR0.out x8_1 p366 q366
       cases e366
       replace p366 := eq_true p366
       replace q366 := eq_true q366
       go_wp2
       go_roundg k1
       case measure => have := HK1.out; omega
       case rel => exact ⟨(wrap64 (x8_1 + 1)), sr, H', ⟨by have := HK1.out; omega⟩, dz⟩
      ·rw [if_neg c5] at H
       have c5b0 : ((rd l0 x8_1) == 0) = false := beq_eq_false_iff_ne.mpr c5
       have c5b1 : ((rd l0 x8_1) != 0) = true := bne_iff_ne.mpr c5
       obtain rfl := Option.some.inj H
       have p366 : 0 ≤ (x8_1 : Int) := of_decide_eq_true am
       have q366 : x8_1 < (l0.length : Int) := of_decide_eq_true am
       obtain ⟨ad366, e366, hx366_0⟩ := Kd.at_int HR0.out x8_1 p366 q366
       cases e366
       replace p366 := eq_true p366
       replace q366 := eq_true q366
       go_wp2
       go_ret
       exact ⟨sr, dz⟩
     ·rw [if_neg c4] at H
      exact absurd H (by simp)
    ·rw [if_neg c3] at H
     exact absurd H (by simp)
   ·rw [if_neg c2] at H
    have c2b0 : decide (x8_1 < (l0.length : Int)) = false := decide_eq_false c2
    clear c2
    obtain rfl := Option.some.inj H
    go_wp2
    go_ret
    exact ⟨sr, dz⟩
def cmp_isNaN_uint64.f (a0 : Int) : Option (Bool) := some (a0 != a0)
set_option maxHeartbeats 8000000 in
set_option maxRecDepth 100000 in
theorem cmp_isNaN_uint64.calls (a0 : Int) (r : Bool) (w : World) (h : cmp_isNaN_uint64.f a0 = some r) :
 Calls Try.prog 138 #[.int .u64 a0] w fun e w' => e = .returned (.bool r) ∧ Drawn0 w w' := by
 have H : (some (a0 != a0)) = some r := h
 clear h
 obtain rfl := Option.some.inj H
 go_enter Try.func138, Try.ntmps138
 go_wp2
 go_ret
 exact ⟨sr, dz⟩
def cmp_Compare_uint64.f (a0 : Int) (a1 : Int) : Option (Int) := (cmp_isNaN_uint64.f a0).bind fun t367 => ((cmp_isNaN_uint64.f a1).bind fun t368 => (if t367 = true then (if t368 = true then (some 0) else (some (-1))) else (if t368 = true then (some 1) else (if a0 < a1 then (some (-1)) else (if a0 > a1 then (some 1) else (some 0))))))
set_option maxHeartbeats 8000000 in
set_option maxRecDepth 100000 in
theorem cmp_Compare_uint64.calls (a0 : Int) (a1 : Int) (r : Int) (w : World) (h : cmp_Compare_uint64.f a0 a1 = some r) :
 Calls Try.prog 135 #[.int .u64 a0, .int .u64 a1] w fun e w' => e = .returned (.int .i64 r) ∧ Drawn0 w w' := by
 have H : ((cmp_isNaN_uint64.f a0).bind fun t367 => ((cmp_isNaN_uint64.f a1).bind fun t368 => (if t367 = true then (if t368 = true then (some 0) else (some (-1))) else (if t368 = true then (some 1) else (if a0 < a1 then (some (-1)) else (if a0 > a1 then (some 1) else (some 0))))))) = some r := h
 clear h
 obtain ⟨t367, A3, H⟩ := bi H
 obtain ⟨t368, A4, H⟩ := bi H
 by_cases c5 : t367 = true
 ·subst c5
  rw [if_pos rfl] at H
  by_cases c6 : t368 = true
  ·subst c6
   rw [if_pos rfl] at H
   obtain rfl := Option.some.inj H
   go_enter Try.func135, Try.ntmps135
   go_wp2_with (first | ((with_reducible refine gate_callee (f := 138) rfl ?_); refine goesL_ (some 8) rfl rfl Try.func138 kf rfl #[.int .u64 a0] rfl sm ?_; (with_reducible refine (cmp_isNaN_uint64.calls a0 true _ A3.out).mono ?_); rintro e w' ⟨rfl, ⟨nd, rfl⟩⟩; refine ⟨_, rfl, ?_⟩) | ((with_reducible refine gate_callee (f := 138) rfl ?_); refine goesL_ (some 10) rfl rfl Try.func138 kf rfl #[.int .u64 a1] rfl sm ?_; (with_reducible refine (cmp_isNaN_uint64.calls a1 true _ A4.out).mono ?_); rintro e w' ⟨rfl, ⟨nd, rfl⟩⟩; refine ⟨_, rfl, ?_⟩))
   go_ret
   exact ⟨sr, dz⟩
  ·replace c6 := Bool.eq_false_iff.mpr c6
   subst c6
   rw [if_neg (show ¬ (false = true) by decide)] at H
   obtain rfl := Option.some.inj H
   go_enter Try.func135, Try.ntmps135
   go_wp2_with (first | ((with_reducible refine gate_callee (f := 138) rfl ?_); refine goesL_ (some 8) rfl rfl Try.func138 kf rfl #[.int .u64 a0] rfl sm ?_; (with_reducible refine (cmp_isNaN_uint64.calls a0 true _ A3.out).mono ?_); rintro e w' ⟨rfl, ⟨nd, rfl⟩⟩; refine ⟨_, rfl, ?_⟩) | ((with_reducible refine gate_callee (f := 138) rfl ?_); refine goesL_ (some 10) rfl rfl Try.func138 kf rfl #[.int .u64 a1] rfl sm ?_; (with_reducible refine (cmp_isNaN_uint64.calls a1 false _ A4.out).mono ?_); rintro e w' ⟨rfl, ⟨nd, rfl⟩⟩; refine ⟨_, rfl, ?_⟩))
   go_ret
   exact ⟨sr, dz⟩
 ·replace c5 := Bool.eq_false_iff.mpr c5
  subst c5
  rw [if_neg (show ¬ (false = true) by decide)] at H
  by_cases c7 : t368 = true
  ·subst c7
   rw [if_pos rfl] at H
   obtain rfl := Option.some.inj H
   go_enter Try.func135, Try.ntmps135
   go_wp2_with (first | ((with_reducible refine gate_callee (f := 138) rfl ?_); refine goesL_ (some 8) rfl rfl Try.func138 kf rfl #[.int .u64 a0] rfl sm ?_; (with_reducible refine (cmp_isNaN_uint64.calls a0 false _ A3.out).mono ?_); rintro e w' ⟨rfl, ⟨nd, rfl⟩⟩; refine ⟨_, rfl, ?_⟩) | ((with_reducible refine gate_callee (f := 138) rfl ?_); refine goesL_ (some 10) rfl rfl Try.func138 kf rfl #[.int .u64 a1] rfl sm ?_; (with_reducible refine (cmp_isNaN_uint64.calls a1 true _ A4.out).mono ?_); rintro e w' ⟨rfl, ⟨nd, rfl⟩⟩; refine ⟨_, rfl, ?_⟩))
   go_ret
   exact ⟨sr, dz⟩
  ·replace c7 := Bool.eq_false_iff.mpr c7
   subst c7
   rw [if_neg (show ¬ (false = true) by decide)] at H
   by_cases c8 : a0 < a1
   ·rw [if_pos c8] at H
    have c8b0 : decide (a0 < a1) = true := decide_eq_true c8
    clear c8
    obtain rfl := Option.some.inj H
    go_enter Try.func135, Try.ntmps135
    go_wp2_with (first | ((with_reducible refine gate_callee (f := 138) rfl ?_); refine goesL_ (some 8) rfl rfl Try.func138 kf rfl #[.int .u64 a0] rfl sm ?_; (with_reducible refine (cmp_isNaN_uint64.calls a0 false _ A3.out).mono ?_); rintro e w' ⟨rfl, ⟨nd, rfl⟩⟩; refine ⟨_, rfl, ?_⟩) | ((with_reducible refine gate_callee (f := 138) rfl ?_); refine goesL_ (some 10) rfl rfl Try.func138 kf rfl #[.int .u64 a1] rfl sm ?_; (with_reducible refine (cmp_isNaN_uint64.calls a1 false _ A4.out).mono ?_); rintro e w' ⟨rfl, ⟨nd, rfl⟩⟩; refine ⟨_, rfl, ?_⟩))
    go_ret
    exact ⟨sr, dz⟩
   ·rw [if_neg c8] at H
    have c8b0 : decide (a0 < a1) = false := decide_eq_false c8
    clear c8
    by_cases c9 : a0 > a1
    ·rw [if_pos c9] at H
     have c9b0 : decide (a1 < a0) = true := decide_eq_true c9
     clear c9
     obtain rfl := Option.some.inj H
     go_enter Try.func135, Try.ntmps135
     go_wp2_with (first | ((with_reducible refine gate_callee (f := 138) rfl ?_); refine goesL_ (some 8) rfl rfl Try.func138 kf rfl #[.int .u64 a0] rfl sm ?_; (with_reducible refine (cmp_isNaN_uint64.calls a0 false _ A3.out).mono ?_); rintro e w' ⟨rfl, ⟨nd, rfl⟩⟩; refine ⟨_, rfl, ?_⟩) | ((with_reducible refine gate_callee (f := 138) rfl ?_); refine goesL_ (some 10) rfl rfl Try.func138 kf rfl #[.int .u64 a1] rfl sm ?_; (with_reducible refine (cmp_isNaN_uint64.calls a1 false _ A4.out).mono ?_); rintro e w' ⟨rfl, ⟨nd, rfl⟩⟩; refine ⟨_, rfl, ?_⟩))
     go_ret
     exact ⟨sr, dz⟩
    ·rw [if_neg c9] at H
     have c9b0 : decide (a1 < a0) = false := decide_eq_false c9
     clear c9
     obtain rfl := Option.some.inj H
     go_enter Try.func135, Try.ntmps135
     go_wp2_with (first | ((with_reducible refine gate_callee (f := 138) rfl ?_); refine goesL_ (some 8) rfl rfl Try.func138 kf rfl #[.int .u64 a0] rfl sm ?_; (with_reducible refine (cmp_isNaN_uint64.calls a0 false _ A3.out).mono ?_); rintro e w' ⟨rfl, ⟨nd, rfl⟩⟩; refine ⟨_, rfl, ?_⟩) | ((with_reducible refine gate_callee (f := 138) rfl ?_); refine goesL_ (some 10) rfl rfl Try.func138 kf rfl #[.int .u64 a1] rfl sm ?_; (with_reducible refine (cmp_isNaN_uint64.calls a1 false _ A4.out).mono ?_); rintro e w' ⟨rfl, ⟨nd, rfl⟩⟩; refine ⟨_, rfl, ?_⟩))
     go_ret
     exact ⟨sr, dz⟩
def impl_compareSizes.f (k : Nat) (a0_0 : Bool) (a0_1 : Int) (a0_2 : Int) (a1_0 : Bool) (a1_1 : Int) (a1_2 : Int) : Option (Int) := (cmp_Compare_uint64.f a0_1 a1_1).bind fun t371 => ((cmp_Compare_uint64.f a0_2 a1_2).bind fun t372 => ((cmp_Or_int.f k (([t371, t372] : List Int))).bind fun t376 => (some t376)))
def impl_compareSizes.T1 : Bool × List (List Nat × List Nat) := (true, [([], []), ([0], [0]), ([], []), ([2], [2]), ([1, 3], [1, 3]), ([], []), ([5], [5]), ([], []), ([7], [7]), ([6, 8, 4], [6, 8]), ([4, 9], [4, 9]), ([10, 9], [10]), ([11, 11, 0, 1, 2, 3, 4, 5, 6, 7, 8, 9, 10, 11], [11])])
def impl_compareSizes.B1 : List Nat := [0, 1, 0, 4, 15, 0, 32, 0, 128, 511, 1023, 2047, 4095]
theorem impl_compareSizes.tab1 : rtab .any (opsOf Try.f128 1) = impl_compareSizes.T1 := by kernel_rfl
theorem impl_compareSizes.bits1 : waitsOk impl_compareSizes.T1.2 impl_compareSizes.B1 = true := by kernel_rfl
set_option maxHeartbeats 8000000 in
set_option maxRecDepth 100000 in
theorem impl_compareSizes.calls (k : Nat) (a0_0 : Bool) (a0_1 : Int) (a0_2 : Int) (a1_0 : Bool) (a1_1 : Int) (a1_2 : Int) (r : Int) (w : World) (h : impl_compareSizes.f k a0_0 a0_1 a0_2 a1_0 a1_1 a1_2 = some r) :
 Calls Try.prog 128 #[.agg #[.bool a0_0, .int .u64 a0_1, .int .u64 a0_2], .agg #[.bool a1_0, .int .u64 a1_1, .int .u64 a1_2]] w fun e w' => e = .returned (.int .i64 r) ∧ Below w.heap.size w w' := by
 have hu83 := Try.underlying83
 have HB := Aside0.mk (Below.refl w.heap.size w)
 have H : ((cmp_Compare_uint64.f a0_1 a1_1).bind fun t371 => ((cmp_Compare_uint64.f a0_2 a1_2).bind fun t372 => ((cmp_Or_int.f k (([t371, t372] : List Int))).bind fun t376 => (some t376)))) = some r := h
 clear h
 obtain ⟨t371, A3, H⟩ := bi H
 obtain ⟨t372, A4, H⟩ := bi H
 obtain ⟨y373, hy373⟩ : ∃ y_ : List Int, y_ = (([t371, t372] : List Int)) := ⟨_, rfl⟩
 replace H : ((cmp_Or_int.f k y373).bind fun t376 => (some t376)) = some r := by first | (rw [hy373]; with_reducible exact H) | (have H2_ := (Option.bind_some _ _).symm.trans H; rw [hy373]; with_reducible exact H2_) | (have H2_ := (Option.bind_some _ _).symm.trans H; with_reducible exact H2_) | with_reducible exact H | (rw [hy373]; exact H) | exact H
 have Ny373 := Aside0.mk hy373
 clear hy373
 obtain ⟨t376, A5, H⟩ := bi H
 obtain rfl := Option.some.inj H
 go_enter Try.func128, Try.ntmps128
 try go_wp2_with (first | ((with_reducible refine gate_dst (N := 2) rfl ?_); refine bv (N := 2) (cs := #[.bool a0_0, .int .u64 a0_1, .int .u64 a0_2]) (t := 83) ?_; intro gb369 hg w6 hbox hb; have n0_ := Aside0.mk (below_step bz hb); have n1_ := Aside0.mk (hbox); have n2_ := (gz hg : Aside0 (w.heap.size ≤ _)); have n3_ := (gz hg : Aside0 (w.heap.size ≤ _)); clear HB; have HB := n0_; have BK369 := n1_; have GW369 := n2_; have GE369 := n3_; clear n0_ n1_ n2_ n3_; clear hb hbox hg) | ((with_reducible refine gate_dst (N := 3) rfl ?_); refine bv (N := 3) (cs := #[.bool a1_0, .int .u64 a1_1, .int .u64 a1_2]) (t := 83) ?_; intro gb370 hg w7 hbox hb; have n0_ := bb BK369 hb; have n1_ := Aside0.mk (below_step (bz1 GE369) hb); have n2_ := Aside0.mk (hbox); have n3_ := Aside0.mk ((by rw [hg]; exact (below_size (bz1 GE369)) : w.heap.size ≤ gb370)); have n4_ := Aside0.mk ((by rw [hg]; exact (below_size (bz1 GE369)) : w.heap.size ≤ gb370)); have n5_ := Aside0.mk ((by rw [hg]; exact Nat.ne_of_lt (blk_lt (g := gb369) (o := .cells #[.bool a0_0, .int .u64 a0_1, .int .u64 a0_2] 83 (0, 0)) (bk BK369)) : gb369 ≠ gb370)); have n6_ := Aside0.mk ((by rw [hg]; exact Nat.ne_of_gt (blk_lt (g := gb369) (o := .cells #[.bool a0_0, .int .u64 a0_1, .int .u64 a0_2] 83 (0, 0)) (bk BK369)) : gb370 ≠ gb369)); clear BK369; clear HB; have BK369 := n0_; have HB := n1_; have BK370 := n2_; have GW370 := n3_; have GE370 := n4_; have NB369_370 := n5_; have NB370_369 := n6_; clear n0_ n1_ n2_ n3_ n4_ n5_ n6_; clear hb hbox hg))
 have n0_ := Aside0.mk (blk_drew BK369.out)
 have n1_ := Aside0.mk (blk_drew BK370.out)
 have n2_ := Aside0.mk (below_drew1 HB.out)
 clear BK369 BK370 HB
 have BK369 := n0_
 have BK370 := n1_
 have HB := n2_
 clear n0_ n1_ n2_
 refine start_ (n := 13) (S := fun w' => w'.cell? ⟨gb369, 0, none⟩ = some (.bool a0_0) ∧ w'.cell? ⟨gb369, 1, none⟩ = some (.int .u64 a0_1) ∧ w'.cell? ⟨gb369, 2, none⟩ = some (.int .u64 a0_2) ∧ w'.cell? ⟨gb370, 0, none⟩ = some (.bool a1_0) ∧ w'.cell? ⟨gb370, 1, none⟩ = some (.int .u64 a1_1) ∧ w'.cell? ⟨gb370, 2, none⟩ = some (.int .u64 a1_2)) (ds := []) #[fF, fF, fF, fF, fF, fF, fF, fF, fF, fF, fF, fF, fF] kf rfl rfl ⟨(blk_cell BK369.out 0).trans rfl, (blk_cell BK369.out 1).trans rfl, (blk_cell BK369.out 2).trans rfl, (blk_cell BK370.out 0).trans rfl, (blk_cell BK370.out 1).trans rfl, (blk_cell BK370.out 2).trans rfl⟩ (fun hHeld => ?_); refine with_tabW impl_compareSizes.tab1 impl_compareSizes.bits1 (fun HT_ HW_ => ?_)
 generalize w7.drew = w8 at BK369 BK370 HB hHeld ⊢
 refine pq (i := 0) (N := some 5) #[tT, fF, fF, fF, fF, fF, fF, fF, fF, fF, fF, fF, fF] rfl rfl HT_.out ?_
 refine pq (i := 2) (N := some 7) #[tT, fF, tT, fF, fF, fF, fF, fF, fF, fF, fF, fF, fF] rfl rfl HT_.out ?_
 refine pq (i := 5) (N := some 10) #[tT, fF, tT, fF, fF, tT, fF, fF, fF, fF, fF, fF, fF] rfl rfl HT_.out ?_
 refine pq (i := 7) (N := some 12) #[tT, fF, tT, fF, fF, tT, fF, tT, fF, fF, fF, fF, fF] rfl rfl HT_.out ?_
 refine tq6 (i := 1) (N := some 6) #[tT, tT, tT, fF, fF, tT, fF, tT, fF, fF, fF, fF, fF] rfl rfl HT_.out HW_.out hHeld ?_
 refine tq6 (i := 3) (N := some 8) #[tT, tT, tT, tT, fF, tT, fF, tT, fF, fF, fF, fF, fF] rfl rfl HT_.out HW_.out hHeld ?_
 refine tq6 (i := 6) (N := some 11) #[tT, tT, tT, tT, fF, tT, tT, tT, fF, fF, fF, fF, fF] rfl rfl HT_.out HW_.out hHeld ?_
 refine tq6 (i := 8) (N := some 13) #[tT, tT, tT, tT, fF, tT, tT, tT, tT, fF, fF, fF, fF] rfl rfl HT_.out HW_.out hHeld ?_
 refine one_ (i := 4) (N := some 9) #[tT, tT, tT, tT, tT, tT, tT, tT, tT, fF, fF, fF, fF] rfl rfl (one_of HT_.out kf) (by decide) (fun K hK => ?_)
 refine goes_ Try.func135 kf rfl #[.int .u64 a0_1, .int .u64 a1_1] (by rfl) rfl rfl sm ?_
 with_reducible refine (cmp_Compare_uint64.calls a0_1 a1_1 t371 _ A3.out).mono ?_
 rintro e w' ⟨rfl, ⟨nd, rfl⟩⟩
 refine ⟨_, rfl, ?_⟩
 refine hK.out _ _ ⟨(blk_cell BK369.out 0).trans rfl, (blk_cell BK369.out 1).trans rfl, (blk_cell BK369.out 2).trans rfl, (blk_cell BK370.out 0).trans rfl, (blk_cell BK370.out 1).trans rfl, (blk_cell BK370.out 2).trans rfl⟩ (fun hHeld => ?_)
 clear hK K
 refine norm_ (a' := ?_) ?_ ?_
 rotate_left
 ·show Act.put _ (some 9) _ = _
  simp only [Act.put, List.setIfInBounds_toArray, List.set_cons_zero, List.set_cons_succ, i64_w, i32_w]
  rfl
 refine one_ (i := 9) (N := some 14) #[tT, tT, tT, tT, tT, tT, tT, tT, tT, tT, fF, fF, fF] rfl rfl (one_of HT_.out kf) (by decide) (fun K hK => ?_)
 refine goes_ Try.func135 kf rfl #[.int .u64 a0_2, .int .u64 a1_2] (by rfl) rfl rfl sm ?_
 with_reducible refine (cmp_Compare_uint64.calls a0_2 a1_2 t372 _ A4.out).mono ?_
 rintro e w' ⟨rfl, ⟨nd, rfl⟩⟩
 refine ⟨_, rfl, ?_⟩
 refine hK.out _ _ ⟨(blk_cell BK369.out 0).trans rfl, (blk_cell BK369.out 1).trans rfl, (blk_cell BK369.out 2).trans rfl, (blk_cell BK370.out 0).trans rfl, (blk_cell BK370.out 1).trans rfl, (blk_cell BK370.out 2).trans rfl⟩ (fun hHeld => ?_)
 clear hK K
 refine norm_ (a' := ?_) ?_ ?_
 rotate_left
 ·show Act.put _ (some 14) _ = _
  simp only [Act.put, List.setIfInBounds_toArray, List.set_cons_zero, List.set_cons_succ, i64_w, i32_w]
  rfl
 refine one_ (i := 10) (N := some 15) #[tT, tT, tT, tT, tT, tT, tT, tT, tT, tT, tT, fF, fF] rfl rfl (one_of HT_.out kf) (by decide) (fun K hK => ?_)
 refine Kd.R_lit_step (Kd.int .i64) _ 3 ?hg (N := 15) ?hd (xs := ([t371, t372] : List Int)) (inner := [.int .i64 t371, .int .i64 t372]) (ok := fun _ => True) (okp := fun _ => True) ?hr ?hp (fun _ hk => hk) trivial (Below.refl _ _) (Nat.le_refl _) (by simp) ?_; (case hd => rfl); (case hg => rfl); (case hr => first | (go_simp; done) | (go_simp; rfl)); (case hp => exact (Reps.one (show Kd.M (Kd.int .i64) _ _ _ t371 [.int .i64 t371] from rfl) (Reps.one (show Kd.M (Kd.int .i64) _ _ _ t372 [.int .i64 t372] from rfl) (Reps.none _ _))))
 intro v374 w9 ho10 hb hg_ hnew_
 clear hg_ hnew_
 (first | rw [← Ny373.out] at ho10 | (simp only [Int.reduceToNat] at ho10; rw [← Ny373.out] at ho10))
 have n0_ := Aside0.mk (Kd.R_lower ho10 (below_size (bz2 GE369 GE370)))
 have n1_ := bb BK369 hb
 have n2_ := bb BK370 hb
 have n3_ := Aside0.mk (below_step (bz2 GE369 GE370) hb)
 clear BK369 BK370 HB
 have HO375 := n0_
 have BK369 := n1_
 have BK370 := n2_
 have HB := n3_
 clear n0_ n1_ n2_ n3_ hb ho10
 obtain ⟨Ao11, co11, eo11⟩ := Kd.R_slice HO375.out
 (first | subst eo11 | (injection eo11 with f1_ f2_ f3_; have f4_ := f1_.symm; have f5_ := f3_.symm; clear f1_ f2_ f3_; subst f4_; subst f5_))
 refine hK.out _ _ ⟨(blk_cell BK369.out 0).trans rfl, (blk_cell BK369.out 1).trans rfl, (blk_cell BK369.out 2).trans rfl, (blk_cell BK370.out 0).trans rfl, (blk_cell BK370.out 1).trans rfl, (blk_cell BK370.out 2).trans rfl⟩ (fun hHeld => ?_)
 clear hK K
 refine norm_ (a' := ?_) ?_ ?_
 rotate_left
 ·show Act.put _ (some 15) _ = _
  simp only [Act.put, List.setIfInBounds_toArray, List.set_cons_zero, List.set_cons_succ, i64_w, i32_w]
  rfl
 refine one_ (i := 11) (N := some 16) #[tT, tT, tT, tT, tT, tT, tT, tT, tT, tT, tT, tT, fF] rfl rfl (one_of HT_.out kf) (by decide) (fun K hK => ?_)
 refine goes_ Try.func134 kf rfl #[.slice Ao11 y373.length co11] (by rfl) rfl rfl sm ?_
 with_reducible refine (cmp_Or_int.calls k _ _ y373 t376 _ ?side1 ?side2 A5.out).mono ?_
 (case side1 => exact cr HO375)
 (case side2 => exact (Kd.R_reads' HO375.out).2.1)
 rintro e w' ⟨rfl, ⟨nd, rfl⟩⟩
 refine ⟨_, rfl, ?_⟩
 refine hK.out _ _ ⟨(blk_cell BK369.out 0).trans rfl, (blk_cell BK369.out 1).trans rfl, (blk_cell BK369.out 2).trans rfl, (blk_cell BK370.out 0).trans rfl, (blk_cell BK370.out 1).trans rfl, (blk_cell BK370.out 2).trans rfl⟩ (fun hHeld => ?_)
 clear hK K
 refine norm_ (a' := ?_) ?_ ?_
 rotate_left
 ·show Act.put _ (some 16) _ = _
  simp only [Act.put, List.setIfInBounds_toArray, List.set_cons_zero, List.set_cons_succ, i64_w, i32_w]
  rfl
 refine pq (i := 12) (N := some 4) #[tT, tT, tT, tT, tT, tT, tT, tT, tT, tT, tT, tT, tT] rfl rfl HT_.out ?_
 refine done_ (done_of HT_.out kf) ?_
 try go_wp2
 go_ret
 exact ⟨er, bz2 GE369 GE370⟩
def impl_compareWide.j0 : Nat → Bool → Bool → Int → Int → Bool → Int → Int → Option (Int)
 | 0, _, _, _, _, _, _, _ => none
 | k + 1, x5, x378000, x378001, x378002, x379000, x379001, x379002 => if x5 = true then (some 0) else (if (x378000 != x379000) = true then (if x378000 = true then (some (-1)) else (some 1)) else (if x378000 = true then ((impl_compareSizes.f k x379000 x379001 x379002 x378000 x378001 x378002).bind fun t381 => (some t381)) else ((impl_compareSizes.f k x378000 x378001 x378002 x379000 x379001 x379002).bind fun t382 => (some t382))))
def impl_compareWide.f (k : Nat) (a0_0 : Bool) (a0_1 : Int) (a0_2 : Int) (a1_0 : Bool) (a1_1 : Int) (a1_2 : Int) : Option (Int) := (impl_wide_isZero.f a0_0 a0_1 a0_2).bind fun t379 => (if t379 = true then ((impl_wide_isZero.f a1_0 a1_1 a1_2).bind fun t380 => (impl_compareWide.j0 k t380 a0_0 a0_1 a0_2 a1_0 a1_1 a1_2)) else (impl_compareWide.j0 k false a0_0 a0_1 a0_2 a1_0 a1_1 a1_2))
set_option maxHeartbeats 8000000 in
set_option maxRecDepth 100000 in
theorem impl_compareWide.calls (k : Nat) (a0_0 : Bool) (a0_1 : Int) (a0_2 : Int) (a1_0 : Bool) (a1_1 : Int) (a1_2 : Int) (r : Int) (w : World) (h : impl_compareWide.f k a0_0 a0_1 a0_2 a1_0 a1_1 a1_2 = some r) :
 Calls Try.prog 106 #[.agg #[.bool a0_0, .int .u64 a0_1, .int .u64 a0_2], .agg #[.bool a1_0, .int .u64 a1_1, .int .u64 a1_2]] w fun e w' => e = .returned (.int .i64 r) ∧ Below w.heap.size w w' := by
 have hu83 := Try.underlying83
 have HB := Aside0.mk (Below.refl w.heap.size w)
 have H : ((impl_wide_isZero.f a0_0 a0_1 a0_2).bind fun t379 => (if t379 = true then ((impl_wide_isZero.f a1_0 a1_1 a1_2).bind fun t380 => (impl_compareWide.j0 k t380 a0_0 a0_1 a0_2 a1_0 a1_1 a1_2)) else (impl_compareWide.j0 k false a0_0 a0_1 a0_2 a1_0 a1_1 a1_2))) = some r := h
 clear h
 have HC3 := Aside0.mk H
 clear H
 go_enter Try.func106, Try.ntmps106
 go_upto_region 1 with (first | ((with_reducible refine gate_dst (N := 2) rfl ?_); refine bv (N := 2) (cs := #[.bool a0_0, .int .u64 a0_1, .int .u64 a0_2]) (t := 83) ?_; intro gb377 hg w4 hbox hb; have n0_ := Aside0.mk (below_step bz hb); have n1_ := Aside0.mk (hbox); have n2_ := (gz hg : Aside0 (w.heap.size ≤ _)); have n3_ := (gz hg : Aside0 (w.heap.size ≤ _)); clear HB; have HB := n0_; have BK377 := n1_; have GW377 := n2_; have GE377 := n3_; clear n0_ n1_ n2_ n3_; clear hb hbox hg) | ((with_reducible refine gate_dst (N := 3) rfl ?_); refine bv (N := 3) (cs := #[.bool a1_0, .int .u64 a1_1, .int .u64 a1_2]) (t := 83) ?_; intro gb378 hg w5 hbox hb; have n0_ := bb BK377 hb; have n1_ := Aside0.mk (below_step (bz1 GE377) hb); have n2_ := Aside0.mk (hbox); have n3_ := Aside0.mk ((by rw [hg]; exact (below_size (bz1 GE377)) : w.heap.size ≤ gb378)); have n4_ := Aside0.mk ((by rw [hg]; exact (below_size (bz1 GE377)) : w.heap.size ≤ gb378)); have n5_ := Aside0.mk ((by rw [hg]; exact Nat.ne_of_lt (blk_lt (g := gb377) (o := .cells #[.bool a0_0, .int .u64 a0_1, .int .u64 a0_2] 83 (0, 0)) (bk BK377)) : gb377 ≠ gb378)); have n6_ := Aside0.mk ((by rw [hg]; exact Nat.ne_of_gt (blk_lt (g := gb377) (o := .cells #[.bool a0_0, .int .u64 a0_1, .int .u64 a0_2] 83 (0, 0)) (bk BK377)) : gb378 ≠ gb377)); clear BK377; clear HB; have BK377 := n0_; have HB := n1_; have BK378 := n2_; have GW378 := n3_; have GE378 := n4_; have NB377_378 := n5_; have NB378_377 := n6_; clear n0_ n1_ n2_ n3_ n4_ n5_ n6_; clear hb hbox hg))
 (try simp only [Act.put, List.setIfInBounds_toArray, List.set_cons_zero, List.set_cons_succ])
 go_cut [5] (fun v5 wc => ∃ (kq : Nat) (x5_2 : Bool), v5 = .bool x5_2 ∧ Aside0 (impl_compareWide.j0 kq x5_2 a0_0 a0_1 a0_2 a1_0 a1_1 a1_2 = some r) ∧ Aside0 (kq ≤ k) ∧ Aside0 (wc.heap[gb377]? = some (.cells #[.bool a0_0, .int .u64 a0_1, .int .u64 a0_2] 83 (0, 0))) ∧ Aside0 (wc.heap[gb378]? = some (.cells #[.bool a1_0, .int .u64 a1_1, .int .u64 a1_2] 83 (0, 0))) ∧ Aside0 (Below w.heap.size w wc))
 case first =>
  have H := HC3.out
  clear HC3
  obtain ⟨t379, A6, H⟩ := bi H
  by_cases c7 : t379 = true
  ·subst c7
   rw [if_pos rfl] at H
   obtain ⟨t380, A8, H⟩ := bi H
   have H' := Aside0.mk H
   clear H
   have hnb9 := NB377_378.out
   have hnc9 := NB378_377.out
   have hcz10_0 : w5.cell? ⟨gb377, 0, none⟩ = some (.bool a0_0) := (blk_cell BK377.out 0).trans rfl
   have hcz10_1 : w5.cell? ⟨gb377, 1, none⟩ = some (.int .u64 a0_1) := (blk_cell BK377.out 1).trans rfl
   have hcz10_2 : w5.cell? ⟨gb377, 2, none⟩ = some (.int .u64 a0_2) := (blk_cell BK377.out 2).trans rfl
   have hfz10_0 := blk_frozen BK377.out 0
   have hfz10_1 := blk_frozen BK377.out 1
   have hfz10_2 := blk_frozen BK377.out 2
   go_wp2_with (first | ((with_reducible refine gate_callee (f := 127) rfl ?_); refine goesL_ (some 7) rfl rfl Try.func127 kf rfl #[.agg #[.bool a0_0, .int .u64 a0_1, .int .u64 a0_2]] rfl sm ?_; (with_reducible refine (impl_wide_isZero.calls a0_0 a0_1 a0_2 true _ A6.out).mono ?_); rintro e w11 ⟨rfl, hb⟩; refine ⟨_, rfl, ?_⟩; have n0_ := bb BK377 hb; have n1_ := bb BK378 hb; have n2_ := Aside0.mk (below_step (bz2 GE377 GE378) hb); clear BK377; clear BK378; clear HB; have BK377 := n0_; have BK378 := n1_; have HB := n2_; clear n0_ n1_ n2_; (try clear hb); (try clear hb2); (try clear hk); (try clear hi); have hcz12_0 : w11.cell? ⟨gb378, 0, none⟩ = some (.bool a1_0) := (blk_cell BK378.out 0).trans rfl; have hcz12_1 : w11.cell? ⟨gb378, 1, none⟩ = some (.int .u64 a1_1) := (blk_cell BK378.out 1).trans rfl; have hcz12_2 : w11.cell? ⟨gb378, 2, none⟩ = some (.int .u64 a1_2) := (blk_cell BK378.out 2).trans rfl; have hfz12_0 := blk_frozen BK378.out 0; have hfz12_1 := blk_frozen BK378.out 1; have hfz12_2 := blk_frozen BK378.out 2) | (go_at_call 127; (with_reducible refine (impl_wide_isZero.calls a1_0 a1_1 a1_2 t380 _ A8.out).mono ?_); rintro e w13 ⟨rfl, hb⟩; have n0_ := bb BK377 hb; have n1_ := bb BK378 hb; have n2_ := Aside0.mk (below_step (bz2 GE377 GE378) hb); clear BK377; clear BK378; clear HB; have BK377 := n0_; have BK378 := n1_; have HB := n2_; clear n0_ n1_ n2_; (try clear hb); (try clear hb2); (try clear hk); (try clear hi)))
   go_meet
   case rel => exact ⟨_, (t380), sr, H', ⟨by first | omega | exact Nat.le_refl _⟩, ⟨bk BK377⟩, ⟨bk BK378⟩, ⟨bz2 GE377 GE378⟩⟩
  ·replace c7 := Bool.eq_false_iff.mpr c7
   subst c7
   rw [if_neg (show ¬ (false = true) by decide)] at H
   have H' := Aside0.mk H
   clear H
   have hnb14 := NB377_378.out
   have hnc14 := NB378_377.out
   have hcz15_0 : w5.cell? ⟨gb377, 0, none⟩ = some (.bool a0_0) := (blk_cell BK377.out 0).trans rfl
   have hcz15_1 : w5.cell? ⟨gb377, 1, none⟩ = some (.int .u64 a0_1) := (blk_cell BK377.out 1).trans rfl
   have hcz15_2 : w5.cell? ⟨gb377, 2, none⟩ = some (.int .u64 a0_2) := (blk_cell BK377.out 2).trans rfl
   have hfz15_0 := blk_frozen BK377.out 0
   have hfz15_1 := blk_frozen BK377.out 1
   have hfz15_2 := blk_frozen BK377.out 2
   go_wp2_with (first | ((with_reducible refine gate_callee (f := 127) rfl ?_); refine goesL_ (some 7) rfl rfl Try.func127 kf rfl #[.agg #[.bool a0_0, .int .u64 a0_1, .int .u64 a0_2]] rfl sm ?_; (with_reducible refine (impl_wide_isZero.calls a0_0 a0_1 a0_2 false _ A6.out).mono ?_); rintro e w16 ⟨rfl, hb⟩; refine ⟨_, rfl, ?_⟩; have n0_ := bb BK377 hb; have n1_ := bb BK378 hb; have n2_ := Aside0.mk (below_step (bz2 GE377 GE378) hb); clear BK377; clear BK378; clear HB; have BK377 := n0_; have BK378 := n1_; have HB := n2_; clear n0_ n1_ n2_; (try clear hb); (try clear hb2); (try clear hk); (try clear hi)))
   go_meet
   case rel => exact ⟨_, (false), sr, H', ⟨by first | omega | exact Nat.le_refl _⟩, ⟨bk BK377⟩, ⟨bk BK378⟩, ⟨bz2 GE377 GE378⟩⟩
 case rest =>
  clear HC3
  try clear c1; try clear p2; try clear c7; try clear c9; try clear c10; try clear c12; try clear c14; try clear hcz10_0; try clear hcz10_1; try clear hcz10_2; try clear hcz12_0; try clear hcz12_1; try clear hcz12_2; try clear hcz15_0; try clear hcz15_1; try clear hcz15_2; try clear hfz10_0; try clear hfz10_1; try clear hfz10_2; try clear hfz12_0; try clear hfz12_1; try clear hfz12_2; try clear hfz15_0; try clear hfz15_1; try clear hfz15_2
  obtain ⟨kq, x5_2, rfl, HA, HJ2, BK377, BK378, HB⟩ := hcut
  cases kq with
  | zero => exact absurd HA.out (by simp [impl_compareWide.j0])
  | succ kj2 =>
   have H := HA.out
   clear HA
   simp only [impl_compareWide.j0] at H
   by_cases c17 : x5_2 = true
   ·subst c17
    rw [if_pos rfl] at H
    obtain rfl := Option.some.inj H
    go_wp2
    go_ret
    exact ⟨er, bz2 GE377 GE378⟩
   ·replace c17 := Bool.eq_false_iff.mpr c17
    subst c17
    rw [if_neg (show ¬ (false = true) by decide)] at H
    by_cases c18 : (a0_0 != a1_0) = true
    ·rw [if_pos c18] at H
     have c18b0 : (a0_0 != a1_0) = true := c18
     (try (have c18b1 : decide (a0_0 = a1_0) = false := by simpa using c18))
     (try (have c18b2 : (a0_0 == a1_0) = false := by simpa using c18))
     (try (have c18b3 : ¬ (a0_0 = a1_0) := by simpa using c18))
     clear c18
     by_cases c19 : a0_0 = true
     ·subst c19
      rw [if_pos rfl] at H
      obtain rfl := Option.some.inj H
      have hnb20 := NB377_378.out
      have hnc20 := NB378_377.out
      have hcz21_0 : wc.cell? ⟨gb377, 0, none⟩ = some (.bool true) := (blk_cell BK377.out 0).trans rfl
      have hcz21_1 : wc.cell? ⟨gb377, 1, none⟩ = some (.int .u64 a0_1) := (blk_cell BK377.out 1).trans rfl
      have hcz21_2 : wc.cell? ⟨gb377, 2, none⟩ = some (.int .u64 a0_2) := (blk_cell BK377.out 2).trans rfl
      have hfz21_0 := blk_frozen BK377.out 0
      have hfz21_1 := blk_frozen BK377.out 1
      have hfz21_2 := blk_frozen BK377.out 2
      have hcz22_0 : wc.cell? ⟨gb378, 0, none⟩ = some (.bool a1_0) := (blk_cell BK378.out 0).trans rfl
      have hcz22_1 : wc.cell? ⟨gb378, 1, none⟩ = some (.int .u64 a1_1) := (blk_cell BK378.out 1).trans rfl
      have hcz22_2 : wc.cell? ⟨gb378, 2, none⟩ = some (.int .u64 a1_2) := (blk_cell BK378.out 2).trans rfl
      have hfz22_0 := blk_frozen BK378.out 0
      have hfz22_1 := blk_frozen BK378.out 1
      have hfz22_2 := blk_frozen BK378.out 2
      go_wp2
      go_ret
      exact ⟨er, bz2 GE377 GE378⟩
     ·replace c19 := Bool.eq_false_iff.mpr c19
      subst c19
      rw [if_neg (show ¬ (false = true) by decide)] at H
      obtain rfl := Option.some.inj H
      have hnb23 := NB377_378.out
      have hnc23 := NB378_377.out
      have hcz24_0 : wc.cell? ⟨gb377, 0, none⟩ = some (.bool false) := (blk_cell BK377.out 0).trans rfl
      have hcz24_1 : wc.cell? ⟨gb377, 1, none⟩ = some (.int .u64 a0_1) := (blk_cell BK377.out 1).trans rfl
      have hcz24_2 : wc.cell? ⟨gb377, 2, none⟩ = some (.int .u64 a0_2) := (blk_cell BK377.out 2).trans rfl
      have hfz24_0 := blk_frozen BK377.out 0
      have hfz24_1 := blk_frozen BK377.out 1
      have hfz24_2 := blk_frozen BK377.out 2
      have hcz25_0 : wc.cell? ⟨gb378, 0, none⟩ = some (.bool a1_0) := (blk_cell BK378.out 0).trans rfl
      have hcz25_1 : wc.cell? ⟨gb378, 1, none⟩ = some (.int .u64 a1_1) := (blk_cell BK378.out 1).trans rfl
      have hcz25_2 : wc.cell? ⟨gb378, 2, none⟩ = some (.int .u64 a1_2) := (blk_cell BK378.out 2).trans rfl
      have hfz25_0 := blk_frozen BK378.out 0
      have hfz25_1 := blk_frozen BK378.out 1
      have hfz25_2 := blk_frozen BK378.out 2
      go_wp2
      go_ret
      exact ⟨er, bz2 GE377 GE378⟩
    ·rw [if_neg c18] at H
     have c18b0 : (a0_0 != a1_0) = false := by simpa using c18
     (try (have c18b1 : decide (a0_0 = a1_0) = true := by simpa using c18))
     (try (have c18b2 : (a0_0 == a1_0) = true := by simpa using c18))
     clear c18
     by_cases c26 : a0_0 = true
     ·subst c26
      rw [if_pos rfl] at H
      obtain ⟨t381, A27, H⟩ := bi H
      obtain rfl := Option.some.inj H
      have hnb28 := NB377_378.out
      have hnc28 := NB378_377.out
      have hcz29_0 : wc.cell? ⟨gb377, 0, none⟩ = some (.bool true) := (blk_cell BK377.out 0).trans rfl
      have hcz29_1 : wc.cell? ⟨gb377, 1, none⟩ = some (.int .u64 a0_1) := (blk_cell BK377.out 1).trans rfl
      have hcz29_2 : wc.cell? ⟨gb377, 2, none⟩ = some (.int .u64 a0_2) := (blk_cell BK377.out 2).trans rfl
      have hfz29_0 := blk_frozen BK377.out 0
      have hfz29_1 := blk_frozen BK377.out 1
      have hfz29_2 := blk_frozen BK377.out 2
      have hcz30_0 : wc.cell? ⟨gb378, 0, none⟩ = some (.bool a1_0) := (blk_cell BK378.out 0).trans rfl
      have hcz30_1 : wc.cell? ⟨gb378, 1, none⟩ = some (.int .u64 a1_1) := (blk_cell BK378.out 1).trans rfl
      have hcz30_2 : wc.cell? ⟨gb378, 2, none⟩ = some (.int .u64 a1_2) := (blk_cell BK378.out 2).trans rfl
      have hfz30_0 := blk_frozen BK378.out 0
      have hfz30_1 := blk_frozen BK378.out 1
      have hfz30_2 := blk_frozen BK378.out 2
      go_wp2_with (first | ((with_reducible refine gate_callee (f := 128) rfl ?_); refine goesL_ (some 25) rfl rfl Try.func128 kf rfl #[.agg #[.bool a1_0, .int .u64 a1_1, .int .u64 a1_2], .agg #[.bool true, .int .u64 a0_1, .int .u64 a0_2]] rfl sm ?_; (with_reducible refine (impl_compareSizes.calls kj2 a1_0 a1_1 a1_2 true a0_1 a0_2 t381 _ A27.out).mono ?_); rintro e w31 ⟨rfl, hb⟩; refine ⟨_, rfl, ?_⟩; have n0_ := bb BK377 hb; have n1_ := bb BK378 hb; have n2_ := Aside0.mk (below_step (bz2 GE377 GE378) hb); clear BK377; clear BK378; clear HB; have BK377 := n0_; have BK378 := n1_; have HB := n2_; clear n0_ n1_ n2_; (try clear hb); (try clear hb2); (try clear hk); (try clear hi)))
      go_ret
      exact ⟨er, bz2 GE377 GE378⟩
     ·replace c26 := Bool.eq_false_iff.mpr c26
      subst c26
      rw [if_neg (show ¬ (false = true) by decide)] at H
      obtain ⟨t382, A32, H⟩ := bi H
      obtain rfl := Option.some.inj H
      have hnb33 := NB377_378.out
      have hnc33 := NB378_377.out
      have hcz34_0 : wc.cell? ⟨gb377, 0, none⟩ = some (.bool false) := (blk_cell BK377.out 0).trans rfl
      have hcz34_1 : wc.cell? ⟨gb377, 1, none⟩ = some (.int .u64 a0_1) := (blk_cell BK377.out 1).trans rfl
      have hcz34_2 : wc.cell? ⟨gb377, 2, none⟩ = some (.int .u64 a0_2) := (blk_cell BK377.out 2).trans rfl
      have hfz34_0 := blk_frozen BK377.out 0
      have hfz34_1 := blk_frozen BK377.out 1
      have hfz34_2 := blk_frozen BK377.out 2
      have hcz35_0 : wc.cell? ⟨gb378, 0, none⟩ = some (.bool a1_0) := (blk_cell BK378.out 0).trans rfl
      have hcz35_1 : wc.cell? ⟨gb378, 1, none⟩ = some (.int .u64 a1_1) := (blk_cell BK378.out 1).trans rfl
      have hcz35_2 : wc.cell? ⟨gb378, 2, none⟩ = some (.int .u64 a1_2) := (blk_cell BK378.out 2).trans rfl
      have hfz35_0 := blk_frozen BK378.out 0
      have hfz35_1 := blk_frozen BK378.out 1
      have hfz35_2 := blk_frozen BK378.out 2
      go_wp2_with (first | ((with_reducible refine gate_callee (f := 128) rfl ?_); refine goesL_ (some 28) rfl rfl Try.func128 kf rfl #[.agg #[.bool false, .int .u64 a0_1, .int .u64 a0_2], .agg #[.bool a1_0, .int .u64 a1_1, .int .u64 a1_2]] rfl sm ?_; (with_reducible refine (impl_compareSizes.calls kj2 false a0_1 a0_2 a1_0 a1_1 a1_2 t382 _ A32.out).mono ?_); rintro e w36 ⟨rfl, hb⟩; refine ⟨_, rfl, ?_⟩; have n0_ := bb BK377 hb; have n1_ := bb BK378 hb; have n2_ := Aside0.mk (below_step (bz2 GE377 GE378) hb); clear BK377; clear BK378; clear HB; have BK377 := n0_; have BK378 := n1_; have HB := n2_; clear n0_ n1_ n2_; (try clear hb); (try clear hb2); (try clear hk); (try clear hi)))
      go_ret
      exact ⟨er, bz2 GE377 GE378⟩
def impl_size.f (a0 : Int) : Option (Int) := if a0 < 0 then (some (IntKind.u64.wrap (wrap64 (-a0)))) else (some (IntKind.u64.wrap (a0)))
set_option maxHeartbeats 8000000 in
set_option maxRecDepth 100000 in
theorem impl_size.calls (a0 : Int) (r : Int) (w : World) (h : impl_size.f a0 = some r) :
 Calls Try.prog 111 #[.int .i64 a0] w fun e w' => e = .returned (.int .u64 r) ∧ Drawn0 w w' := by
 have H : (if a0 < 0 then (some (IntKind.u64.wrap (wrap64 (-a0)))) else (some (IntKind.u64.wrap (a0)))) = some r := h
 clear h
 by_cases c2 : a0 < 0
 ·rw [if_pos c2] at H
  have c2b0 : decide (a0 < 0) = true := decide_eq_true c2
  clear c2
  obtain rfl := Option.some.inj H
  go_enter Try.func111, Try.ntmps111
  go_wp2
  go_ret
  exact ⟨sr, dz⟩
 ·rw [if_neg c2] at H
  have c2b0 : decide (a0 < 0) = false := decide_eq_false c2
  clear c2
  obtain rfl := Option.some.inj H
  go_enter Try.func111, Try.ntmps111
  go_wp2
  go_ret
  exact ⟨sr, dz⟩
def impl_wideOf.f (a0 : Int) : Option (Bool × Int × Int) := (impl_size.f a0).bind fun t384 => (some (decide (a0 < 0), 0, t384))
set_option maxHeartbeats 8000000 in
set_option maxRecDepth 100000 in
theorem impl_wideOf.calls (a0 : Int) (r1 : Bool) (r2 : Int) (r3 : Int) (w : World) (h : impl_wideOf.f a0 = some (r1, r2, r3)) :
 Calls Try.prog 107 #[.int .i64 a0] w fun e w' => e = .returned (.agg #[.bool r1, .int .u64 r2, .int .u64 r3]) ∧ Below w.heap.size w w' := by
 have hu83 := Try.underlying83
 have HB := Aside0.mk (Below.refl w.heap.size w)
 have H : ((impl_size.f a0).bind fun t384 => (some (decide (a0 < 0), 0, t384))) = some (r1, r2, r3) := h
 clear h
 obtain ⟨t384, A2, H⟩ := bi H
 simp only [Option.some.injEq, Prod.mk.injEq] at H
 obtain ⟨rfl, rfl, rfl⟩ := H
 go_enter Try.func107, Try.ntmps107
 go_wp2_with (first | ((with_reducible refine gate_dst (N := 2) rfl ?_); refine bv (N := 2) (cs := #[.bool false, .int .u64 0, .int .u64 0]) (t := 83) ?_; intro gb383 hg w3 hbox hb; have n0_ := Aside0.mk (below_step bz hb); have n1_ := Aside0.mk (hbox); have n2_ := (gz hg : Aside0 (w.heap.size ≤ _)); have n3_ := (gz hg : Aside0 (w.heap.size ≤ _)); clear HB; have HB := n0_; have BK383 := n1_; have GW383 := n2_; have GE383 := n3_; clear n0_ n1_ n2_ n3_; clear hb hbox hg) | ((with_reducible refine gate_callee (f := 111) rfl ?_); refine goesL_ (some 6) rfl rfl Try.func111 kf rfl #[.int .i64 a0] rfl sm ?_; (with_reducible refine (impl_size.calls a0 t384 _ A2.out).mono ?_); rintro e w' ⟨rfl, ⟨nd, rfl⟩⟩; refine ⟨_, rfl, ?_⟩; (try (rw [drewN_self w3]; generalize hq_ : World.drewN w3 _ = w3; have n0_ : Aside0 (w3.heap[gb383]? = some (.cells #[.bool false, .int .u64 0, .int .u64 0] 83 (0, 0))) := ⟨by rw [← hq_]; exact (bk BK383)⟩; have n1_ : Aside0 (Below w.heap.size w w3) := ⟨by rw [← hq_]; exact (bz1 GE383)⟩; clear BK383 HB hq_; have BK383 := n0_; have HB := n1_; clear n0_ n1_)); have hcz4_0 : w3.cell? ⟨gb383, 0, none⟩ = some (.bool false) := (blk_cell BK383.out 0).trans rfl; have hcz4_1 : w3.cell? ⟨gb383, 1, none⟩ = some (.int .u64 0) := (blk_cell BK383.out 1).trans rfl; have hcz4_2 : w3.cell? ⟨gb383, 2, none⟩ = some (.int .u64 0) := (blk_cell BK383.out 2).trans rfl; have hfz4_0 := blk_frozen BK383.out 0; have hfz4_1 := blk_frozen BK383.out 1; have hfz4_2 := blk_frozen BK383.out 2))
 refine bodyPost_ret (results_cell_row rfl _ _ gb383 83 #[.bool (decide (a0 < 0)), .int .u64 0, .int .u64 t384] (0, 0) _ rfl (by (with_reducible repeat (first | refine blk_drewN ?_ _ | refine blk_drew ?_ | refine blk_alloc ?_ _)); refine blk_put (cs := #[.bool (decide (a0 < 0)), .int .u64 0, .int .u64 0]) ?_ 2 _ rfl; (with_reducible repeat (first | refine blk_drewN ?_ _ | refine blk_drew ?_ | refine blk_alloc ?_ _)); refine blk_put (cs := #[.bool (decide (a0 < 0)), .int .u64 0, .int .u64 0]) ?_ 1 _ rfl; (with_reducible repeat (first | refine blk_drewN ?_ _ | refine blk_drew ?_ | refine blk_alloc ?_ _)); refine blk_put (cs := #[.bool false, .int .u64 0, .int .u64 0]) ?_ 0 _ rfl; (with_reducible repeat (first | refine blk_drewN ?_ _ | refine blk_drew ?_ | refine blk_alloc ?_ _)); exact BK383.out) Try.underlying83 rfl kf) rfl ?_
 exact ⟨er, bz1 GE383⟩
def impl_wide_shift.f (a0_0 : Bool) (a0_1 : Int) (a0_2 : Int) (a1 : Int) : Option (Bool × Int × Int) := if a1 ≥ 0 then (if a1 ≥ 64 then (if 0 ≤ (wrap64 (a1 - 64)) then (some (a0_0, shl .u64 a0_2 (wrap64 (a1 - 64)), 0)) else (none)) else (if 0 ≤ a1 then (if 0 ≤ (wrap64 (64 - a1)) then (some (a0_0, Go.bits .or .u64 (shl .u64 a0_1 a1) (shr .u64 a0_2 (wrap64 (64 - a1))), shl .u64 a0_2 a1)) else (none)) else (none))) else (if (wrap64 (-a1)) ≥ 64 then (if 0 ≤ (wrap64 ((wrap64 (-a1)) - 64)) then (some (a0_0, 0, shr .u64 a0_1 (wrap64 ((wrap64 (-a1)) - 64)))) else (none)) else (if 0 ≤ (wrap64 (-a1)) then (if 0 ≤ (wrap64 (64 - (wrap64 (-a1)))) then (some (a0_0, shr .u64 a0_1 (wrap64 (-a1)), Go.bits .or .u64 (shr .u64 a0_2 (wrap64 (-a1))) (shl .u64 a0_1 (wrap64 (64 - (wrap64 (-a1))))))) else (none)) else (none)))
def impl_wide_shift.T3 : Bool × List (List Nat × List Nat) := (true, [([], []), ([0], [0]), ([], []), ([2], [2]), ([], []), ([4], [4]), ([3, 5], [3, 5]), ([1, 6], [1, 6]), ([7, 0, 1, 2, 3, 4, 5, 6, 7], [7])])
def impl_wide_shift.B3 : List Nat := [0, 1, 0, 4, 0, 16, 60, 127, 255]
theorem impl_wide_shift.tab3 : rtab .any (opsOf Try.f108 3) = impl_wide_shift.T3 := by kernel_rfl
theorem impl_wide_shift.bits3 : waitsOk impl_wide_shift.T3.2 impl_wide_shift.B3 = true := by kernel_rfl
def impl_wide_shift.T4 : Bool × List (List Nat × List Nat) := (true, [([], []), ([0], [0]), ([], []), ([2], [2]), ([], []), ([3, 4], [3, 4]), ([], []), ([6], [6]), ([], []), ([8], [8]), ([7, 9], [7, 9]), ([5, 10], [5, 10]), ([], []), ([12], [12]), ([], []), ([13, 14], [13, 14]), ([1, 11, 15], [1, 11, 15]), ([16, 0, 1, 2, 3, 4, 5, 6, 7, 8, 9, 10, 11, 12, 13, 14, 15, 16], [16])])
def impl_wide_shift.B4 : List Nat := [0, 1, 0, 4, 0, 28, 0, 64, 0, 256, 960, 2044, 0, 4096, 0, 28672, 65535, 131071]
theorem impl_wide_shift.tab4 : rtab .any (opsOf Try.f108 4) = impl_wide_shift.T4 := by kernel_rfl
theorem impl_wide_shift.bits4 : waitsOk impl_wide_shift.T4.2 impl_wide_shift.B4 = true := by kernel_rfl
def impl_wide_shift.T7 : Bool × List (List Nat × List Nat) := (true, [([], []), ([0], [0]), ([], []), ([2], [2]), ([], []), ([4], [4]), ([3, 5], [3, 5]), ([1, 6], [1, 6]), ([7, 0, 1, 2, 3, 4, 5, 6, 7], [7])])
def impl_wide_shift.B7 : List Nat := [0, 1, 0, 4, 0, 16, 60, 127, 255]
theorem impl_wide_shift.tab7 : rtab .any (opsOf Try.f108 7) = impl_wide_shift.T7 := by kernel_rfl
theorem impl_wide_shift.bits7 : waitsOk impl_wide_shift.T7.2 impl_wide_shift.B7 = true := by kernel_rfl
def impl_wide_shift.T8 : Bool × List (List Nat × List Nat) := (true, [([], []), ([0], [0]), ([], []), ([2], [2]), ([], []), ([3, 4], [3, 4]), ([], []), ([6], [6]), ([], []), ([7, 8], [7, 8]), ([], []), ([10], [10]), ([], []), ([12], [12]), ([11, 13], [11, 13]), ([9, 14], [9, 14]), ([1, 5, 15], [1, 5, 15]), ([16, 0, 1, 2, 3, 4, 5, 6, 7, 8, 9, 10, 11, 12, 13, 14, 15, 16], [16])])
def impl_wide_shift.B8 : List Nat := [0, 1, 0, 4, 0, 28, 0, 64, 0, 448, 0, 1024, 0, 4096, 15360, 32704, 65535, 131071]
theorem impl_wide_shift.tab8 : rtab .any (opsOf Try.f108 8) = impl_wide_shift.T8 := by kernel_rfl
theorem impl_wide_shift.bits8 : waitsOk impl_wide_shift.T8.2 impl_wide_shift.B8 = true := by kernel_rfl
set_option maxHeartbeats 8000000 in
set_option maxRecDepth 100000 in
theorem impl_wide_shift.calls (a0_0 : Bool) (a0_1 : Int) (a0_2 : Int) (a1 : Int) (r1 : Bool) (r2 : Int) (r3 : Int) (w : World) (h : impl_wide_shift.f a0_0 a0_1 a0_2 a1 = some (r1, r2, r3)) :
 Calls Try.prog 108 #[.agg #[.bool a0_0, .int .u64 a0_1, .int .u64 a0_2], .int .i64 a1] w fun e w' => e = .returned (.agg #[.bool r1, .int .u64 r2, .int .u64 r3]) ∧ Below w.heap.size w w' := by
 have hu83 := Try.underlying83
 have HB := Aside0.mk (Below.refl w.heap.size w)
 have H : (if a1 ≥ 0 then (if a1 ≥ 64 then (if 0 ≤ (wrap64 (a1 - 64)) then (some (a0_0, shl .u64 a0_2 (wrap64 (a1 - 64)), 0)) else (none)) else (if 0 ≤ a1 then (if 0 ≤ (wrap64 (64 - a1)) then (some (a0_0, Go.bits .or .u64 (shl .u64 a0_1 a1) (shr .u64 a0_2 (wrap64 (64 - a1))), shl .u64 a0_2 a1)) else (none)) else (none))) else (if (wrap64 (-a1)) ≥ 64 then (if 0 ≤ (wrap64 ((wrap64 (-a1)) - 64)) then (some (a0_0, 0, shr .u64 a0_1 (wrap64 ((wrap64 (-a1)) - 64)))) else (none)) else (if 0 ≤ (wrap64 (-a1)) then (if 0 ≤ (wrap64 (64 - (wrap64 (-a1)))) then (some (a0_0, shr .u64 a0_1 (wrap64 (-a1)), Go.bits .or .u64 (shr .u64 a0_2 (wrap64 (-a1))) (shl .u64 a0_1 (wrap64 (64 - (wrap64 (-a1))))))) else (none)) else (none)))) = some (r1, r2, r3) := h
 clear h
 by_cases c3 : a1 ≥ 0
 ·rw [if_pos c3] at H
  have c3b0 : decide (0 ≤ a1) = true := decide_eq_true c3
  clear c3
  by_cases c4 : a1 ≥ 64
  ·rw [if_pos c4] at H
   have c4b0 : decide (64 ≤ a1) = true := decide_eq_true c4
   clear c4
   obtain ⟨ji5, hji5⟩ : ∃ j_ : Int, (wrap64 (a1 - 64)) = j_ := ⟨_, rfl⟩
   first | rw [hji5] at H | simp only [hji5] at H
   have hji5w : (IntKind.i64.wrap (a1 - 64)) = ji5 := (i64_w _).trans hji5
   by_cases c6 : 0 ≤ (ji5)
   ·rw [if_pos c6] at H
    have c6b0 := eq_true c6
    have c6b1 : decide (0 ≤ (ji5)) = true := decide_eq_true c6
    clear c6
    obtain ⟨ji7, hji7⟩ : ∃ j_ : Int, (shl .u64 a0_2 (ji5)) = j_ := ⟨_, rfl⟩
    first | rw [hji7] at H | simp only [hji7] at H
    have hji7_ : (IntKind.u64.wrap (a0_2 * 2 ^ min (ji5).toNat 64)) = ji7 := hji7
    have hji7z : (ji5) ≤ 64 → (IntKind.u64.wrap (a0_2 * 2 ^ (ji5).toNat)) = ji7 := shl_small hji7
    simp only [Option.some.injEq, Prod.mk.injEq] at H
    obtain ⟨rfl, rfl, rfl⟩ := H
    go_enter Try.func108, Try.ntmps108
    try go_wp2_with (first | ((with_reducible refine gate_dst (N := 2) rfl ?_); refine bv (N := 2) (cs := #[.bool a0_0, .int .u64 a0_1, .int .u64 a0_2]) (t := 83) ?_; intro gb385 hg w8 hbox hb; have n0_ := Aside0.mk (below_step bz hb); have n1_ := Aside0.mk (hbox); have n2_ := (gz hg : Aside0 (w.heap.size ≤ _)); have n3_ := (gz hg : Aside0 (w.heap.size ≤ _)); clear HB; have HB := n0_; have BK385 := n1_; have GW385 := n2_; have GE385 := n3_; clear n0_ n1_ n2_ n3_; clear hb hbox hg) | ((with_reducible refine gate_dst (N := 4) rfl ?_); refine bv (N := 4) (cs := #[.bool false, .int .u64 0, .int .u64 0]) (t := 83) ?_; intro gb386 hg w9 hbox hb; have n0_ := bb BK385 hb; have n1_ := Aside0.mk (below_step (bz1 GE385) hb); have n2_ := Aside0.mk (hbox); have n3_ := Aside0.mk ((by rw [hg]; exact (below_size (bz1 GE385)) : w.heap.size ≤ gb386)); have n4_ := Aside0.mk ((by rw [hg]; exact (below_size (bz1 GE385)) : w.heap.size ≤ gb386)); have n5_ := Aside0.mk ((by rw [hg]; exact Nat.ne_of_lt (blk_lt (g := gb385) (o := .cells #[.bool a0_0, .int .u64 a0_1, .int .u64 a0_2] 83 (0, 0)) (bk BK385)) : gb385 ≠ gb386)); have n6_ := Aside0.mk ((by rw [hg]; exact Nat.ne_of_gt (blk_lt (g := gb385) (o := .cells #[.bool a0_0, .int .u64 a0_1, .int .u64 a0_2] 83 (0, 0)) (bk BK385)) : gb386 ≠ gb385)); clear BK385; clear HB; have BK385 := n0_; have HB := n1_; have BK386 := n2_; have GW386 := n3_; have GE386 := n4_; have NB385_386 := n5_; have NB386_385 := n6_; clear n0_ n1_ n2_ n3_ n4_ n5_ n6_; clear hb hbox hg))
    have n0_ := Aside0.mk (blk_drew BK385.out)
    have n1_ := Aside0.mk (blk_drew BK386.out)
    have n2_ := Aside0.mk (below_drew1 HB.out)
    clear BK385 BK386 HB
    have BK385 := n0_
    have BK386 := n1_
    have HB := n2_
    clear n0_ n1_ n2_
    refine start_ (n := 9) (S := fun w' => w'.cell? ⟨gb385, 0, none⟩ = some (.bool a0_0) ∧ w'.cell? ⟨gb385, 1, none⟩ = some (.int .u64 a0_1) ∧ w'.cell? ⟨gb385, 2, none⟩ = some (.int .u64 a0_2)) (ds := []) #[fF, fF, fF, fF, fF, fF, fF, fF, fF] kf rfl rfl ⟨(blk_cell BK385.out 0).trans rfl, (blk_cell BK385.out 1).trans rfl, (blk_cell BK385.out 2).trans rfl⟩ (fun hHeld => ?_); refine with_tabW impl_wide_shift.tab3 impl_wide_shift.bits3 (fun HT_ HW_ => ?_)
    generalize w9.drew = w10 at BK385 BK386 HB hHeld ⊢
    refine pq (i := 0) (N := some 9) #[tT, fF, fF, fF, fF, fF, fF, fF, fF] rfl rfl HT_.out ?_
    refine pq (i := 2) (N := some 11) #[tT, fF, tT, fF, fF, fF, fF, fF, fF] rfl rfl HT_.out ?_
    refine pq (i := 4) (N := some 13) #[tT, fF, tT, fF, tT, fF, fF, fF, fF] rfl rfl HT_.out ?_
    refine pq (i := 5) (N := some 14) #[tT, fF, tT, fF, tT, tT, fF, fF, fF] rfl rfl HT_.out ?_
    refine tq3 (i := 1) (N := some 10) #[tT, tT, tT, fF, tT, tT, fF, fF, fF] rfl rfl HT_.out HW_.out hHeld ?_
    refine tq3 (i := 3) (N := some 12) #[tT, tT, tT, tT, tT, tT, fF, fF, fF] rfl rfl HT_.out HW_.out hHeld ?_
    refine pq (i := 6) (N := some 15) #[tT, tT, tT, tT, tT, tT, tT, fF, fF] rfl rfl HT_.out ?_
    refine pq (i := 7) (N := some 16) #[tT, tT, tT, tT, tT, tT, tT, tT, fF] rfl rfl HT_.out ?_
    refine one_ (i := 8) (N := none) #[tT, tT, tT, tT, tT, tT, tT, tT, tT] rfl rfl (one_of HT_.out kf) (by decide) (fun K hK => ?_)
    have hs11 : w10.cell? ⟨gb386, 0, none⟩ = some (.bool false) := (blk_cell BK386.out 0).trans rfl
    have hfs11 := blk_frozen BK386.out 0
    have hns11_0 := NB385_386.out
    have hms11_0 := NB386_385.out
    have hs12 : w10.cell? ⟨gb386, 1, none⟩ = some (.int .u64 0) := (blk_cell BK386.out 1).trans rfl
    have hfs12 := blk_frozen BK386.out 1
    have hns12_0 := NB385_386.out
    have hms12_0 := NB386_385.out
    have hs13 : w10.cell? ⟨gb386, 2, none⟩ = some (.int .u64 0) := (blk_cell BK386.out 2).trans rfl
    have hfs13 := blk_frozen BK386.out 2
    have hns13_0 := NB385_386.out
    have hms13_0 := NB386_385.out
    refine skip_ (w1 := ?_) (by rfl) rfl ?_ ?_
    rotate_left
    ·go_simp
     rfl
    refine hK.out _ _ ⟨((cell_far (p := ⟨gb386, _, none⟩) NB385_386.out _).trans (((cell_far (p := ⟨gb386, _, none⟩) NB385_386.out _).trans (((cell_far (p := ⟨gb386, _, none⟩) NB385_386.out _).trans (hHeld.1)))))), ((cell_far (p := ⟨gb386, _, none⟩) NB385_386.out _).trans (((cell_far (p := ⟨gb386, _, none⟩) NB385_386.out _).trans (((cell_far (p := ⟨gb386, _, none⟩) NB385_386.out _).trans (hHeld.2.1)))))), ((cell_far (p := ⟨gb386, _, none⟩) NB385_386.out _).trans (((cell_far (p := ⟨gb386, _, none⟩) NB385_386.out _).trans (((cell_far (p := ⟨gb386, _, none⟩) NB385_386.out _).trans (hHeld.2.2))))))⟩ (fun hHeld => ?_)
    clear hK K
    refine done_ (done_of HT_.out kf) ?_
    try go_wp2
    refine bodyPost_ret (results_cell_row rfl _ _ gb386 83 #[.bool a0_0, .int .u64 ji7, .int .u64 0] (0, 0) _ rfl (by (with_reducible repeat (first | refine blk_drewN ?_ _ | refine blk_drew ?_ | refine blk_alloc ?_ _)); refine blk_put (cs := #[.bool a0_0, .int .u64 ji7, .int .u64 0]) ?_ 2 _ rfl; (with_reducible repeat (first | refine blk_drewN ?_ _ | refine blk_drew ?_ | refine blk_alloc ?_ _)); refine blk_put (cs := #[.bool a0_0, .int .u64 0, .int .u64 0]) ?_ 1 _ rfl; (with_reducible repeat (first | refine blk_drewN ?_ _ | refine blk_drew ?_ | refine blk_alloc ?_ _)); refine blk_put (cs := #[.bool false, .int .u64 0, .int .u64 0]) ?_ 0 _ rfl; (with_reducible repeat (first | refine blk_drewN ?_ _ | refine blk_drew ?_ | refine blk_alloc ?_ _)); exact BK386.out) Try.underlying83 rfl kf) rfl ?_
    exact ⟨by first | rfl | (simp [errW_none, errW_some] <;> rfl) | (simp only [← hji5, ← hji7]; first | rfl | (simp [errW_none, errW_some] <;> rfl)) | (simp [*, errW_none, errW_some] <;> rfl), bz2 GE385 GE386⟩
   ·rw [if_neg c6] at H
    exact absurd H (by simp)
  ·rw [if_neg c4] at H
   have c4b0 : decide (64 ≤ a1) = false := decide_eq_false c4
   clear c4
   by_cases c14 : 0 ≤ a1
   ·rw [if_pos c14] at H
    have c14b0 := eq_true c14
    have c14b1 : decide (0 ≤ a1) = true := decide_eq_true c14
    clear c14
    obtain ⟨ji15, hji15⟩ : ∃ j_ : Int, (shl .u64 a0_1 a1) = j_ := ⟨_, rfl⟩
    first | rw [hji15] at H | simp only [hji15] at H
    have hji15_ : (IntKind.u64.wrap (a0_1 * 2 ^ min a1.toNat 64)) = ji15 := hji15
    have hji15z : a1 ≤ 64 → (IntKind.u64.wrap (a0_1 * 2 ^ a1.toNat)) = ji15 := shl_small hji15
    obtain ⟨ji16, hji16⟩ : ∃ j_ : Int, (wrap64 (64 - a1)) = j_ := ⟨_, rfl⟩
    first | rw [hji16] at H | simp only [hji16] at H
    have hji16w : (IntKind.i64.wrap (64 - a1)) = ji16 := (i64_w _).trans hji16
    by_cases c17 : 0 ≤ (ji16)
    ·rw [if_pos c17] at H
     have c17b0 := eq_true c17
     have c17b1 : decide (0 ≤ (ji16)) = true := decide_eq_true c17
     clear c17
     obtain ⟨ji18, hji18⟩ : ∃ j_ : Int, (shr .u64 a0_2 (ji16)) = j_ := ⟨_, rfl⟩
     first | rw [hji18] at H | simp only [hji18] at H
     have hji18_ : (a0_2 / 2 ^ min (ji16).toNat 64) = ji18 := hji18
     have hji18z : (ji16) ≤ 64 → (a0_2 / 2 ^ (ji16).toNat) = ji18 := shr_small hji18
     have c19b0 := eq_true (of_decide_eq_true am : 0 ≤ a1)
     obtain ⟨ji20, hji20⟩ : ∃ j_ : Int, (shl .u64 a0_2 a1) = j_ := ⟨_, rfl⟩
     first | rw [hji20] at H | simp only [hji20] at H
     have hji20_ : (IntKind.u64.wrap (a0_2 * 2 ^ min a1.toNat 64)) = ji20 := hji20
     have hji20z : a1 ≤ 64 → (IntKind.u64.wrap (a0_2 * 2 ^ a1.toNat)) = ji20 := shl_small hji20
     simp only [Option.some.injEq, Prod.mk.injEq] at H
     obtain ⟨rfl, rfl, rfl⟩ := H
     go_enter Try.func108, Try.ntmps108
     try go_wp2_with (first | ((with_reducible refine gate_dst (N := 2) rfl ?_); refine bv (N := 2) (cs := #[.bool a0_0, .int .u64 a0_1, .int .u64 a0_2]) (t := 83) ?_; intro gb385 hg w21 hbox hb; have n0_ := Aside0.mk (below_step bz hb); have n1_ := Aside0.mk (hbox); have n2_ := (gz hg : Aside0 (w.heap.size ≤ _)); have n3_ := (gz hg : Aside0 (w.heap.size ≤ _)); clear HB; have HB := n0_; have BK385 := n1_; have GW385 := n2_; have GE385 := n3_; clear n0_ n1_ n2_ n3_; clear hb hbox hg) | ((with_reducible refine gate_dst (N := 4) rfl ?_); refine bv (N := 4) (cs := #[.bool false, .int .u64 0, .int .u64 0]) (t := 83) ?_; intro gb386 hg w22 hbox hb; have n0_ := bb BK385 hb; have n1_ := Aside0.mk (below_step (bz1 GE385) hb); have n2_ := Aside0.mk (hbox); have n3_ := Aside0.mk ((by rw [hg]; exact (below_size (bz1 GE385)) : w.heap.size ≤ gb386)); have n4_ := Aside0.mk ((by rw [hg]; exact (below_size (bz1 GE385)) : w.heap.size ≤ gb386)); have n5_ := Aside0.mk ((by rw [hg]; exact Nat.ne_of_lt (blk_lt (g := gb385) (o := .cells #[.bool a0_0, .int .u64 a0_1, .int .u64 a0_2] 83 (0, 0)) (bk BK385)) : gb385 ≠ gb386)); have n6_ := Aside0.mk ((by rw [hg]; exact Nat.ne_of_gt (blk_lt (g := gb385) (o := .cells #[.bool a0_0, .int .u64 a0_1, .int .u64 a0_2] 83 (0, 0)) (bk BK385)) : gb386 ≠ gb385)); clear BK385; clear HB; have BK385 := n0_; have HB := n1_; have BK386 := n2_; have GW386 := n3_; have GE386 := n4_; have NB385_386 := n5_; have NB386_385 := n6_; clear n0_ n1_ n2_ n3_ n4_ n5_ n6_; clear hb hbox hg))
     have n0_ := Aside0.mk (blk_drew BK385.out)
     have n1_ := Aside0.mk (blk_drew BK386.out)
     have n2_ := Aside0.mk (below_drew1 HB.out)
     clear BK385 BK386 HB
     have BK385 := n0_
     have BK386 := n1_
     have HB := n2_
     clear n0_ n1_ n2_
     refine start_ (n := 18) (S := fun w' => w'.cell? ⟨gb385, 0, none⟩ = some (.bool a0_0) ∧ w'.cell? ⟨gb385, 1, none⟩ = some (.int .u64 a0_1) ∧ w'.cell? ⟨gb385, 2, none⟩ = some (.int .u64 a0_2)) (ds := []) #[fF, fF, fF, fF, fF, fF, fF, fF, fF, fF, fF, fF, fF, fF, fF, fF, fF, fF] kf rfl rfl ⟨(blk_cell BK385.out 0).trans rfl, (blk_cell BK385.out 1).trans rfl, (blk_cell BK385.out 2).trans rfl⟩ (fun hHeld => ?_); refine with_tabW impl_wide_shift.tab4 impl_wide_shift.bits4 (fun HT_ HW_ => ?_)
     generalize w22.drew = w23 at BK385 BK386 HB hHeld ⊢
     refine pq (i := 0) (N := some 17) #[tT, fF, fF, fF, fF, fF, fF, fF, fF, fF, fF, fF, fF, fF, fF, fF, fF, fF] rfl rfl HT_.out ?_
     refine pq (i := 2) (N := some 19) #[tT, fF, tT, fF, fF, fF, fF, fF, fF, fF, fF, fF, fF, fF, fF, fF, fF, fF] rfl rfl HT_.out ?_
     refine pq (i := 4) (N := some 21) #[tT, fF, tT, fF, tT, fF, fF, fF, fF, fF, fF, fF, fF, fF, fF, fF, fF, fF] rfl rfl HT_.out ?_
     refine pq (i := 6) (N := some 23) #[tT, fF, tT, fF, tT, fF, tT, fF, fF, fF, fF, fF, fF, fF, fF, fF, fF, fF] rfl rfl HT_.out ?_
     refine pq (i := 8) (N := some 25) #[tT, fF, tT, fF, tT, fF, tT, fF, tT, fF, fF, fF, fF, fF, fF, fF, fF, fF] rfl rfl HT_.out ?_
     refine pq (i := 9) (N := some 26) #[tT, fF, tT, fF, tT, fF, tT, fF, tT, tT, fF, fF, fF, fF, fF, fF, fF, fF] rfl rfl HT_.out ?_
     refine pq (i := 12) (N := some 29) #[tT, fF, tT, fF, tT, fF, tT, fF, tT, tT, fF, fF, tT, fF, fF, fF, fF, fF] rfl rfl HT_.out ?_
     refine pq (i := 14) (N := some 31) #[tT, fF, tT, fF, tT, fF, tT, fF, tT, tT, fF, fF, tT, fF, tT, fF, fF, fF] rfl rfl HT_.out ?_
     refine tq3 (i := 1) (N := some 18) #[tT, tT, tT, fF, tT, fF, tT, fF, tT, tT, fF, fF, tT, fF, tT, fF, fF, fF] rfl rfl HT_.out HW_.out hHeld ?_
     refine tq3 (i := 3) (N := some 20) #[tT, tT, tT, tT, tT, fF, tT, fF, tT, tT, fF, fF, tT, fF, tT, fF, fF, fF] rfl rfl HT_.out HW_.out hHeld ?_
     refine pq (i := 5) (N := some 22) #[tT, tT, tT, tT, tT, tT, tT, fF, tT, tT, fF, fF, tT, fF, tT, fF, fF, fF] rfl rfl HT_.out ?_
     refine tq3 (i := 7) (N := some 24) #[tT, tT, tT, tT, tT, tT, tT, tT, tT, tT, fF, fF, tT, fF, tT, fF, fF, fF] rfl rfl HT_.out HW_.out hHeld ?_
     refine pq (i := 10) (N := some 27) #[tT, tT, tT, tT, tT, tT, tT, tT, tT, tT, tT, fF, tT, fF, tT, fF, fF, fF] rfl rfl HT_.out ?_
     refine pq (i := 11) (N := some 28) #[tT, tT, tT, tT, tT, tT, tT, tT, tT, tT, tT, tT, tT, fF, tT, fF, fF, fF] rfl rfl HT_.out ?_
     refine tq3 (i := 13) (N := some 30) #[tT, tT, tT, tT, tT, tT, tT, tT, tT, tT, tT, tT, tT, tT, tT, fF, fF, fF] rfl rfl HT_.out HW_.out hHeld ?_
     refine pq (i := 15) (N := some 32) #[tT, tT, tT, tT, tT, tT, tT, tT, tT, tT, tT, tT, tT, tT, tT, tT, fF, fF] rfl rfl HT_.out ?_
     refine pq (i := 16) (N := some 33) #[tT, tT, tT, tT, tT, tT, tT, tT, tT, tT, tT, tT, tT, tT, tT, tT, tT, fF] rfl rfl HT_.out ?_
     refine one_ (i := 17) (N := none) #[tT, tT, tT, tT, tT, tT, tT, tT, tT, tT, tT, tT, tT, tT, tT, tT, tT, tT] rfl rfl (one_of HT_.out kf) (by decide) (fun K hK => ?_)
     have hs24 : w23.cell? ⟨gb386, 0, none⟩ = some (.bool false) := (blk_cell BK386.out 0).trans rfl
     have hfs24 := blk_frozen BK386.out 0
     have hns24_0 := NB385_386.out
     have hms24_0 := NB386_385.out
     have hs25 : w23.cell? ⟨gb386, 1, none⟩ = some (.int .u64 0) := (blk_cell BK386.out 1).trans rfl
     have hfs25 := blk_frozen BK386.out 1
     have hns25_0 := NB385_386.out
     have hms25_0 := NB386_385.out
     have hs26 : w23.cell? ⟨gb386, 2, none⟩ = some (.int .u64 0) := (blk_cell BK386.out 2).trans rfl
     have hfs26 := blk_frozen BK386.out 2
     have hns26_0 := NB385_386.out
     have hms26_0 := NB386_385.out
     refine skip_ (w1 := ?_) (by rfl) rfl ?_ ?_
     rotate_left
     ·go_simp
      rfl
     refine hK.out _ _ ⟨((cell_far (p := ⟨gb386, _, none⟩) NB385_386.out _).trans (((cell_far (p := ⟨gb386, _, none⟩) NB385_386.out _).trans (((cell_far (p := ⟨gb386, _, none⟩) NB385_386.out _).trans (hHeld.1)))))), ((cell_far (p := ⟨gb386, _, none⟩) NB385_386.out _).trans (((cell_far (p := ⟨gb386, _, none⟩) NB385_386.out _).trans (((cell_far (p := ⟨gb386, _, none⟩) NB385_386.out _).trans (hHeld.2.1)))))), ((cell_far (p := ⟨gb386, _, none⟩) NB385_386.out _).trans (((cell_far (p := ⟨gb386, _, none⟩) NB385_386.out _).trans (((cell_far (p := ⟨gb386, _, none⟩) NB385_386.out _).trans (hHeld.2.2))))))⟩ (fun hHeld => ?_)
     clear hK K
     refine done_ (done_of HT_.out kf) ?_
     try go_wp2
     refine bodyPost_ret (results_cell_row rfl _ _ gb386 83 #[.bool a0_0, .int .u64 (Go.bits .or .u64 (ji15) (ji18)), .int .u64 ji20] (0, 0) _ rfl (by (with_reducible repeat (first | refine blk_drewN ?_ _ | refine blk_drew ?_ | refine blk_alloc ?_ _)); refine blk_put (cs := #[.bool a0_0, .int .u64 (Go.bits .or .u64 (ji15) (ji18)), .int .u64 0]) ?_ 2 _ rfl; (with_reducible repeat (first | refine blk_drewN ?_ _ | refine blk_drew ?_ | refine blk_alloc ?_ _)); refine blk_put (cs := #[.bool a0_0, .int .u64 0, .int .u64 0]) ?_ 1 _ rfl; (with_reducible repeat (first | refine blk_drewN ?_ _ | refine blk_drew ?_ | refine blk_alloc ?_ _)); refine blk_put (cs := #[.bool false, .int .u64 0, .int .u64 0]) ?_ 0 _ rfl; (with_reducible repeat (first | refine blk_drewN ?_ _ | refine blk_drew ?_ | refine blk_alloc ?_ _)); exact BK386.out) Try.underlying83 rfl kf) rfl ?_
     exact ⟨by first | rfl | (simp [errW_none, errW_some] <;> rfl) | (simp only [← hji15, ← hji16, ← hji18, ← hji20]; first | rfl | (simp [errW_none, errW_some] <;> rfl)) | (simp [*, errW_none, errW_some] <;> rfl), bz2 GE385 GE386⟩
    ·rw [if_neg c17] at H
     exact absurd H (by simp)
   ·rw [if_neg c14] at H
    exact absurd H (by simp)
 ·rw [if_neg c3] at H
  have c3b0 : decide (0 ≤ a1) = false := decide_eq_false c3
  clear c3
  by_cases c27 : (wrap64 (-a1)) ≥ 64
  ·rw [if_pos c27] at H
   have c27b0 : decide (64 ≤ (wrap64 (-a1))) = true := decide_eq_true c27
   (try (have c27b0w : decide (64 ≤ (IntKind.i64.wrap (-a1))) = true := by simp only [i64_w]; exact c27b0))
   clear c27
   obtain ⟨ji28, hji28⟩ : ∃ j_ : Int, (wrap64 ((wrap64 (-a1)) - 64)) = j_ := ⟨_, rfl⟩
   first | rw [hji28] at H | simp only [hji28] at H
   have hji28w : (IntKind.i64.wrap ((wrap64 (-a1)) - 64)) = ji28 := (i64_w _).trans hji28
   by_cases c29 : 0 ≤ (ji28)
   ·rw [if_pos c29] at H
    have c29b0 := eq_true c29
    have c29b1 : decide (0 ≤ (ji28)) = true := decide_eq_true c29
    clear c29
    obtain ⟨ji30, hji30⟩ : ∃ j_ : Int, (shr .u64 a0_1 (ji28)) = j_ := ⟨_, rfl⟩
    first | rw [hji30] at H | simp only [hji30] at H
    have hji30_ : (a0_1 / 2 ^ min (ji28).toNat 64) = ji30 := hji30
    have hji30z : (ji28) ≤ 64 → (a0_1 / 2 ^ (ji28).toNat) = ji30 := shr_small hji30
    simp only [Option.some.injEq, Prod.mk.injEq] at H
    obtain ⟨rfl, rfl, rfl⟩ := H
    go_enter Try.func108, Try.ntmps108
    try go_wp2_with (first | ((with_reducible refine gate_dst (N := 2) rfl ?_); refine bv (N := 2) (cs := #[.bool a0_0, .int .u64 a0_1, .int .u64 a0_2]) (t := 83) ?_; intro gb385 hg w31 hbox hb; have n0_ := Aside0.mk (below_step bz hb); have n1_ := Aside0.mk (hbox); have n2_ := (gz hg : Aside0 (w.heap.size ≤ _)); have n3_ := (gz hg : Aside0 (w.heap.size ≤ _)); clear HB; have HB := n0_; have BK385 := n1_; have GW385 := n2_; have GE385 := n3_; clear n0_ n1_ n2_ n3_; clear hb hbox hg) | ((with_reducible refine gate_dst (N := 4) rfl ?_); refine bv (N := 4) (cs := #[.bool false, .int .u64 0, .int .u64 0]) (t := 83) ?_; intro gb386 hg w32 hbox hb; have n0_ := bb BK385 hb; have n1_ := Aside0.mk (below_step (bz1 GE385) hb); have n2_ := Aside0.mk (hbox); have n3_ := Aside0.mk ((by rw [hg]; exact (below_size (bz1 GE385)) : w.heap.size ≤ gb386)); have n4_ := Aside0.mk ((by rw [hg]; exact (below_size (bz1 GE385)) : w.heap.size ≤ gb386)); have n5_ := Aside0.mk ((by rw [hg]; exact Nat.ne_of_lt (blk_lt (g := gb385) (o := .cells #[.bool a0_0, .int .u64 a0_1, .int .u64 a0_2] 83 (0, 0)) (bk BK385)) : gb385 ≠ gb386)); have n6_ := Aside0.mk ((by rw [hg]; exact Nat.ne_of_gt (blk_lt (g := gb385) (o := .cells #[.bool a0_0, .int .u64 a0_1, .int .u64 a0_2] 83 (0, 0)) (bk BK385)) : gb386 ≠ gb385)); clear BK385; clear HB; have BK385 := n0_; have HB := n1_; have BK386 := n2_; have GW386 := n3_; have GE386 := n4_; have NB385_386 := n5_; have NB386_385 := n6_; clear n0_ n1_ n2_ n3_ n4_ n5_ n6_; clear hb hbox hg))
    have n0_ := Aside0.mk (blk_drew BK385.out)
    have n1_ := Aside0.mk (blk_drew BK386.out)
    have n2_ := Aside0.mk (below_drew1 HB.out)
    clear BK385 BK386 HB
    have BK385 := n0_
    have BK386 := n1_
    have HB := n2_
    clear n0_ n1_ n2_
    refine start_ (n := 9) (S := fun w' => w'.cell? ⟨gb385, 0, none⟩ = some (.bool a0_0) ∧ w'.cell? ⟨gb385, 1, none⟩ = some (.int .u64 a0_1) ∧ w'.cell? ⟨gb385, 2, none⟩ = some (.int .u64 a0_2)) (ds := []) #[fF, fF, fF, fF, fF, fF, fF, fF, fF] kf rfl rfl ⟨(blk_cell BK385.out 0).trans rfl, (blk_cell BK385.out 1).trans rfl, (blk_cell BK385.out 2).trans rfl⟩ (fun hHeld => ?_); refine with_tabW impl_wide_shift.tab7 impl_wide_shift.bits7 (fun HT_ HW_ => ?_)
    generalize w32.drew = w33 at BK385 BK386 HB hHeld ⊢
    refine pq (i := 0) (N := some 38) #[tT, fF, fF, fF, fF, fF, fF, fF, fF] rfl rfl HT_.out ?_
    refine pq (i := 2) (N := some 40) #[tT, fF, tT, fF, fF, fF, fF, fF, fF] rfl rfl HT_.out ?_
    refine pq (i := 4) (N := some 42) #[tT, fF, tT, fF, tT, fF, fF, fF, fF] rfl rfl HT_.out ?_
    refine pq (i := 5) (N := some 43) #[tT, fF, tT, fF, tT, tT, fF, fF, fF] rfl rfl HT_.out ?_
    refine tq3 (i := 1) (N := some 39) #[tT, tT, tT, fF, tT, tT, fF, fF, fF] rfl rfl HT_.out HW_.out hHeld ?_
    refine tq3 (i := 3) (N := some 41) #[tT, tT, tT, tT, tT, tT, fF, fF, fF] rfl rfl HT_.out HW_.out hHeld ?_
    refine pq (i := 6) (N := some 44) #[tT, tT, tT, tT, tT, tT, tT, fF, fF] rfl rfl HT_.out ?_
    refine pq (i := 7) (N := some 45) #[tT, tT, tT, tT, tT, tT, tT, tT, fF] rfl rfl HT_.out ?_
    refine one_ (i := 8) (N := none) #[tT, tT, tT, tT, tT, tT, tT, tT, tT] rfl rfl (one_of HT_.out kf) (by decide) (fun K hK => ?_)
    have hs34 : w33.cell? ⟨gb386, 0, none⟩ = some (.bool false) := (blk_cell BK386.out 0).trans rfl
    have hfs34 := blk_frozen BK386.out 0
    have hns34_0 := NB385_386.out
    have hms34_0 := NB386_385.out
    have hs35 : w33.cell? ⟨gb386, 1, none⟩ = some (.int .u64 0) := (blk_cell BK386.out 1).trans rfl
    have hfs35 := blk_frozen BK386.out 1
    have hns35_0 := NB385_386.out
    have hms35_0 := NB386_385.out
    have hs36 : w33.cell? ⟨gb386, 2, none⟩ = some (.int .u64 0) := (blk_cell BK386.out 2).trans rfl
    have hfs36 := blk_frozen BK386.out 2
    have hns36_0 := NB385_386.out
    have hms36_0 := NB386_385.out
    refine skip_ (w1 := ?_) (by rfl) rfl ?_ ?_
    rotate_left
    ·go_simp
     rfl
    refine hK.out _ _ ⟨((cell_far (p := ⟨gb386, _, none⟩) NB385_386.out _).trans (((cell_far (p := ⟨gb386, _, none⟩) NB385_386.out _).trans (((cell_far (p := ⟨gb386, _, none⟩) NB385_386.out _).trans (hHeld.1)))))), ((cell_far (p := ⟨gb386, _, none⟩) NB385_386.out _).trans (((cell_far (p := ⟨gb386, _, none⟩) NB385_386.out _).trans (((cell_far (p := ⟨gb386, _, none⟩) NB385_386.out _).trans (hHeld.2.1)))))), ((cell_far (p := ⟨gb386, _, none⟩) NB385_386.out _).trans (((cell_far (p := ⟨gb386, _, none⟩) NB385_386.out _).trans (((cell_far (p := ⟨gb386, _, none⟩) NB385_386.out _).trans (hHeld.2.2))))))⟩ (fun hHeld => ?_)
    clear hK K
    refine done_ (done_of HT_.out kf) ?_
    try go_wp2
    refine bodyPost_ret (results_cell_row rfl _ _ gb386 83 #[.bool a0_0, .int .u64 0, .int .u64 ji30] (0, 0) _ rfl (by (with_reducible repeat (first | refine blk_drewN ?_ _ | refine blk_drew ?_ | refine blk_alloc ?_ _)); refine blk_put (cs := #[.bool a0_0, .int .u64 0, .int .u64 0]) ?_ 2 _ rfl; (with_reducible repeat (first | refine blk_drewN ?_ _ | refine blk_drew ?_ | refine blk_alloc ?_ _)); refine blk_put (cs := #[.bool a0_0, .int .u64 0, .int .u64 0]) ?_ 1 _ rfl; (with_reducible repeat (first | refine blk_drewN ?_ _ | refine blk_drew ?_ | refine blk_alloc ?_ _)); refine blk_put (cs := #[.bool false, .int .u64 0, .int .u64 0]) ?_ 0 _ rfl; (with_reducible repeat (first | refine blk_drewN ?_ _ | refine blk_drew ?_ | refine blk_alloc ?_ _)); exact BK386.out) Try.underlying83 rfl kf) rfl ?_
    exact ⟨by first | rfl | (simp [errW_none, errW_some] <;> rfl) | (simp only [← hji28, ← hji30]; first | rfl | (simp [errW_none, errW_some] <;> rfl)) | (simp [*, errW_none, errW_some] <;> rfl), bz2 GE385 GE386⟩
   ·rw [if_neg c29] at H
    exact absurd H (by simp)
  ·rw [if_neg c27] at H
   have c27b0 : decide (64 ≤ (wrap64 (-a1))) = false := decide_eq_false c27
   (try (have c27b0w : decide (64 ≤ (IntKind.i64.wrap (-a1))) = false := by simp only [i64_w]; exact c27b0))
   clear c27
   obtain ⟨ji37, hji37⟩ : ∃ j_ : Int, (wrap64 (-a1)) = j_ := ⟨_, rfl⟩
   first | rw [hji37] at H | simp only [hji37] at H
   (try rw [hji37] at c27b0)
   have hji37w : (IntKind.i64.wrap (-a1)) = ji37 := (i64_w _).trans hji37
   by_cases c38 : 0 ≤ (ji37)
   ·rw [if_pos c38] at H
    have c38b0 := eq_true c38
    have c38b1 : decide (0 ≤ (ji37)) = true := decide_eq_true c38
    clear c38
    obtain ⟨ji39, hji39⟩ : ∃ j_ : Int, (shr .u64 a0_1 (ji37)) = j_ := ⟨_, rfl⟩
    first | rw [hji39] at H | simp only [hji39] at H
    have hji39_ : (a0_1 / 2 ^ min (ji37).toNat 64) = ji39 := hji39
    have hji39z : (ji37) ≤ 64 → (a0_1 / 2 ^ (ji37).toNat) = ji39 := shr_small hji39
    have c40b0 := eq_true (of_decide_eq_true am : 0 ≤ (ji37))
    obtain ⟨ji41, hji41⟩ : ∃ j_ : Int, (shr .u64 a0_2 (ji37)) = j_ := ⟨_, rfl⟩
    first | rw [hji41] at H | simp only [hji41] at H
    have hji41_ : (a0_2 / 2 ^ min (ji37).toNat 64) = ji41 := hji41
    have hji41z : (ji37) ≤ 64 → (a0_2 / 2 ^ (ji37).toNat) = ji41 := shr_small hji41
    obtain ⟨ji42, hji42⟩ : ∃ j_ : Int, (wrap64 (64 - (ji37))) = j_ := ⟨_, rfl⟩
    first | rw [hji42] at H | simp only [hji42] at H
    have hji42w : (IntKind.i64.wrap (64 - (ji37))) = ji42 := (i64_w _).trans hji42
    by_cases c43 : 0 ≤ (ji42)
    ·rw [if_pos c43] at H
     have c43b0 := eq_true c43
     have c43b1 : decide (0 ≤ (ji42)) = true := decide_eq_true c43
     clear c43
     obtain ⟨ji44, hji44⟩ : ∃ j_ : Int, (shl .u64 a0_1 (ji42)) = j_ := ⟨_, rfl⟩
     first | rw [hji44] at H | simp only [hji44] at H
     have hji44_ : (IntKind.u64.wrap (a0_1 * 2 ^ min (ji42).toNat 64)) = ji44 := hji44
     have hji44z : (ji42) ≤ 64 → (IntKind.u64.wrap (a0_1 * 2 ^ (ji42).toNat)) = ji44 := shl_small hji44
     simp only [Option.some.injEq, Prod.mk.injEq] at H
     obtain ⟨rfl, rfl, rfl⟩ := H
     go_enter Try.func108, Try.ntmps108
     try go_wp2_with (first | ((with_reducible refine gate_dst (N := 2) rfl ?_); refine bv (N := 2) (cs := #[.bool a0_0, .int .u64 a0_1, .int .u64 a0_2]) (t := 83) ?_; intro gb385 hg w45 hbox hb; have n0_ := Aside0.mk (below_step bz hb); have n1_ := Aside0.mk (hbox); have n2_ := (gz hg : Aside0 (w.heap.size ≤ _)); have n3_ := (gz hg : Aside0 (w.heap.size ≤ _)); clear HB; have HB := n0_; have BK385 := n1_; have GW385 := n2_; have GE385 := n3_; clear n0_ n1_ n2_ n3_; clear hb hbox hg) | ((with_reducible refine gate_dst (N := 4) rfl ?_); refine bv (N := 4) (cs := #[.bool false, .int .u64 0, .int .u64 0]) (t := 83) ?_; intro gb386 hg w46 hbox hb; have n0_ := bb BK385 hb; have n1_ := Aside0.mk (below_step (bz1 GE385) hb); have n2_ := Aside0.mk (hbox); have n3_ := Aside0.mk ((by rw [hg]; exact (below_size (bz1 GE385)) : w.heap.size ≤ gb386)); have n4_ := Aside0.mk ((by rw [hg]; exact (below_size (bz1 GE385)) : w.heap.size ≤ gb386)); have n5_ := Aside0.mk ((by rw [hg]; exact Nat.ne_of_lt (blk_lt (g := gb385) (o := .cells #[.bool a0_0, .int .u64 a0_1, .int .u64 a0_2] 83 (0, 0)) (bk BK385)) : gb385 ≠ gb386)); have n6_ := Aside0.mk ((by rw [hg]; exact Nat.ne_of_gt (blk_lt (g := gb385) (o := .cells #[.bool a0_0, .int .u64 a0_1, .int .u64 a0_2] 83 (0, 0)) (bk BK385)) : gb386 ≠ gb385)); clear BK385; clear HB; have BK385 := n0_; have HB := n1_; have BK386 := n2_; have GW386 := n3_; have GE386 := n4_; have NB385_386 := n5_; have NB386_385 := n6_; clear n0_ n1_ n2_ n3_ n4_ n5_ n6_; clear hb hbox hg))
     have n0_ := Aside0.mk (blk_drew BK385.out)
     have n1_ := Aside0.mk (blk_drew BK386.out)
     have n2_ := Aside0.mk (below_drew1 HB.out)
     clear BK385 BK386 HB
     have BK385 := n0_
     have BK386 := n1_
     have HB := n2_
     clear n0_ n1_ n2_
     refine start_ (n := 18) (S := fun w' => w'.cell? ⟨gb385, 0, none⟩ = some (.bool a0_0) ∧ w'.cell? ⟨gb385, 1, none⟩ = some (.int .u64 a0_1) ∧ w'.cell? ⟨gb385, 2, none⟩ = some (.int .u64 a0_2)) (ds := []) #[fF, fF, fF, fF, fF, fF, fF, fF, fF, fF, fF, fF, fF, fF, fF, fF, fF, fF] kf rfl rfl ⟨(blk_cell BK385.out 0).trans rfl, (blk_cell BK385.out 1).trans rfl, (blk_cell BK385.out 2).trans rfl⟩ (fun hHeld => ?_); refine with_tabW impl_wide_shift.tab8 impl_wide_shift.bits8 (fun HT_ HW_ => ?_)
     generalize w46.drew = w47 at BK385 BK386 HB hHeld ⊢
     refine pq (i := 0) (N := some 46) #[tT, fF, fF, fF, fF, fF, fF, fF, fF, fF, fF, fF, fF, fF, fF, fF, fF, fF] rfl rfl HT_.out ?_
     refine pq (i := 2) (N := some 48) #[tT, fF, tT, fF, fF, fF, fF, fF, fF, fF, fF, fF, fF, fF, fF, fF, fF, fF] rfl rfl HT_.out ?_
     refine pq (i := 4) (N := some 50) #[tT, fF, tT, fF, tT, fF, fF, fF, fF, fF, fF, fF, fF, fF, fF, fF, fF, fF] rfl rfl HT_.out ?_
     refine pq (i := 6) (N := some 52) #[tT, fF, tT, fF, tT, fF, tT, fF, fF, fF, fF, fF, fF, fF, fF, fF, fF, fF] rfl rfl HT_.out ?_
     refine pq (i := 8) (N := some 54) #[tT, fF, tT, fF, tT, fF, tT, fF, tT, fF, fF, fF, fF, fF, fF, fF, fF, fF] rfl rfl HT_.out ?_
     refine pq (i := 10) (N := some 56) #[tT, fF, tT, fF, tT, fF, tT, fF, tT, fF, tT, fF, fF, fF, fF, fF, fF, fF] rfl rfl HT_.out ?_
     refine pq (i := 12) (N := some 58) #[tT, fF, tT, fF, tT, fF, tT, fF, tT, fF, tT, fF, tT, fF, fF, fF, fF, fF] rfl rfl HT_.out ?_
     refine pq (i := 13) (N := some 59) #[tT, fF, tT, fF, tT, fF, tT, fF, tT, fF, tT, fF, tT, tT, fF, fF, fF, fF] rfl rfl HT_.out ?_
     refine tq3 (i := 1) (N := some 47) #[tT, tT, tT, fF, tT, fF, tT, fF, tT, fF, tT, fF, tT, tT, fF, fF, fF, fF] rfl rfl HT_.out HW_.out hHeld ?_
     refine tq3 (i := 3) (N := some 49) #[tT, tT, tT, tT, tT, fF, tT, fF, tT, fF, tT, fF, tT, tT, fF, fF, fF, fF] rfl rfl HT_.out HW_.out hHeld ?_
     refine pq (i := 5) (N := some 51) #[tT, tT, tT, tT, tT, tT, tT, fF, tT, fF, tT, fF, tT, tT, fF, fF, fF, fF] rfl rfl HT_.out ?_
     refine tq3 (i := 7) (N := some 53) #[tT, tT, tT, tT, tT, tT, tT, tT, tT, fF, tT, fF, tT, tT, fF, fF, fF, fF] rfl rfl HT_.out HW_.out hHeld ?_
     refine pq (i := 9) (N := some 55) #[tT, tT, tT, tT, tT, tT, tT, tT, tT, tT, tT, fF, tT, tT, fF, fF, fF, fF] rfl rfl HT_.out ?_
     refine tq3 (i := 11) (N := some 57) #[tT, tT, tT, tT, tT, tT, tT, tT, tT, tT, tT, tT, tT, tT, fF, fF, fF, fF] rfl rfl HT_.out HW_.out hHeld ?_
     refine pq (i := 14) (N := some 60) #[tT, tT, tT, tT, tT, tT, tT, tT, tT, tT, tT, tT, tT, tT, tT, fF, fF, fF] rfl rfl HT_.out ?_
     refine pq (i := 15) (N := some 61) #[tT, tT, tT, tT, tT, tT, tT, tT, tT, tT, tT, tT, tT, tT, tT, tT, fF, fF] rfl rfl HT_.out ?_
     refine pq (i := 16) (N := some 62) #[tT, tT, tT, tT, tT, tT, tT, tT, tT, tT, tT, tT, tT, tT, tT, tT, tT, fF] rfl rfl HT_.out ?_
     refine one_ (i := 17) (N := none) #[tT, tT, tT, tT, tT, tT, tT, tT, tT, tT, tT, tT, tT, tT, tT, tT, tT, tT] rfl rfl (one_of HT_.out kf) (by decide) (fun K hK => ?_)
     have hs48 : w47.cell? ⟨gb386, 0, none⟩ = some (.bool false) := (blk_cell BK386.out 0).trans rfl
     have hfs48 := blk_frozen BK386.out 0
     have hns48_0 := NB385_386.out
     have hms48_0 := NB386_385.out
     have hs49 : w47.cell? ⟨gb386, 1, none⟩ = some (.int .u64 0) := (blk_cell BK386.out 1).trans rfl
     have hfs49 := blk_frozen BK386.out 1
     have hns49_0 := NB385_386.out
     have hms49_0 := NB386_385.out
     have hs50 : w47.cell? ⟨gb386, 2, none⟩ = some (.int .u64 0) := (blk_cell BK386.out 2).trans rfl
     have hfs50 := blk_frozen BK386.out 2
     have hns50_0 := NB385_386.out
     have hms50_0 := NB386_385.out
     refine skip_ (w1 := ?_) (by rfl) rfl ?_ ?_
     rotate_left
     ·go_simp
      rfl
     refine hK.out _ _ ⟨((cell_far (p := ⟨gb386, _, none⟩) NB385_386.out _).trans (((cell_far (p := ⟨gb386, _, none⟩) NB385_386.out _).trans (((cell_far (p := ⟨gb386, _, none⟩) NB385_386.out _).trans (hHeld.1)))))), ((cell_far (p := ⟨gb386, _, none⟩) NB385_386.out _).trans (((cell_far (p := ⟨gb386, _, none⟩) NB385_386.out _).trans (((cell_far (p := ⟨gb386, _, none⟩) NB385_386.out _).trans (hHeld.2.1)))))), ((cell_far (p := ⟨gb386, _, none⟩) NB385_386.out _).trans (((cell_far (p := ⟨gb386, _, none⟩) NB385_386.out _).trans (((cell_far (p := ⟨gb386, _, none⟩) NB385_386.out _).trans (hHeld.2.2))))))⟩ (fun hHeld => ?_)
     clear hK K
     refine done_ (done_of HT_.out kf) ?_
     try go_wp2
     refine bodyPost_ret (results_cell_row rfl _ _ gb386 83 #[.bool a0_0, .int .u64 ji39, .int .u64 (Go.bits .or .u64 (ji41) (ji44))] (0, 0) _ rfl (by (with_reducible repeat (first | refine blk_drewN ?_ _ | refine blk_drew ?_ | refine blk_alloc ?_ _)); refine blk_put (cs := #[.bool a0_0, .int .u64 ji39, .int .u64 0]) ?_ 2 _ rfl; (with_reducible repeat (first | refine blk_drewN ?_ _ | refine blk_drew ?_ | refine blk_alloc ?_ _)); refine blk_put (cs := #[.bool a0_0, .int .u64 0, .int .u64 0]) ?_ 1 _ rfl; (with_reducible repeat (first | refine blk_drewN ?_ _ | refine blk_drew ?_ | refine blk_alloc ?_ _)); refine blk_put (cs := #[.bool false, .int .u64 0, .int .u64 0]) ?_ 0 _ rfl; (with_reducible repeat (first | refine blk_drewN ?_ _ | refine blk_drew ?_ | refine blk_alloc ?_ _)); exact BK386.out) Try.underlying83 rfl kf) rfl ?_
     exact ⟨by first | rfl | (simp [errW_none, errW_some] <;> rfl) | (simp only [← hji37, ← hji39, ← hji41, ← hji42, ← hji44]; first | rfl | (simp [errW_none, errW_some] <;> rfl)) | (simp [*, errW_none, errW_some] <;> rfl), bz2 GE385 GE386⟩
    ·rw [if_neg c43] at H
     exact absurd H (by simp)
   ·rw [if_neg c38] at H
    exact absurd H (by simp)
end Go.Proofs.Ytcgcgifndkeeoaa.QSt
