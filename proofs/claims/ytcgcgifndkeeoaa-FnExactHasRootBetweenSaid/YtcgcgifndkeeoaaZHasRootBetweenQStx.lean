import Derived.Test.YtcgcgifndkeeoaaZHasRootBetweenSq
import Derived.Test.YtcgcgifndkeeoaaZHasRootBetweenQStx2
import Derived.Test.YtcgcgifndkeeoaaZHasRootBetweenQStx10
import Derived.Test.YtcgcgifndkeeoaaZHasRootBetweenQStx13
import Derived.Test.YtcgcgifndkeeoaaZHasRootBetweenQStx16
import Derived.Test.YtcgcgifndkeeoaaZHasRootBetweenQStx20
import Derived.Test.YtcgcgifndkeeoaaZHasRootBetweenQStx4
import Derived.Test.YtcgcgifndkeeoaaZHasRootBetweenQStx7
import Derived.Test.YtcgcgifndkeeoaaZHasRootBetweenQStx12
import Derived.Test.YtcgcgifndkeeoaaZHasRootBetweenQStx14
import Derived.Test.YtcgcgifndkeeoaaZHasRootBetweenQStx17
namespace Go.Proofs.Ytcgcgifndkeeoaa.QSt
open Go.RowKit Go.Proofs.YtcgcgifndkeeoaaW.PrintWords Go.Proofs.YtcgcgifndkeeoaaW.PrintLast Go.Proofs.YtcgcgifndkeeoaaW.PrintMore
attribute [local go_sem] max2_int min2_int max_two min_two max_three min_three max_four min_four
set_option linter.unusedVariables false
set_option linter.unusedSimpArgs false
def cmp_Compare_int.f (a0 : Int) (a1 : Int) : Option (Int) := (cmp_isNaN_int.f a0).bind fun t614 => ((cmp_isNaN_int.f a1).bind fun t615 => (if t614 = true then (if t615 = true then (some 0) else (some (-1))) else (if t615 = true then (some 1) else (if a0 < a1 then (some (-1)) else (if a0 > a1 then (some 1) else (some 0))))))
set_option maxHeartbeats 8000000 in
set_option maxRecDepth 100000 in
theorem cmp_Compare_int.calls (a0 : Int) (a1 : Int) (r : Int) (w : World) (h : cmp_Compare_int.f a0 a1 = some r) :
 Calls Try.prog 103 #[.int .i64 a0, .int .i64 a1] w fun e w' => e = .returned (.int .i64 r) ∧ Drawn0 w w' := by
 have H : ((cmp_isNaN_int.f a0).bind fun t614 => ((cmp_isNaN_int.f a1).bind fun t615 => (if t614 = true then (if t615 = true then (some 0) else (some (-1))) else (if t615 = true then (some 1) else (if a0 < a1 then (some (-1)) else (if a0 > a1 then (some 1) else (some 0))))))) = some r := h
 clear h
 obtain ⟨t614, A3, H⟩ := bi H
 obtain ⟨t615, A4, H⟩ := bi H
 by_cases c5 : t614 = true
 ·subst c5
  rw [if_pos rfl] at H
  by_cases c6 : t615 = true
  ·subst c6
   rw [if_pos rfl] at H
   obtain rfl := Option.some.inj H
   go_enter Try.func103, Try.ntmps103
   go_wp2_with (first | ((with_reducible refine gate_callee (f := 125) rfl ?_); refine goesL_ (some 8) rfl rfl Try.func125 kf rfl #[.int .i64 a0] rfl sm ?_; (with_reducible refine (cmp_isNaN_int.calls a0 true _ A3.out).mono ?_); rintro e w' ⟨rfl, ⟨nd, rfl⟩⟩; refine ⟨_, rfl, ?_⟩) | ((with_reducible refine gate_callee (f := 125) rfl ?_); refine goesL_ (some 10) rfl rfl Try.func125 kf rfl #[.int .i64 a1] rfl sm ?_; (with_reducible refine (cmp_isNaN_int.calls a1 true _ A4.out).mono ?_); rintro e w' ⟨rfl, ⟨nd, rfl⟩⟩; refine ⟨_, rfl, ?_⟩))
   go_ret
   exact ⟨sr, dz⟩
  ·replace c6 := Bool.eq_false_iff.mpr c6
   subst c6
   rw [if_neg (show ¬ (false = true) by decide)] at H
   obtain rfl := Option.some.inj H
   go_enter Try.func103, Try.ntmps103
   go_wp2_with (first | ((with_reducible refine gate_callee (f := 125) rfl ?_); refine goesL_ (some 8) rfl rfl Try.func125 kf rfl #[.int .i64 a0] rfl sm ?_; (with_reducible refine (cmp_isNaN_int.calls a0 true _ A3.out).mono ?_); rintro e w' ⟨rfl, ⟨nd, rfl⟩⟩; refine ⟨_, rfl, ?_⟩) | ((with_reducible refine gate_callee (f := 125) rfl ?_); refine goesL_ (some 10) rfl rfl Try.func125 kf rfl #[.int .i64 a1] rfl sm ?_; (with_reducible refine (cmp_isNaN_int.calls a1 false _ A4.out).mono ?_); rintro e w' ⟨rfl, ⟨nd, rfl⟩⟩; refine ⟨_, rfl, ?_⟩))
   go_ret
   exact ⟨sr, dz⟩
 ·replace c5 := Bool.eq_false_iff.mpr c5
  subst c5
  rw [if_neg (show ¬ (false = true) by decide)] at H
  by_cases c7 : t615 = true
  ·subst c7
   rw [if_pos rfl] at H
   obtain rfl := Option.some.inj H
   go_enter Try.func103, Try.ntmps103
   go_wp2_with (first | ((with_reducible refine gate_callee (f := 125) rfl ?_); refine goesL_ (some 8) rfl rfl Try.func125 kf rfl #[.int .i64 a0] rfl sm ?_; (with_reducible refine (cmp_isNaN_int.calls a0 false _ A3.out).mono ?_); rintro e w' ⟨rfl, ⟨nd, rfl⟩⟩; refine ⟨_, rfl, ?_⟩) | ((with_reducible refine gate_callee (f := 125) rfl ?_); refine goesL_ (some 10) rfl rfl Try.func125 kf rfl #[.int .i64 a1] rfl sm ?_; (with_reducible refine (cmp_isNaN_int.calls a1 true _ A4.out).mono ?_); rintro e w' ⟨rfl, ⟨nd, rfl⟩⟩; refine ⟨_, rfl, ?_⟩))
   go_ret
   exact ⟨sr, dz⟩
  ·replace c7 := Bool.eq_false_iff.mpr c7
   subst c7
   rw [if_neg (show ¬ (false = true) by decide)] at H
   by_cases c8 : a0 < a1
   ·rw [if_pos c8] at H
    have c8b0 : decide (a0 < a1) = true := decide_eq_true c8
    clear c8
    obtain rfl := Option.some.inj H
    go_enter Try.func103, Try.ntmps103
    go_wp2_with (first | ((with_reducible refine gate_callee (f := 125) rfl ?_); refine goesL_ (some 8) rfl rfl Try.func125 kf rfl #[.int .i64 a0] rfl sm ?_; (with_reducible refine (cmp_isNaN_int.calls a0 false _ A3.out).mono ?_); rintro e w' ⟨rfl, ⟨nd, rfl⟩⟩; refine ⟨_, rfl, ?_⟩) | ((with_reducible refine gate_callee (f := 125) rfl ?_); refine goesL_ (some 10) rfl rfl Try.func125 kf rfl #[.int .i64 a1] rfl sm ?_; (with_reducible refine (cmp_isNaN_int.calls a1 false _ A4.out).mono ?_); rintro e w' ⟨rfl, ⟨nd, rfl⟩⟩; refine ⟨_, rfl, ?_⟩))
    go_ret
    exact ⟨sr, dz⟩
   ·rw [if_neg c8] at H
    have c8b0 : decide (a0 < a1) = false := decide_eq_false c8
    clear c8
    by_cases c9 : a0 > a1
    ·rw [if_pos c9] at H
     have c9b0 : decide (a1 < a0) = true := decide_eq_true c9
     clear c9
     obtain rfl := Option.some.inj H
     go_enter Try.func103, Try.ntmps103
     go_wp2_with (first | ((with_reducible refine gate_callee (f := 125) rfl ?_); refine goesL_ (some 8) rfl rfl Try.func125 kf rfl #[.int .i64 a0] rfl sm ?_; (with_reducible refine (cmp_isNaN_int.calls a0 false _ A3.out).mono ?_); rintro e w' ⟨rfl, ⟨nd, rfl⟩⟩; refine ⟨_, rfl, ?_⟩) | ((with_reducible refine gate_callee (f := 125) rfl ?_); refine goesL_ (some 10) rfl rfl Try.func125 kf rfl #[.int .i64 a1] rfl sm ?_; (with_reducible refine (cmp_isNaN_int.calls a1 false _ A4.out).mono ?_); rintro e w' ⟨rfl, ⟨nd, rfl⟩⟩; refine ⟨_, rfl, ?_⟩))
     go_ret
     exact ⟨sr, dz⟩
    ·rw [if_neg c9] at H
     have c9b0 : decide (a1 < a0) = false := decide_eq_false c9
     clear c9
     obtain rfl := Option.some.inj H
     go_enter Try.func103, Try.ntmps103
     go_wp2_with (first | ((with_reducible refine gate_callee (f := 125) rfl ?_); refine goesL_ (some 8) rfl rfl Try.func125 kf rfl #[.int .i64 a0] rfl sm ?_; (with_reducible refine (cmp_isNaN_int.calls a0 false _ A3.out).mono ?_); rintro e w' ⟨rfl, ⟨nd, rfl⟩⟩; refine ⟨_, rfl, ?_⟩) | ((with_reducible refine gate_callee (f := 125) rfl ?_); refine goesL_ (some 10) rfl rfl Try.func125 kf rfl #[.int .i64 a1] rfl sm ?_; (with_reducible refine (cmp_isNaN_int.calls a1 false _ A4.out).mono ?_); rintro e w' ⟨rfl, ⟨nd, rfl⟩⟩; refine ⟨_, rfl, ?_⟩))
     go_ret
     exact ⟨sr, dz⟩
def impl_changes.l0 : Nat → Int → Int → List Int → Int → Int → Option (Int)
 | 0, _, _, _, _, _ => none
 | k + 1, x3, x4, x8, x9, x10 => if x10 < x9 then (if 0 ≤ x10 then (if x10 < (x8.length : Int) then ((cmp_Compare_int.f (rd x8 x10) 0).bind fun t617 => (if t617 = 0 then (impl_changes.l0 k x3 x4 x8 x9 (wrap64 (x10 + 1))) else (if t617 = (wrap64 (-x4)) then (impl_changes.l0 k (wrap64 (x3 + 1)) t617 x8 x9 (wrap64 (x10 + 1))) else (impl_changes.l0 k x3 t617 x8 x9 (wrap64 (x10 + 1)))))) else (none)) else (none)) else (some x3)
def impl_changes.f (k : Nat) (l0 : List Int) : Option (Int) := impl_changes.l0 k 0 0 l0 (l0.length : Int) 0
set_option maxHeartbeats 8000000 in
set_option maxRecDepth 100000 in
theorem impl_changes.calls (k : Nat) (A0 : Option Addr) (c0 : Nat) (l0 : List Int) (r : Int) (w : World) (hr0 : Kd.C (Kd.int .i64) w A0 l0.length l0) (hc0 : l0.length ≤ c0) (h : impl_changes.f k l0 = some r) :
 Calls Try.prog 71 #[.slice A0 l0.length c0] w fun e w' => e = .returned (.int .i64 r) ∧ Drawn0 w w' := by
 have HR0 := Aside0.mk hr0
 have HC0 := Aside0.mk hc0
 clear hr0 hc0
 have H : (impl_changes.l0 k 0 0 l0 (l0.length : Int) 0) = some r := h
 clear h
 have H' := Aside0.mk H
 clear H
 go_enter Try.func71, Try.ntmps71
 go_wp2
 go_loopg [3, 4, 10] k (fun kq v3 v4 v10 w' => ∃ (x3_1 : Int) (x4_1 : Int) (x10_1 : Int), v3 = .int .i64 x3_1 ∧ v4 = .int .i64 x4_1 ∧ v10 = .int .i64 x10_1 ∧ Aside0 (impl_changes.l0 kq x3_1 x4_1 l0 (l0.length : Int) x10_1 = some r) ∧ Aside0 (kq ≤ k) ∧ Drawn0 w w')
 case atStart => exact ⟨(0), (0), (0), sr, sr, sr, H', ⟨Nat.le_refl _⟩, dz⟩
 case round =>
  clear H'
  obtain ⟨x3_1, x4_1, x10_1, rfl, rfl, rfl, HA, HK1, ⟨m1, rfl⟩⟩ := hrel
  cases gk with
  | zero => exact absurd HA.out (by simp [impl_changes.l0])
  | succ k1 =>
   have H := HA.out
   clear HA
   simp only [impl_changes.l0] at H
   by_cases c2 : x10_1 < (l0.length : Int)
   ·rw [if_pos c2] at H
    have c2b0 : decide (x10_1 < (l0.length : Int)) = true := decide_eq_true c2
    clear c2
    by_cases c3 : 0 ≤ x10_1
    ·rw [if_pos c3] at H
     have c3b0 : decide (0 ≤ x10_1) = true := decide_eq_true c3
     clear c3
     by_cases c4 : x10_1 < (l0.length : Int)
     ·rw [if_pos c4] at H
      have c4b0 : decide (x10_1 < (l0.length : Int)) = true := decide_eq_true c4
      clear c4
      obtain ⟨t617, A5, H⟩ := bi H
      by_cases c6 : t617 = 0
      ·rw [if_pos c6] at H
       have c6b0 : (t617 == 0) = true := beq_iff_eq.mpr c6
       have c6b1 : (t617 != 0) = false := bne_eq_false_iff_eq.mpr c6
       clear c6
       have H' := Aside0.mk H
       clear H
       have p616 : 0 ≤ (x10_1 : Int) := of_decide_eq_true am
       have q616 : x10_1 < (l0.length : Int) := of_decide_eq_true am
       obtain ⟨ad616, e616, hx616_0⟩ := Kd.at_int HR0.out x10_1 p616 q616
       cases e616
       replace p616 := eq_true p616
       replace q616 := eq_true q616
       go_wp2_with (first | ((with_reducible refine gate_callee (f := 103) rfl ?_); refine goesL_ (some 15) rfl rfl Try.func103 kf rfl #[.int .i64 (rd l0 x10_1), .int .i64 0] rfl sm ?_; (with_reducible refine (cmp_Compare_int.calls (rd l0 x10_1) 0 t617 _ A5.out).mono ?_); rintro e w' ⟨rfl, ⟨nd, rfl⟩⟩; refine ⟨_, rfl, ?_⟩))
       go_roundg k1
       case measure => have := HK1.out; omega
       case rel => exact ⟨(x3_1), (x4_1), (wrap64 (x10_1 + 1)), sr, sr, sr, H', ⟨by have := HK1.out; omega⟩, dz⟩
      ·rw [if_neg c6] at H
       have c6b0 : (t617 == 0) = false := beq_eq_false_iff_ne.mpr c6
       have c6b1 : (t617 != 0) = true := bne_iff_ne.mpr c6
       by_cases c7 : t617 = (wrap64 (-x4_1))
       ·rw [if_pos c7] at H
        have c7b0 : (t617 == (wrap64 (-x4_1))) = true := beq_iff_eq.mpr c7
        have c7b1 : (t617 != (wrap64 (-x4_1))) = false := bne_eq_false_iff_eq.mpr c7
        clear c7
        have H' := Aside0.mk H
        clear H
        have p616 : 0 ≤ (x10_1 : Int) := of_decide_eq_true am
        have q616 : x10_1 < (l0.length : Int) := of_decide_eq_true am
        obtain ⟨ad616, e616, hx616_0⟩ := Kd.at_int HR0.out x10_1 p616 q616
        cases e616
        replace p616 := eq_true p616
        replace q616 := eq_true q616
        go_wp2_with (first | ((with_reducible refine gate_callee (f := 103) rfl ?_); refine goesL_ (some 15) rfl rfl Try.func103 kf rfl #[.int .i64 (rd l0 x10_1), .int .i64 0] rfl sm ?_; (with_reducible refine (cmp_Compare_int.calls (rd l0 x10_1) 0 t617 _ A5.out).mono ?_); rintro e w' ⟨rfl, ⟨nd, rfl⟩⟩; refine ⟨_, rfl, ?_⟩))
        go_roundg k1
        case measure => have := HK1.out; omega
        case rel => exact ⟨(wrap64 (x3_1 + 1)), (t617), (wrap64 (x10_1 + 1)), sr, sr, sr, H', ⟨by have := HK1.out; omega⟩, dz⟩
       ·rw [if_neg c7] at H
        have c7b0 : (t617 == (wrap64 (-x4_1))) = false := beq_eq_false_iff_ne.mpr c7
        have c7b1 : (t617 != (wrap64 (-x4_1))) = true := bne_iff_ne.mpr c7
        have H' := Aside0.mk H
        clear H
        have p616 : 0 ≤ (x10_1 : Int) := of_decide_eq_true am
        have q616 : x10_1 < (l0.length : Int) := of_decide_eq_true am
        obtain ⟨ad616, e616, hx616_0⟩ := Kd.at_int HR0.out x10_1 p616 q616
        cases e616
        replace p616 := eq_true p616
        replace q616 := eq_true q616
        go_wp2_with (first | ((with_reducible refine gate_callee (f := 103) rfl ?_); refine goesL_ (some 15) rfl rfl Try.func103 kf rfl #[.int .i64 (rd l0 x10_1), .int .i64 0] rfl sm ?_; (with_reducible refine (cmp_Compare_int.calls (rd l0 x10_1) 0 t617 _ A5.out).mono ?_); rintro e w' ⟨rfl, ⟨nd, rfl⟩⟩; refine ⟨_, rfl, ?_⟩))
        go_roundg k1
        case measure => have := HK1.out; omega
        case rel => exact ⟨(x3_1), (t617), (wrap64 (x10_1 + 1)), sr, sr, sr, H', ⟨by have := HK1.out; omega⟩, dz⟩
     ·rw [if_neg c4] at H
      exact absurd H (by simp)
    ·rw [if_neg c3] at H
     exact absurd H (by simp)
   ·rw [if_neg c2] at H
    have c2b0 : decide (x10_1 < (l0.length : Int)) = false := decide_eq_false c2
    clear c2
    obtain rfl := Option.some.inj H
    go_wp2
    go_ret
    exact ⟨sr, dz⟩
def impl_countRoots.f (k : Nat) (l0 : List Int) (a1_0 : Int) (a1_1 : Int) (a2_0 : Int) (a2_1 : Int) : Option (Int × Bool) := (impl_sturmChain.f k l0).bind fun bt620 => (if bt620.2 = true then ((impl_signsOfChain.f k bt620.1 a1_0 a1_1).bind fun t624 => ((impl_changes.f k t624).bind fun t627 => ((impl_signsOfChain.f k bt620.1 a2_0 a2_1).bind fun t628 => ((impl_changes.f k t628).bind fun t631 => (some (wrap64 (t627 - t631), true)))))) else (some (0, false)))
def impl_countRoots.T4 : Bool × List (List Nat × List Nat) := (true, [([], []), ([], []), ([0, 1], [0, 1]), ([2, 2], [2]), ([], []), ([], []), ([4, 5, 3], [4, 5]), ([6, 6], [6]), ([3, 7], [3, 7]), ([8, 7, 0, 1, 2, 3, 4, 5, 6, 7, 8], [8]), ([9, 0, 1, 2, 3, 4, 5, 6, 7, 8, 9], [])])
def impl_countRoots.B4 : List Nat := [0, 0, 3, 7, 0, 0, 63, 127, 255, 511, 1023]
theorem impl_countRoots.tab4 : rtab .any (opsOf Try.f75 4) = impl_countRoots.T4 := by kernel_rfl
theorem impl_countRoots.bits4 : waitsOk impl_countRoots.T4.2 impl_countRoots.B4 = true := by kernel_rfl
set_option maxHeartbeats 8000000 in
set_option maxRecDepth 100000 in
theorem impl_countRoots.calls (k : Nat) (A0 : Option Addr) (c0 : Nat) (l0 : List Int) (a1_0 : Int) (a1_1 : Int) (a2_0 : Int) (a2_1 : Int) (r1 : Int) (r2 : Bool) (w : World) (hr0 : Kd.C (Kd.int .i64) w A0 l0.length l0) (hc0 : l0.length ≤ c0) (h : impl_countRoots.f k l0 a1_0 a1_1 a2_0 a2_1 = some (r1, r2)) :
 Calls Try.prog 75 #[.slice A0 l0.length c0, .agg #[.int .i64 a1_0, .int .i64 a1_1], .agg #[.int .i64 a2_0, .int .i64 a2_1]] w fun e w' => e = .returned (.tuple #[.int .i64 r1, .bool r2]) ∧ Below w.heap.size w w' := by
 have hu28 := Try.underlying28
 have HR0 := Aside0.mk hr0
 have HC0 := Aside0.mk hc0
 clear hr0 hc0
 have HB := Aside0.mk (Below.refl w.heap.size w)
 have H : ((impl_sturmChain.f k l0).bind fun bt620 => (if bt620.2 = true then ((impl_signsOfChain.f k bt620.1 a1_0 a1_1).bind fun t624 => ((impl_changes.f k t624).bind fun t627 => ((impl_signsOfChain.f k bt620.1 a2_0 a2_1).bind fun t628 => ((impl_changes.f k t628).bind fun t631 => (some (wrap64 (t627 - t631), true)))))) else (some (0, false)))) = some (r1, r2) := h
 clear h
 obtain ⟨⟨t620, t623⟩, A4, H⟩ := bi H
 try dsimp only at H
 by_cases c5 : t623 = true
 ·subst c5
  rw [if_pos rfl] at H
  obtain ⟨t624, A6, H⟩ := bi H
  obtain ⟨t627, A7, H⟩ := bi H
  obtain ⟨t628, A8, H⟩ := bi H
  obtain ⟨t631, A9, H⟩ := bi H
  simp only [Option.some.injEq, Prod.mk.injEq] at H
  obtain ⟨rfl, rfl⟩ := H
  go_enter Try.func75, Try.ntmps75
  try go_wp2_with (first | ((with_reducible refine gate_dst (N := 4) rfl ?_); refine bv (N := 4) (cs := #[.int .i64 a1_0, .int .i64 a1_1]) (t := 28) ?_; intro gb618 hg w10 hbox hb; have n0_ := Aside0.mk (below_step bz hb); have n1_ := Aside0.mk (hbox); have n2_ := (gz hg : Aside0 (w.heap.size ≤ _)); have n3_ := (gz hg : Aside0 (w.heap.size ≤ _)); clear HB; have HB := n0_; have BK618 := n1_; have GW618 := n2_; have GE618 := n3_; clear n0_ n1_ n2_ n3_; clear hb hbox hg) | ((with_reducible refine gate_dst (N := 5) rfl ?_); refine bv (N := 5) (cs := #[.int .i64 a2_0, .int .i64 a2_1]) (t := 28) ?_; intro gb619 hg w11 hbox hb; have n0_ := bb BK618 hb; have n1_ := Aside0.mk (below_step (bz1 GE618) hb); have n2_ := Aside0.mk (hbox); have n3_ := Aside0.mk ((by rw [hg]; exact (below_size (bz1 GE618)) : w.heap.size ≤ gb619)); have n4_ := Aside0.mk ((by rw [hg]; exact (below_size (bz1 GE618)) : w.heap.size ≤ gb619)); have n5_ := Aside0.mk ((by rw [hg]; exact Nat.ne_of_lt (blk_lt (g := gb618) (o := .cells #[.int .i64 a1_0, .int .i64 a1_1] 28 (0, 0)) (bk BK618)) : gb618 ≠ gb619)); have n6_ := Aside0.mk ((by rw [hg]; exact Nat.ne_of_gt (blk_lt (g := gb618) (o := .cells #[.int .i64 a1_0, .int .i64 a1_1] 28 (0, 0)) (bk BK618)) : gb619 ≠ gb618)); clear BK618; clear HB; have BK618 := n0_; have HB := n1_; have BK619 := n2_; have GW619 := n3_; have GE619 := n4_; have NB618_619 := n5_; have NB619_618 := n6_; clear n0_ n1_ n2_ n3_ n4_ n5_ n6_; clear hb hbox hg) | ((with_reducible refine gate_callee (f := 64) rfl ?_); refine goesL_ (some 12) rfl rfl Try.func64 kf rfl #[.slice A0 l0.length c0] rfl sm ?_; (with_reducible refine (impl_sturmChain.calls k _ _ l0 t620 true _ ?side1 ?side2 A4.out).mono ?_); (case side1 => exact cb HR0); (case side2 => exact HC0.out); rintro e w12 ⟨v621, rfl, ho0, hb⟩; refine ⟨_, rfl, ?_⟩; have n0_ := Aside0.mk (Kd.N_lower (Kd.N_mono (ok' := fun k_ => k_ ≠ gb618 ∧ k_ ≠ gb619) ho0 (fun k_ hk_ => ⟨(Kd.freshB (g := gb618) (o := .cells #[.int .i64 a1_0, .int .i64 a1_1] 28 (0, 0)) (bk BK618) k_ hk_), (Kd.freshB (g := gb619) (o := .cells #[.int .i64 a2_0, .int .i64 a2_1] 28 (0, 0)) (bk BK619) k_ hk_)⟩)) (below_size (bz2 GE618 GE619))); have n1_ := bb BK618 hb; have n2_ := bb BK619 hb; have n3_ := Aside0.mk (below_step (bz2 GE618 GE619) hb); clear BK618; clear BK619; clear HB; have HO622 := n0_; have BK618 := n1_; have BK619 := n2_; have HB := n3_; clear n0_ n1_ n2_ n3_; (try clear hb); (try clear hb2); (try clear hk); (try clear hi); (try clear ho0)))
  have n0_ := Aside0.mk (Kd.N_drew HO622.out)
  have n1_ := Aside0.mk (blk_drew BK618.out)
  have n2_ := Aside0.mk (blk_drew BK619.out)
  have n3_ := Aside0.mk (below_drew1 HB.out)
  clear HO622 BK618 BK619 HB
  have HO622 := n0_
  have BK618 := n1_
  have BK619 := n2_
  have HB := n3_
  clear n0_ n1_ n2_ n3_
  obtain ⟨Ao14, co14, eo14⟩ := Kd.N_slice HO622.out
  (first | subst eo14 | (injection eo14 with f1_ f2_ f3_; have f4_ := f1_.symm; have f5_ := f3_.symm; clear f1_ f2_ f3_; subst f4_; subst f5_))
  refine start_ (n := 11) (S := fun w' => w'.cell? ⟨gb618, 0, none⟩ = some (.int .i64 a1_0) ∧ w'.cell? ⟨gb618, 1, none⟩ = some (.int .i64 a1_1) ∧ w'.cell? ⟨gb619, 0, none⟩ = some (.int .i64 a2_0) ∧ w'.cell? ⟨gb619, 1, none⟩ = some (.int .i64 a2_1)) (ds := []) #[fF, fF, fF, fF, fF, fF, fF, fF, fF, fF, fF] kf rfl rfl ⟨(blk_cell BK618.out 0).trans rfl, (blk_cell BK618.out 1).trans rfl, (blk_cell BK619.out 0).trans rfl, (blk_cell BK619.out 1).trans rfl⟩ (fun hHeld => ?_); refine with_tabW impl_countRoots.tab4 impl_countRoots.bits4 (fun HT_ HW_ => ?_)
  generalize w12.drew = w13 at HO622 BK618 BK619 HB hHeld ⊢
  refine pq (i := 0) (N := some 17) #[tT, fF, fF, fF, fF, fF, fF, fF, fF, fF, fF] rfl rfl HT_.out ?_
  refine pq (i := 4) (N := some 21) #[tT, fF, fF, fF, tT, fF, fF, fF, fF, fF, fF] rfl rfl HT_.out ?_
  refine tq4 (i := 1) (N := some 18) #[tT, tT, fF, fF, tT, fF, fF, fF, fF, fF, fF] rfl rfl HT_.out HW_.out hHeld ?_
  refine tq4 (i := 5) (N := some 22) #[tT, tT, fF, fF, tT, tT, fF, fF, fF, fF, fF] rfl rfl HT_.out HW_.out hHeld ?_
  refine one_ (i := 2) (N := some 19) #[tT, tT, tT, fF, tT, tT, fF, fF, fF, fF, fF] rfl rfl (one_of HT_.out kf) (by decide) (fun K hK => ?_)
  refine goes_ Try.func61 kf rfl #[.slice Ao14 t620.length co14, .agg #[.int .i64 a1_0, .int .i64 a1_1]] (by rfl) rfl rfl sm ?_
  with_reducible refine (impl_signsOfChain.calls k _ _ t620 a1_0 a1_1 t624 _ ?side1 ?side2 A6.out).mono ?_
  (case side1 => exact cn HO622)
  (case side2 => exact (Kd.N_reads' HO622.out).2.1)
  rintro e w15 ⟨v625, rfl, ho0, hb⟩
  refine ⟨_, rfl, ?_⟩
  have n0_ := Aside0.mk (Kd.N_elder' (kn HO622) (Kd.R_base ho0) hb)
  have n1_ := Aside0.mk (Kd.R_lower ho0 (below_size (bz2 GE618 GE619)))
  have n2_ := bb BK618 hb
  have n3_ := bb BK619 hb
  have n4_ := Aside0.mk (below_step (bz2 GE618 GE619) hb)
  clear HO622 BK618 BK619 HB
  have HO622 := n0_
  have HO626 := n1_
  have BK618 := n2_
  have BK619 := n3_
  have HB := n4_
  clear n0_ n1_ n2_ n3_ n4_
  (try clear hb)
  (try clear hb2)
  (try clear hk)
  (try clear hi)
  (try clear ho0)
  obtain ⟨Ao16, co16, eo16⟩ := Kd.R_slice HO626.out
  (first | subst eo16 | (injection eo16 with f1_ f2_ f3_; have f4_ := f1_.symm; have f5_ := f3_.symm; clear f1_ f2_ f3_; subst f4_; subst f5_))
  refine hK.out _ _ ⟨(blk_cell BK618.out 0).trans rfl, (blk_cell BK618.out 1).trans rfl, (blk_cell BK619.out 0).trans rfl, (blk_cell BK619.out 1).trans rfl⟩ (fun hHeld => ?_)
  clear hK K
  refine norm_ (a' := ?_) ?_ ?_
  rotate_left
  ·show Act.put _ (some 19) _ = _
   simp only [Act.put, List.setIfInBounds_toArray, List.set_cons_zero, List.set_cons_succ, i64_w, i32_w]
   rfl
  refine one_ (i := 3) (N := some 20) #[tT, tT, tT, tT, tT, tT, fF, fF, fF, fF, fF] rfl rfl (one_of HT_.out kf) (by decide) (fun K hK => ?_)
  refine goes_ Try.func71 kf rfl #[.slice Ao16 t624.length co16] (by rfl) rfl rfl sm ?_
  with_reducible refine (impl_changes.calls k _ _ t624 t627 _ ?side1 ?side2 A7.out).mono ?_
  (case side1 => exact cr HO626)
  (case side2 => exact (Kd.R_reads' HO626.out).2.1)
  rintro e w' ⟨rfl, ⟨nd, rfl⟩⟩
  refine ⟨_, rfl, ?_⟩
  refine hK.out _ _ ⟨(blk_cell BK618.out 0).trans rfl, (blk_cell BK618.out 1).trans rfl, (blk_cell BK619.out 0).trans rfl, (blk_cell BK619.out 1).trans rfl⟩ (fun hHeld => ?_)
  clear hK K
  refine norm_ (a' := ?_) ?_ ?_
  rotate_left
  ·show Act.put _ (some 20) _ = _
   simp only [Act.put, List.setIfInBounds_toArray, List.set_cons_zero, List.set_cons_succ, i64_w, i32_w]
   rfl
  refine one_ (i := 6) (N := some 23) #[tT, tT, tT, tT, tT, tT, tT, fF, fF, fF, fF] rfl rfl (one_of HT_.out kf) (by decide) (fun K hK => ?_)
  refine goes_ Try.func61 kf rfl #[.slice Ao14 t620.length co14, .agg #[.int .i64 a2_0, .int .i64 a2_1]] (by rfl) rfl rfl sm ?_
  with_reducible refine (impl_signsOfChain.calls k _ _ t620 a2_0 a2_1 t628 _ ?side1 ?side2 A8.out).mono ?_
  (case side1 => exact cn HO622)
  (case side2 => exact (Kd.N_reads' HO622.out).2.1)
  rintro e w17 ⟨v629, rfl, ho0, hb⟩
  refine ⟨_, rfl, ?_⟩
  have n0_ := Aside0.mk (Kd.N_elder' (kn HO622) (Kd.R_base ho0) hb)
  have n1_ := Aside0.mk (Kd.R_elder' (kr HO626) (Kd.R_base ho0) hb)
  have n2_ := Aside0.mk (Kd.R_lower (Kd.R_new' ho0 (Kd.R_lt (kr HO626))) (below_size (bz2 GE618 GE619)))
  have n3_ := bb BK618 hb
  have n4_ := bb BK619 hb
  have n5_ := Aside0.mk (below_step (bz2 GE618 GE619) hb)
  clear HO622 HO626 BK618 BK619 HB
  have HO622 := n0_
  have HO626 := n1_
  have HO630 := n2_
  have BK618 := n3_
  have BK619 := n4_
  have HB := n5_
  clear n0_ n1_ n2_ n3_ n4_ n5_
  (try clear hb)
  (try clear hb2)
  (try clear hk)
  (try clear hi)
  (try clear ho0)
  obtain ⟨Ao18, co18, eo18⟩ := Kd.R_slice HO630.out
  (first | subst eo18 | (injection eo18 with f1_ f2_ f3_; have f4_ := f1_.symm; have f5_ := f3_.symm; clear f1_ f2_ f3_; subst f4_; subst f5_))
  refine hK.out _ _ ⟨(blk_cell BK618.out 0).trans rfl, (blk_cell BK618.out 1).trans rfl, (blk_cell BK619.out 0).trans rfl, (blk_cell BK619.out 1).trans rfl⟩ (fun hHeld => ?_)
  clear hK K
  refine norm_ (a' := ?_) ?_ ?_
  rotate_left
  ·show Act.put _ (some 23) _ = _
   simp only [Act.put, List.setIfInBounds_toArray, List.set_cons_zero, List.set_cons_succ, i64_w, i32_w]
   rfl
  refine one_ (i := 7) (N := some 24) #[tT, tT, tT, tT, tT, tT, tT, tT, fF, fF, fF] rfl rfl (one_of HT_.out kf) (by decide) (fun K hK => ?_)
  refine goes_ Try.func71 kf rfl #[.slice Ao18 t628.length co18] (by rfl) rfl rfl sm ?_
  with_reducible refine (impl_changes.calls k _ _ t628 t631 _ ?side1 ?side2 A9.out).mono ?_
  (case side1 => exact cr HO630)
  (case side2 => exact (Kd.R_reads' HO630.out).2.1)
  rintro e w' ⟨rfl, ⟨nd, rfl⟩⟩
  refine ⟨_, rfl, ?_⟩
  refine hK.out _ _ ⟨(blk_cell BK618.out 0).trans rfl, (blk_cell BK618.out 1).trans rfl, (blk_cell BK619.out 0).trans rfl, (blk_cell BK619.out 1).trans rfl⟩ (fun hHeld => ?_)
  clear hK K
  refine norm_ (a' := ?_) ?_ ?_
  rotate_left
  ·show Act.put _ (some 24) _ = _
   simp only [Act.put, List.setIfInBounds_toArray, List.set_cons_zero, List.set_cons_succ, i64_w, i32_w]
   rfl
  refine pq (i := 8) (N := some 25) #[tT, tT, tT, tT, tT, tT, tT, tT, tT, fF, fF] rfl rfl HT_.out ?_
  refine pq (i := 9) (N := some 6) #[tT, tT, tT, tT, tT, tT, tT, tT, tT, tT, fF] rfl rfl HT_.out ?_
  refine pq (i := 10) (N := some 7) #[tT, tT, tT, tT, tT, tT, tT, tT, tT, tT, tT] rfl rfl HT_.out ?_
  refine done_ (done_of HT_.out kf) ?_
  try go_wp2
  go_ret2
  exact ⟨er, bz2 GE618 GE619⟩
 ·replace c5 := Bool.eq_false_iff.mpr c5
  subst c5
  rw [if_neg (show ¬ (false = true) by decide)] at H
  simp only [Option.some.injEq, Prod.mk.injEq] at H
  obtain ⟨rfl, rfl⟩ := H
  go_enter Try.func75, Try.ntmps75
  go_wp2_with (first | ((with_reducible refine gate_dst (N := 4) rfl ?_); refine bv (N := 4) (cs := #[.int .i64 a1_0, .int .i64 a1_1]) (t := 28) ?_; intro gb618 hg w19 hbox hb; have n0_ := Aside0.mk (below_step bz hb); have n1_ := Aside0.mk (hbox); have n2_ := (gz hg : Aside0 (w.heap.size ≤ _)); have n3_ := (gz hg : Aside0 (w.heap.size ≤ _)); clear HB; have HB := n0_; have BK618 := n1_; have GW618 := n2_; have GE618 := n3_; clear n0_ n1_ n2_ n3_; clear hb hbox hg) | ((with_reducible refine gate_dst (N := 5) rfl ?_); refine bv (N := 5) (cs := #[.int .i64 a2_0, .int .i64 a2_1]) (t := 28) ?_; intro gb619 hg w20 hbox hb; have n0_ := bb BK618 hb; have n1_ := Aside0.mk (below_step (bz1 GE618) hb); have n2_ := Aside0.mk (hbox); have n3_ := Aside0.mk ((by rw [hg]; exact (below_size (bz1 GE618)) : w.heap.size ≤ gb619)); have n4_ := Aside0.mk ((by rw [hg]; exact (below_size (bz1 GE618)) : w.heap.size ≤ gb619)); have n5_ := Aside0.mk ((by rw [hg]; exact Nat.ne_of_lt (blk_lt (g := gb618) (o := .cells #[.int .i64 a1_0, .int .i64 a1_1] 28 (0, 0)) (bk BK618)) : gb618 ≠ gb619)); have n6_ := Aside0.mk ((by rw [hg]; exact Nat.ne_of_gt (blk_lt (g := gb618) (o := .cells #[.int .i64 a1_0, .int .i64 a1_1] 28 (0, 0)) (bk BK618)) : gb619 ≠ gb618)); clear BK618; clear HB; have BK618 := n0_; have HB := n1_; have BK619 := n2_; have GW619 := n3_; have GE619 := n4_; have NB618_619 := n5_; have NB619_618 := n6_; clear n0_ n1_ n2_ n3_ n4_ n5_ n6_; clear hb hbox hg) | ((with_reducible refine gate_callee (f := 64) rfl ?_); refine goesL_ (some 12) rfl rfl Try.func64 kf rfl #[.slice A0 l0.length c0] rfl sm ?_; (with_reducible refine (impl_sturmChain.calls k _ _ l0 t620 false _ ?side1 ?side2 A4.out).mono ?_); (case side1 => exact cb HR0); (case side2 => exact HC0.out); rintro e w21 ⟨v621, rfl, ho0, hb⟩; refine ⟨_, rfl, ?_⟩; have n0_ := Aside0.mk (Kd.N_lower (Kd.N_mono (ok' := fun k_ => k_ ≠ gb618 ∧ k_ ≠ gb619) ho0 (fun k_ hk_ => ⟨(Kd.freshB (g := gb618) (o := .cells #[.int .i64 a1_0, .int .i64 a1_1] 28 (0, 0)) (bk BK618) k_ hk_), (Kd.freshB (g := gb619) (o := .cells #[.int .i64 a2_0, .int .i64 a2_1] 28 (0, 0)) (bk BK619) k_ hk_)⟩)) (below_size (bz2 GE618 GE619))); have n1_ := bb BK618 hb; have n2_ := bb BK619 hb; have n3_ := Aside0.mk (below_step (bz2 GE618 GE619) hb); clear BK618; clear BK619; clear HB; have HO622 := n0_; have BK618 := n1_; have BK619 := n2_; have HB := n3_; clear n0_ n1_ n2_ n3_; (try clear hb); (try clear hb2); (try clear hk); (try clear hi); (try clear ho0)))
  go_ret2
  exact ⟨er, bz2 GE618 GE619⟩
def spec_HasRootBetween.j0 : Nat → List Int → Bool → Int → Int → Int → Int → Option (Bool × Bool)
 | 0, _, _, _, _, _, _ => none
 | k + 1, x0, x28, x691000, x691001, x692000, x692001 => if x28 = true then (some (false, false)) else ((spec_stCount.f k x0 x691000 x691001 x692000 x692001).bind fun bt696 => (if bt696.2 = true then (if bt696.1 > 0 then (some (true, true)) else ((spec_stSign.f k x0 x691000 x691001).bind fun t698 => (some ((t698 == 0), true)))) else (some (false, false))))
def spec_HasRootBetween.f (k : Nat) (l0 : List Int) (a1_0 : Int) (a1_1 : Int) (a2_0 : Int) (a2_1 : Int) : Option (Bool × Bool) := (spec_stAsked.f k l0).bind fun t692 => (if t692 = true then ((spec_stMark.f a1_0 a1_1).bind fun t693 => (if t693 = true then ((spec_stMark.f a2_0 a2_1).bind fun t694 => (if t694 = true then ((spec_dyCmp.f k a1_0 a1_1 a2_0 a2_1).bind fun t695 => (spec_HasRootBetween.j0 k l0 (decide (t695 > 0)) a1_0 a1_1 a2_0 a2_1)) else (spec_HasRootBetween.j0 k l0 true a1_0 a1_1 a2_0 a2_1))) else (spec_HasRootBetween.j0 k l0 true a1_0 a1_1 a2_0 a2_1))) else (spec_HasRootBetween.j0 k l0 true a1_0 a1_1 a2_0 a2_1))
set_option maxHeartbeats 8000000 in
set_option maxRecDepth 100000 in
theorem spec_HasRootBetween.calls (k : Nat) (A0 : Option Addr) (c0 : Nat) (l0 : List Int) (a1_0 : Int) (a1_1 : Int) (a2_0 : Int) (a2_1 : Int) (r1 : Bool) (r2 : Bool) (w : World) (hr0 : Kd.C (Kd.int .i64) w A0 l0.length l0) (hc0 : l0.length ≤ c0) (h : spec_HasRootBetween.f k l0 a1_0 a1_1 a2_0 a2_1 = some (r1, r2)) :
 Calls Try.prog 43 #[.slice A0 l0.length c0, .agg #[.int .i64 a1_0, .int .i64 a1_1], .agg #[.int .i64 a2_0, .int .i64 a2_1]] w fun e w' => e = .returned (.tuple #[.bool r1, .bool r2]) ∧ Below w.heap.size w w' := by
 have hu28 := Try.underlying28
 have HR0 := Aside0.mk hr0
 have HC0 := Aside0.mk hc0
 clear hr0 hc0
 have HB := Aside0.mk (Below.refl w.heap.size w)
 have H : ((spec_stAsked.f k l0).bind fun t692 => (if t692 = true then ((spec_stMark.f a1_0 a1_1).bind fun t693 => (if t693 = true then ((spec_stMark.f a2_0 a2_1).bind fun t694 => (if t694 = true then ((spec_dyCmp.f k a1_0 a1_1 a2_0 a2_1).bind fun t695 => (spec_HasRootBetween.j0 k l0 (decide (t695 > 0)) a1_0 a1_1 a2_0 a2_1)) else (spec_HasRootBetween.j0 k l0 true a1_0 a1_1 a2_0 a2_1))) else (spec_HasRootBetween.j0 k l0 true a1_0 a1_1 a2_0 a2_1))) else (spec_HasRootBetween.j0 k l0 true a1_0 a1_1 a2_0 a2_1))) = some (r1, r2) := h
 clear h
 have HC4 := Aside0.mk H
 clear H
 go_enter Try.func43, Try.ntmps43
 go_upto_region 1 with (first | ((with_reducible refine gate_dst (N := 4) rfl ?_); refine bv (N := 4) (cs := #[.int .i64 a1_0, .int .i64 a1_1]) (t := 28) ?_; intro gb690 hg w5 hbox hb; have n0_ := Aside0.mk (below_step bz hb); have n1_ := Aside0.mk (hbox); have n2_ := (gz hg : Aside0 (w.heap.size ≤ _)); have n3_ := (gz hg : Aside0 (w.heap.size ≤ _)); clear HB; have HB := n0_; have BK690 := n1_; have GW690 := n2_; have GE690 := n3_; clear n0_ n1_ n2_ n3_; clear hb hbox hg) | ((with_reducible refine gate_dst (N := 5) rfl ?_); refine bv (N := 5) (cs := #[.int .i64 a2_0, .int .i64 a2_1]) (t := 28) ?_; intro gb691 hg w6 hbox hb; have n0_ := bb BK690 hb; have n1_ := Aside0.mk (below_step (bz1 GE690) hb); have n2_ := Aside0.mk (hbox); have n3_ := Aside0.mk ((by rw [hg]; exact (below_size (bz1 GE690)) : w.heap.size ≤ gb691)); have n4_ := Aside0.mk ((by rw [hg]; exact (below_size (bz1 GE690)) : w.heap.size ≤ gb691)); have n5_ := Aside0.mk ((by rw [hg]; exact Nat.ne_of_lt (blk_lt (g := gb690) (o := .cells #[.int .i64 a1_0, .int .i64 a1_1] 28 (0, 0)) (bk BK690)) : gb690 ≠ gb691)); have n6_ := Aside0.mk ((by rw [hg]; exact Nat.ne_of_gt (blk_lt (g := gb690) (o := .cells #[.int .i64 a1_0, .int .i64 a1_1] 28 (0, 0)) (bk BK690)) : gb691 ≠ gb690)); clear BK690; clear HB; have BK690 := n0_; have HB := n1_; have BK691 := n2_; have GW691 := n3_; have GE691 := n4_; have NB690_691 := n5_; have NB691_690 := n6_; clear n0_ n1_ n2_ n3_ n4_ n5_ n6_; clear hb hbox hg))
 (try simp only [Act.put, List.setIfInBounds_toArray, List.set_cons_zero, List.set_cons_succ])
 go_cut [28] (fun v28 wc => ∃ (kq : Nat) (x28_3 : Bool), v28 = .bool x28_3 ∧ Aside0 (spec_HasRootBetween.j0 kq l0 x28_3 a1_0 a1_1 a2_0 a2_1 = some (r1, r2)) ∧ Aside0 (kq ≤ k) ∧ Aside0 (wc.heap[gb690]? = some (.cells #[.int .i64 a1_0, .int .i64 a1_1] 28 (0, 0))) ∧ Aside0 (wc.heap[gb691]? = some (.cells #[.int .i64 a2_0, .int .i64 a2_1] 28 (0, 0))) ∧ Aside0 (Below w.heap.size w wc))
 case first =>
  have H := HC4.out
  clear HC4
  obtain ⟨t692, A7, H⟩ := bi H
  by_cases c8 : t692 = true
  ·subst c8
   rw [if_pos rfl] at H
   obtain ⟨t693, A9, H⟩ := bi H
   by_cases c10 : t693 = true
   ·subst c10
    rw [if_pos rfl] at H
    obtain ⟨t694, A11, H⟩ := bi H
    by_cases c12 : t694 = true
    ·subst c12
     rw [if_pos rfl] at H
     obtain ⟨t695, A13, H⟩ := bi H
     have H' := Aside0.mk H
     clear H
     go_wp2_with (first | ((with_reducible refine gate_callee (f := 62) rfl ?_); refine goesL_ (some 11) rfl rfl Try.func62 kf rfl #[.slice A0 l0.length c0] rfl sm ?_; (with_reducible refine (spec_stAsked.calls k _ _ l0 true _ ?side1 ?side2 A7.out).mono ?_); (case side1 => exact cb HR0); (case side2 => exact HC0.out); rintro e w' ⟨rfl, ⟨nd, rfl⟩⟩; refine ⟨_, rfl, ?_⟩; have hnb14 := NB690_691.out; have hnc14 := NB691_690.out; have hcz15_0 : w6.cell? ⟨gb690, 0, none⟩ = some (.int .i64 a1_0) := (blk_cell BK690.out 0).trans rfl; have hcz15_1 : w6.cell? ⟨gb690, 1, none⟩ = some (.int .i64 a1_1) := (blk_cell BK690.out 1).trans rfl; have hfz15_0 := blk_frozen BK690.out 0; have hfz15_1 := blk_frozen BK690.out 1) | (go_at_call 46; (with_reducible refine (spec_stMark.calls a1_0 a1_1 true _ A9.out).mono ?_); rintro e w16 ⟨rfl, hb⟩; have n0_ := bb BK690 hb; have n1_ := bb BK691 hb; have n2_ := Aside0.mk (below_step (bz2 GE690 GE691) hb); clear BK690; clear BK691; clear HB; have BK690 := n0_; have BK691 := n1_; have HB := n2_; clear n0_ n1_ n2_; (try clear hb); (try clear hb2); (try clear hk); (try clear hi); have hcz17_0 : w16.cell? ⟨gb691, 0, none⟩ = some (.int .i64 a2_0) := (blk_cell BK691.out 0).trans rfl; have hcz17_1 : w16.cell? ⟨gb691, 1, none⟩ = some (.int .i64 a2_1) := (blk_cell BK691.out 1).trans rfl; have hfz17_0 := blk_frozen BK691.out 0; have hfz17_1 := blk_frozen BK691.out 1) | (go_at_call 46; (with_reducible refine (spec_stMark.calls a2_0 a2_1 true _ A11.out).mono ?_); rintro e w18 ⟨rfl, hb⟩; have n0_ := bb BK690 hb; have n1_ := bb BK691 hb; have n2_ := Aside0.mk (below_step (bz2 GE690 GE691) hb); clear BK690; clear BK691; clear HB; have BK690 := n0_; have BK691 := n1_; have HB := n2_; clear n0_ n1_ n2_; (try clear hb); (try clear hb2); (try clear hk); (try clear hi); have hcz19_0 : w18.cell? ⟨gb690, 0, none⟩ = some (.int .i64 a1_0) := (blk_cell BK690.out 0).trans rfl; have hcz19_1 : w18.cell? ⟨gb690, 1, none⟩ = some (.int .i64 a1_1) := (blk_cell BK690.out 1).trans rfl; have hfz19_0 := blk_frozen BK690.out 0; have hfz19_1 := blk_frozen BK690.out 1; have hcz20_0 : w18.cell? ⟨gb691, 0, none⟩ = some (.int .i64 a2_0) := (blk_cell BK691.out 0).trans rfl; have hcz20_1 : w18.cell? ⟨gb691, 1, none⟩ = some (.int .i64 a2_1) := (blk_cell BK691.out 1).trans rfl; have hfz20_0 := blk_frozen BK691.out 0; have hfz20_1 := blk_frozen BK691.out 1) | (go_at_call 72; (with_reducible refine (spec_dyCmp.calls k a1_0 a1_1 a2_0 a2_1 t695 _ A13.out).mono ?_); rintro e w21 ⟨rfl, hb⟩; have n0_ := bb BK690 hb; have n1_ := bb BK691 hb; have n2_ := Aside0.mk (below_step (bz2 GE690 GE691) hb); clear BK690; clear BK691; clear HB; have BK690 := n0_; have BK691 := n1_; have HB := n2_; clear n0_ n1_ n2_; (try clear hb); (try clear hb2); (try clear hk); (try clear hi)))
     go_meet
     case rel => exact ⟨_, (decide (t695 > 0)), sr, H', ⟨by first | omega | exact Nat.le_refl _⟩, ⟨bk BK690⟩, ⟨bk BK691⟩, ⟨bz2 GE690 GE691⟩⟩
    ·replace c12 := Bool.eq_false_iff.mpr c12
     subst c12
     rw [if_neg (show ¬ (false = true) by decide)] at H
     have H' := Aside0.mk H
     clear H
     go_wp2_with (first | ((with_reducible refine gate_callee (f := 62) rfl ?_); refine goesL_ (some 11) rfl rfl Try.func62 kf rfl #[.slice A0 l0.length c0] rfl sm ?_; (with_reducible refine (spec_stAsked.calls k _ _ l0 true _ ?side1 ?side2 A7.out).mono ?_); (case side1 => exact cb HR0); (case side2 => exact HC0.out); rintro e w' ⟨rfl, ⟨nd, rfl⟩⟩; refine ⟨_, rfl, ?_⟩; have hnb22 := NB690_691.out; have hnc22 := NB691_690.out; have hcz23_0 : w6.cell? ⟨gb690, 0, none⟩ = some (.int .i64 a1_0) := (blk_cell BK690.out 0).trans rfl; have hcz23_1 : w6.cell? ⟨gb690, 1, none⟩ = some (.int .i64 a1_1) := (blk_cell BK690.out 1).trans rfl; have hfz23_0 := blk_frozen BK690.out 0; have hfz23_1 := blk_frozen BK690.out 1) | (go_at_call 46; (with_reducible refine (spec_stMark.calls a1_0 a1_1 true _ A9.out).mono ?_); rintro e w24 ⟨rfl, hb⟩; have n0_ := bb BK690 hb; have n1_ := bb BK691 hb; have n2_ := Aside0.mk (below_step (bz2 GE690 GE691) hb); clear BK690; clear BK691; clear HB; have BK690 := n0_; have BK691 := n1_; have HB := n2_; clear n0_ n1_ n2_; (try clear hb); (try clear hb2); (try clear hk); (try clear hi); have hcz25_0 : w24.cell? ⟨gb691, 0, none⟩ = some (.int .i64 a2_0) := (blk_cell BK691.out 0).trans rfl; have hcz25_1 : w24.cell? ⟨gb691, 1, none⟩ = some (.int .i64 a2_1) := (blk_cell BK691.out 1).trans rfl; have hfz25_0 := blk_frozen BK691.out 0; have hfz25_1 := blk_frozen BK691.out 1) | (go_at_call 46; (with_reducible refine (spec_stMark.calls a2_0 a2_1 false _ A11.out).mono ?_); rintro e w26 ⟨rfl, hb⟩; have n0_ := bb BK690 hb; have n1_ := bb BK691 hb; have n2_ := Aside0.mk (below_step (bz2 GE690 GE691) hb); clear BK690; clear BK691; clear HB; have BK690 := n0_; have BK691 := n1_; have HB := n2_; clear n0_ n1_ n2_; (try clear hb); (try clear hb2); (try clear hk); (try clear hi)))
     go_meet
     case rel => exact ⟨_, (true), sr, H', ⟨by first | omega | exact Nat.le_refl _⟩, ⟨bk BK690⟩, ⟨bk BK691⟩, ⟨bz2 GE690 GE691⟩⟩
   ·replace c10 := Bool.eq_false_iff.mpr c10
    subst c10
    rw [if_neg (show ¬ (false = true) by decide)] at H
    have H' := Aside0.mk H
    clear H
    go_wp2_with (first | ((with_reducible refine gate_callee (f := 62) rfl ?_); refine goesL_ (some 11) rfl rfl Try.func62 kf rfl #[.slice A0 l0.length c0] rfl sm ?_; (with_reducible refine (spec_stAsked.calls k _ _ l0 true _ ?side1 ?side2 A7.out).mono ?_); (case side1 => exact cb HR0); (case side2 => exact HC0.out); rintro e w' ⟨rfl, ⟨nd, rfl⟩⟩; refine ⟨_, rfl, ?_⟩; have hnb27 := NB690_691.out; have hnc27 := NB691_690.out; have hcz28_0 : w6.cell? ⟨gb690, 0, none⟩ = some (.int .i64 a1_0) := (blk_cell BK690.out 0).trans rfl; have hcz28_1 : w6.cell? ⟨gb690, 1, none⟩ = some (.int .i64 a1_1) := (blk_cell BK690.out 1).trans rfl; have hfz28_0 := blk_frozen BK690.out 0; have hfz28_1 := blk_frozen BK690.out 1) | (go_at_call 46; (with_reducible refine (spec_stMark.calls a1_0 a1_1 false _ A9.out).mono ?_); rintro e w29 ⟨rfl, hb⟩; have n0_ := bb BK690 hb; have n1_ := bb BK691 hb; have n2_ := Aside0.mk (below_step (bz2 GE690 GE691) hb); clear BK690; clear BK691; clear HB; have BK690 := n0_; have BK691 := n1_; have HB := n2_; clear n0_ n1_ n2_; (try clear hb); (try clear hb2); (try clear hk); (try clear hi)))
    go_meet
    case rel => exact ⟨_, (true), sr, H', ⟨by first | omega | exact Nat.le_refl _⟩, ⟨bk BK690⟩, ⟨bk BK691⟩, ⟨bz2 GE690 GE691⟩⟩
  ·replace c8 := Bool.eq_false_iff.mpr c8
   subst c8
   rw [if_neg (show ¬ (false = true) by decide)] at H
   have H' := Aside0.mk H
   clear H
   go_wp2_with (first | ((with_reducible refine gate_callee (f := 62) rfl ?_); refine goesL_ (some 11) rfl rfl Try.func62 kf rfl #[.slice A0 l0.length c0] rfl sm ?_; (with_reducible refine (spec_stAsked.calls k _ _ l0 false _ ?side1 ?side2 A7.out).mono ?_); (case side1 => exact cb HR0); (case side2 => exact HC0.out); rintro e w' ⟨rfl, ⟨nd, rfl⟩⟩; refine ⟨_, rfl, ?_⟩))
   go_meet
   case rel => exact ⟨_, (true), sr, H', ⟨by first | omega | exact Nat.le_refl _⟩, ⟨bk BK690⟩, ⟨bk BK691⟩, ⟨bz2 GE690 GE691⟩⟩
 case rest =>
  clear HC4
  try clear c1; try clear c2; try clear p2; try clear c4; try clear c6; try clear c8; try clear c10; try clear c12; try clear c14; try clear c22; try clear c27; try clear hcz15_0; try clear hcz15_1; try clear hcz17_0; try clear hcz17_1; try clear hcz19_0; try clear hcz19_1; try clear hcz20_0; try clear hcz20_1; try clear hcz23_0; try clear hcz23_1; try clear hcz25_0; try clear hcz25_1; try clear hcz28_0; try clear hcz28_1; try clear hfz15_0; try clear hfz15_1; try clear hfz17_0; try clear hfz17_1; try clear hfz19_0; try clear hfz19_1; try clear hfz20_0; try clear hfz20_1; try clear hfz23_0; try clear hfz23_1; try clear hfz25_0; try clear hfz25_1; try clear hfz28_0; try clear hfz28_1
  obtain ⟨kq, x28_3, rfl, HA, HJ3, BK690, BK691, HB⟩ := hcut
  cases kq with
  | zero => exact absurd HA.out (by simp [spec_HasRootBetween.j0])
  | succ kj3 =>
   have H := HA.out
   clear HA
   simp only [spec_HasRootBetween.j0] at H
   by_cases c30 : x28_3 = true
   ·subst c30
    rw [if_pos rfl] at H
    simp only [Option.some.injEq, Prod.mk.injEq] at H
    obtain ⟨rfl, rfl⟩ := H
    go_wp2
    go_ret2
    exact ⟨er, bz2 GE690 GE691⟩
   ·replace c30 := Bool.eq_false_iff.mpr c30
    subst c30
    rw [if_neg (show ¬ (false = true) by decide)] at H
    obtain ⟨⟨t696, t697⟩, A31, H⟩ := bi H
    try dsimp only at H
    by_cases c32 : t697 = true
    ·subst c32
     rw [if_pos rfl] at H
     by_cases c33 : t696 > 0
     ·rw [if_pos c33] at H
      have c33b0 : decide (0 < t696) = true := decide_eq_true c33
      clear c33
      simp only [Option.some.injEq, Prod.mk.injEq] at H
      obtain ⟨rfl, rfl⟩ := H
      have hnb34 := NB690_691.out
      have hnc34 := NB691_690.out
      have hcz35_0 : wc.cell? ⟨gb690, 0, none⟩ = some (.int .i64 a1_0) := (blk_cell BK690.out 0).trans rfl
      have hcz35_1 : wc.cell? ⟨gb690, 1, none⟩ = some (.int .i64 a1_1) := (blk_cell BK690.out 1).trans rfl
      have hfz35_0 := blk_frozen BK690.out 0
      have hfz35_1 := blk_frozen BK690.out 1
      have hcz36_0 : wc.cell? ⟨gb691, 0, none⟩ = some (.int .i64 a2_0) := (blk_cell BK691.out 0).trans rfl
      have hcz36_1 : wc.cell? ⟨gb691, 1, none⟩ = some (.int .i64 a2_1) := (blk_cell BK691.out 1).trans rfl
      have hfz36_0 := blk_frozen BK691.out 0
      have hfz36_1 := blk_frozen BK691.out 1
      go_wp2_with (first | ((with_reducible refine gate_callee (f := 73) rfl ?_); refine goesL_ (some 33) rfl rfl Try.func73 kf rfl #[.slice A0 l0.length c0, .agg #[.int .i64 a1_0, .int .i64 a1_1], .agg #[.int .i64 a2_0, .int .i64 a2_1]] rfl sm ?_; (with_reducible refine (spec_stCount.calls kj3 _ _ l0 a1_0 a1_1 a2_0 a2_1 t696 true _ ?side1 ?side2 A31.out).mono ?_); (case side1 => exact cb HR0); (case side2 => exact HC0.out); rintro e w37 ⟨rfl, hb⟩; refine ⟨_, rfl, ?_⟩; have n0_ := bb BK690 hb; have n1_ := bb BK691 hb; have n2_ := Aside0.mk (below_step (bz2 GE690 GE691) hb); clear BK690; clear BK691; clear HB; have BK690 := n0_; have BK691 := n1_; have HB := n2_; clear n0_ n1_ n2_; (try clear hb); (try clear hb2); (try clear hk); (try clear hi)))
      go_ret2
      exact ⟨er, bz2 GE690 GE691⟩
     ·rw [if_neg c33] at H
      have c33b0 : decide (0 < t696) = false := decide_eq_false c33
      clear c33
      obtain ⟨t698, A38, H⟩ := bi H
      simp only [Option.some.injEq, Prod.mk.injEq] at H
      obtain ⟨rfl, rfl⟩ := H
      have hnb39 := NB690_691.out
      have hnc39 := NB691_690.out
      have hcz40_0 : wc.cell? ⟨gb690, 0, none⟩ = some (.int .i64 a1_0) := (blk_cell BK690.out 0).trans rfl
      have hcz40_1 : wc.cell? ⟨gb690, 1, none⟩ = some (.int .i64 a1_1) := (blk_cell BK690.out 1).trans rfl
      have hfz40_0 := blk_frozen BK690.out 0
      have hfz40_1 := blk_frozen BK690.out 1
      have hcz41_0 : wc.cell? ⟨gb691, 0, none⟩ = some (.int .i64 a2_0) := (blk_cell BK691.out 0).trans rfl
      have hcz41_1 : wc.cell? ⟨gb691, 1, none⟩ = some (.int .i64 a2_1) := (blk_cell BK691.out 1).trans rfl
      have hfz41_0 := blk_frozen BK691.out 0
      have hfz41_1 := blk_frozen BK691.out 1
      go_wp2_with (first | ((with_reducible refine gate_callee (f := 73) rfl ?_); refine goesL_ (some 33) rfl rfl Try.func73 kf rfl #[.slice A0 l0.length c0, .agg #[.int .i64 a1_0, .int .i64 a1_1], .agg #[.int .i64 a2_0, .int .i64 a2_1]] rfl sm ?_; (with_reducible refine (spec_stCount.calls kj3 _ _ l0 a1_0 a1_1 a2_0 a2_1 t696 true _ ?side1 ?side2 A31.out).mono ?_); (case side1 => exact cb HR0); (case side2 => exact HC0.out); rintro e w42 ⟨rfl, hb⟩; refine ⟨_, rfl, ?_⟩; have n0_ := bb BK690 hb; have n1_ := bb BK691 hb; have n2_ := Aside0.mk (below_step (bz2 GE690 GE691) hb); clear BK690; clear BK691; clear HB; have BK690 := n0_; have BK691 := n1_; have HB := n2_; clear n0_ n1_ n2_; (try clear hb); (try clear hb2); (try clear hk); (try clear hi); have hcz43_0 : w42.cell? ⟨gb690, 0, none⟩ = some (.int .i64 a1_0) := (blk_cell BK690.out 0).trans rfl; have hcz43_1 : w42.cell? ⟨gb690, 1, none⟩ = some (.int .i64 a1_1) := (blk_cell BK690.out 1).trans rfl; have hfz43_0 := blk_frozen BK690.out 0; have hfz43_1 := blk_frozen BK690.out 1) | (go_at_call 47; (with_reducible refine (spec_stSign.calls kj3 _ _ l0 a1_0 a1_1 t698 _ ?side1 ?side2 A38.out).mono ?_); (case side1 => exact cb HR0); (case side2 => exact HC0.out); rintro e w44 ⟨rfl, hb⟩; have n0_ := bb BK690 hb; have n1_ := bb BK691 hb; have n2_ := Aside0.mk (below_step (bz2 GE690 GE691) hb); clear BK690; clear BK691; clear HB; have BK690 := n0_; have BK691 := n1_; have HB := n2_; clear n0_ n1_ n2_; (try clear hb); (try clear hb2); (try clear hk); (try clear hi)))
      go_ret2
      exact ⟨er, bz2 GE690 GE691⟩
    ·replace c32 := Bool.eq_false_iff.mpr c32
     subst c32
     rw [if_neg (show ¬ (false = true) by decide)] at H
     simp only [Option.some.injEq, Prod.mk.injEq] at H
     obtain ⟨rfl, rfl⟩ := H
     have hnb45 := NB690_691.out
     have hnc45 := NB691_690.out
     have hcz46_0 : wc.cell? ⟨gb690, 0, none⟩ = some (.int .i64 a1_0) := (blk_cell BK690.out 0).trans rfl
     have hcz46_1 : wc.cell? ⟨gb690, 1, none⟩ = some (.int .i64 a1_1) := (blk_cell BK690.out 1).trans rfl
     have hfz46_0 := blk_frozen BK690.out 0
     have hfz46_1 := blk_frozen BK690.out 1
     have hcz47_0 : wc.cell? ⟨gb691, 0, none⟩ = some (.int .i64 a2_0) := (blk_cell BK691.out 0).trans rfl
     have hcz47_1 : wc.cell? ⟨gb691, 1, none⟩ = some (.int .i64 a2_1) := (blk_cell BK691.out 1).trans rfl
     have hfz47_0 := blk_frozen BK691.out 0
     have hfz47_1 := blk_frozen BK691.out 1
     go_wp2_with (first | ((with_reducible refine gate_callee (f := 73) rfl ?_); refine goesL_ (some 33) rfl rfl Try.func73 kf rfl #[.slice A0 l0.length c0, .agg #[.int .i64 a1_0, .int .i64 a1_1], .agg #[.int .i64 a2_0, .int .i64 a2_1]] rfl sm ?_; (with_reducible refine (spec_stCount.calls kj3 _ _ l0 a1_0 a1_1 a2_0 a2_1 t696 false _ ?side1 ?side2 A31.out).mono ?_); (case side1 => exact cb HR0); (case side2 => exact HC0.out); rintro e w48 ⟨rfl, hb⟩; refine ⟨_, rfl, ?_⟩; have n0_ := bb BK690 hb; have n1_ := bb BK691 hb; have n2_ := Aside0.mk (below_step (bz2 GE690 GE691) hb); clear BK690; clear BK691; clear HB; have BK690 := n0_; have BK691 := n1_; have HB := n2_; clear n0_ n1_ n2_; (try clear hb); (try clear hb2); (try clear hk); (try clear hi)))
     go_ret2
     exact ⟨er, bz2 GE690 GE691⟩
def impl_HasRootBetween.j0 : Nat → List Int → Bool → Int → Int → Int → Int → Option (Bool × Bool)
 | 0, _, _, _, _, _, _ => none
 | k + 1, x0, x33, x700000, x700001, x701000, x701001 => if x33 = true then (some (false, false)) else ((impl_countRoots.f k x0 x700000 x700001 x701000 x701001).bind fun bt705 => (if bt705.2 = true then (if bt705.1 > 0 then (some (true, bt705.2)) else ((impl_signAt.f k x0 x700000 x700001).bind fun t707 => (some ((t707 == 0), bt705.2)))) else (some (false, bt705.2))))
def impl_HasRootBetween.f (k : Nat) (l0 : List Int) (a1_0 : Int) (a1_1 : Int) (a2_0 : Int) (a2_1 : Int) : Option (Bool × Bool) := (impl_isSingle.f k l0).bind fun t701 => (if t701 = true then (if (l0.length : Int) = 0 then (impl_HasRootBetween.j0 k l0 true a1_0 a1_1 a2_0 a2_1) else ((impl_isMark.f a1_0 a1_1).bind fun t702 => (if t702 = true then ((impl_isMark.f a2_0 a2_1).bind fun t703 => (if t703 = true then ((impl_compareD.f k a1_0 a1_1 a2_0 a2_1).bind fun t704 => (impl_HasRootBetween.j0 k l0 (decide (t704 > 0)) a1_0 a1_1 a2_0 a2_1)) else (impl_HasRootBetween.j0 k l0 true a1_0 a1_1 a2_0 a2_1))) else (impl_HasRootBetween.j0 k l0 true a1_0 a1_1 a2_0 a2_1)))) else (impl_HasRootBetween.j0 k l0 true a1_0 a1_1 a2_0 a2_1))
set_option maxHeartbeats 8000000 in
set_option maxRecDepth 100000 in
theorem impl_HasRootBetween.calls (k : Nat) (A0 : Option Addr) (c0 : Nat) (l0 : List Int) (a1_0 : Int) (a1_1 : Int) (a2_0 : Int) (a2_1 : Int) (r1 : Bool) (r2 : Bool) (w : World) (hr0 : Kd.C (Kd.int .i64) w A0 l0.length l0) (hc0 : l0.length ≤ c0) (h : impl_HasRootBetween.f k l0 a1_0 a1_1 a2_0 a2_1 = some (r1, r2)) :
 Calls Try.prog 44 #[.slice A0 l0.length c0, .agg #[.int .i64 a1_0, .int .i64 a1_1], .agg #[.int .i64 a2_0, .int .i64 a2_1]] w fun e w' => e = .returned (.tuple #[.bool r1, .bool r2]) ∧ Below w.heap.size w w' := by
 have hu28 := Try.underlying28
 have HR0 := Aside0.mk hr0
 have HC0 := Aside0.mk hc0
 clear hr0 hc0
 have HB := Aside0.mk (Below.refl w.heap.size w)
 have H : ((impl_isSingle.f k l0).bind fun t701 => (if t701 = true then (if (l0.length : Int) = 0 then (impl_HasRootBetween.j0 k l0 true a1_0 a1_1 a2_0 a2_1) else ((impl_isMark.f a1_0 a1_1).bind fun t702 => (if t702 = true then ((impl_isMark.f a2_0 a2_1).bind fun t703 => (if t703 = true then ((impl_compareD.f k a1_0 a1_1 a2_0 a2_1).bind fun t704 => (impl_HasRootBetween.j0 k l0 (decide (t704 > 0)) a1_0 a1_1 a2_0 a2_1)) else (impl_HasRootBetween.j0 k l0 true a1_0 a1_1 a2_0 a2_1))) else (impl_HasRootBetween.j0 k l0 true a1_0 a1_1 a2_0 a2_1)))) else (impl_HasRootBetween.j0 k l0 true a1_0 a1_1 a2_0 a2_1))) = some (r1, r2) := h
 clear h
 have HC4 := Aside0.mk H
 clear H
 go_enter Try.func44, Try.ntmps44
 go_upto_region 1 with (first | ((with_reducible refine gate_dst (N := 4) rfl ?_); (try (refine gate_guard (by rfl) ?_; dsimp only)); refine bv (N := 4) (cs := #[.int .i64 a1_0, .int .i64 a1_1]) (t := 28) ?_; intro gb699 hg w5 hbox hb; have n0_ := Aside0.mk (below_step bz hb); have n1_ := Aside0.mk (hbox); have n2_ := (gz hg : Aside0 (w.heap.size ≤ _)); have n3_ := (gz hg : Aside0 (w.heap.size ≤ _)); clear HB; have HB := n0_; have BK699 := n1_; have GW699 := n2_; have GE699 := n3_; clear n0_ n1_ n2_ n3_; clear hb hbox hg) | ((with_reducible refine gate_dst (N := 5) rfl ?_); (try (refine gate_guard (by rfl) ?_; dsimp only)); refine bv (N := 5) (cs := #[.int .i64 a2_0, .int .i64 a2_1]) (t := 28) ?_; intro gb700 hg w6 hbox hb; have n0_ := bb BK699 hb; have n1_ := Aside0.mk (below_step (bz1 GE699) hb); have n2_ := Aside0.mk (hbox); have n3_ := Aside0.mk ((by rw [hg]; exact (below_size (bz1 GE699)) : w.heap.size ≤ gb700)); have n4_ := Aside0.mk ((by rw [hg]; exact (below_size (bz1 GE699)) : w.heap.size ≤ gb700)); have n5_ := Aside0.mk ((by rw [hg]; exact Nat.ne_of_lt (blk_lt (g := gb699) (o := .cells #[.int .i64 a1_0, .int .i64 a1_1] 28 (0, 0)) (bk BK699)) : gb699 ≠ gb700)); have n6_ := Aside0.mk ((by rw [hg]; exact Nat.ne_of_gt (blk_lt (g := gb699) (o := .cells #[.int .i64 a1_0, .int .i64 a1_1] 28 (0, 0)) (bk BK699)) : gb700 ≠ gb699)); clear BK699; clear HB; have BK699 := n0_; have HB := n1_; have BK700 := n2_; have GW700 := n3_; have GE700 := n4_; have NB699_700 := n5_; have NB700_699 := n6_; clear n0_ n1_ n2_ n3_ n4_ n5_ n6_; clear hb hbox hg))
 (try simp only [Act.put, List.setIfInBounds_toArray, List.set_cons_zero, List.set_cons_succ])
 go_cut [33] (fun v33 wc => ∃ (kq : Nat) (x33_3 : Bool), v33 = .bool x33_3 ∧ Aside0 (impl_HasRootBetween.j0 kq l0 x33_3 a1_0 a1_1 a2_0 a2_1 = some (r1, r2)) ∧ Aside0 (kq ≤ k) ∧ Aside0 (wc.heap[gb699]? = some (.cells #[.int .i64 a1_0, .int .i64 a1_1] 28 (0, 0))) ∧ Aside0 (wc.heap[gb700]? = some (.cells #[.int .i64 a2_0, .int .i64 a2_1] 28 (0, 0))) ∧ Aside0 (Below w.heap.size w wc))
 case first =>
  have H := HC4.out
  clear HC4
  obtain ⟨t701, A7, H⟩ := bi H
  by_cases c8 : t701 = true
  ·subst c8
   rw [if_pos rfl] at H
   by_cases c9 : (l0.length : Int) = 0
   ·rw [if_pos c9] at H
    have c9b0 : ((l0.length : Int) == 0) = true := beq_iff_eq.mpr c9
    have c9b1 : ((l0.length : Int) != 0) = false := bne_eq_false_iff_eq.mpr c9
    clear c9
    (first | rw [c9b0] | (simp only [i64_w, i32_w]; rw [c9b0]) | skip)
    have H' := Aside0.mk H
    clear H
    go_wp2_with (first | ((with_reducible refine gate_callee (f := 49) rfl ?_); refine goesL_ (some 11) rfl rfl Try.func49 kf rfl #[.slice A0 l0.length c0] rfl sm ?_; (with_reducible refine (impl_isSingle.calls k _ _ l0 true _ ?side1 ?side2 A7.out).mono ?_); (case side1 => exact cb HR0); (case side2 => exact HC0.out); rintro e w' ⟨rfl, ⟨nd, rfl⟩⟩; refine ⟨_, rfl, ?_⟩))
    go_meet
    case rel => exact ⟨_, (true), sr, H', ⟨by first | omega | exact Nat.le_refl _⟩, ⟨bk BK699⟩, ⟨bk BK700⟩, ⟨bz2 GE699 GE700⟩⟩
   ·rw [if_neg c9] at H
    have c9b0 : ((l0.length : Int) == 0) = false := beq_eq_false_iff_ne.mpr c9
    have c9b1 : ((l0.length : Int) != 0) = true := bne_iff_ne.mpr c9
    have c9b2 : ¬ (l0 = []) := fun h_ => c9 (by rw [h_]; rfl)
    (first | rw [c9b0] | (simp only [i64_w, i32_w]; rw [c9b0]) | skip)
    obtain ⟨t702, A10, H⟩ := bi H
    by_cases c11 : t702 = true
    ·subst c11
     rw [if_pos rfl] at H
     obtain ⟨t703, A12, H⟩ := bi H
     by_cases c13 : t703 = true
     ·subst c13
      rw [if_pos rfl] at H
      obtain ⟨t704, A14, H⟩ := bi H
      have H' := Aside0.mk H
      clear H
      go_wp2_with (first | ((with_reducible refine gate_callee (f := 49) rfl ?_); refine goesL_ (some 11) rfl rfl Try.func49 kf rfl #[.slice A0 l0.length c0] rfl sm ?_; (with_reducible refine (impl_isSingle.calls k _ _ l0 true _ ?side1 ?side2 A7.out).mono ?_); (case side1 => exact cb HR0); (case side2 => exact HC0.out); rintro e w' ⟨rfl, ⟨nd, rfl⟩⟩; refine ⟨_, rfl, ?_⟩; have hnb15 := NB699_700.out; have hnc15 := NB700_699.out; have hcz16_0 : w6.cell? ⟨gb699, 0, none⟩ = some (.int .i64 a1_0) := (blk_cell BK699.out 0).trans rfl; have hcz16_1 : w6.cell? ⟨gb699, 1, none⟩ = some (.int .i64 a1_1) := (blk_cell BK699.out 1).trans rfl; have hfz16_0 := blk_frozen BK699.out 0; have hfz16_1 := blk_frozen BK699.out 1) | (go_at_call 50; (with_reducible refine (impl_isMark.calls a1_0 a1_1 true _ A10.out).mono ?_); rintro e w17 ⟨rfl, hb⟩; have n0_ := bb BK699 hb; have n1_ := bb BK700 hb; have n2_ := Aside0.mk (below_step (bz2 GE699 GE700) hb); clear BK699; clear BK700; clear HB; have BK699 := n0_; have BK700 := n1_; have HB := n2_; clear n0_ n1_ n2_; (try clear hb); (try clear hb2); (try clear hk); (try clear hi); have hcz18_0 : w17.cell? ⟨gb700, 0, none⟩ = some (.int .i64 a2_0) := (blk_cell BK700.out 0).trans rfl; have hcz18_1 : w17.cell? ⟨gb700, 1, none⟩ = some (.int .i64 a2_1) := (blk_cell BK700.out 1).trans rfl; have hfz18_0 := blk_frozen BK700.out 0; have hfz18_1 := blk_frozen BK700.out 1) | (go_at_call 50; (with_reducible refine (impl_isMark.calls a2_0 a2_1 true _ A12.out).mono ?_); rintro e w19 ⟨rfl, hb⟩; have n0_ := bb BK699 hb; have n1_ := bb BK700 hb; have n2_ := Aside0.mk (below_step (bz2 GE699 GE700) hb); clear BK699; clear BK700; clear HB; have BK699 := n0_; have BK700 := n1_; have HB := n2_; clear n0_ n1_ n2_; (try clear hb); (try clear hb2); (try clear hk); (try clear hi); have hcz20_0 : w19.cell? ⟨gb699, 0, none⟩ = some (.int .i64 a1_0) := (blk_cell BK699.out 0).trans rfl; have hcz20_1 : w19.cell? ⟨gb699, 1, none⟩ = some (.int .i64 a1_1) := (blk_cell BK699.out 1).trans rfl; have hfz20_0 := blk_frozen BK699.out 0; have hfz20_1 := blk_frozen BK699.out 1; have hcz21_0 : w19.cell? ⟨gb700, 0, none⟩ = some (.int .i64 a2_0) := (blk_cell BK700.out 0).trans rfl; have hcz21_1 : w19.cell? ⟨gb700, 1, none⟩ = some (.int .i64 a2_1) := (blk_cell BK700.out 1).trans rfl; have hfz21_0 := blk_frozen BK700.out 0; have hfz21_1 := blk_frozen BK700.out 1) | (go_at_call 74; (with_reducible refine (impl_compareD.calls k a1_0 a1_1 a2_0 a2_1 t704 _ A14.out).mono ?_); rintro e w22 ⟨rfl, hb⟩; have n0_ := bb BK699 hb; have n1_ := bb BK700 hb; have n2_ := Aside0.mk (below_step (bz2 GE699 GE700) hb); clear BK699; clear BK700; clear HB; have BK699 := n0_; have BK700 := n1_; have HB := n2_; clear n0_ n1_ n2_; (try clear hb); (try clear hb2); (try clear hk); (try clear hi)))
      go_meet
      case rel => exact ⟨_, (decide (t704 > 0)), sr, H', ⟨by first | omega | exact Nat.le_refl _⟩, ⟨bk BK699⟩, ⟨bk BK700⟩, ⟨bz2 GE699 GE700⟩⟩
     ·replace c13 := Bool.eq_false_iff.mpr c13
      subst c13
      rw [if_neg (show ¬ (false = true) by decide)] at H
      have H' := Aside0.mk H
      clear H
      go_wp2_with (first | ((with_reducible refine gate_callee (f := 49) rfl ?_); refine goesL_ (some 11) rfl rfl Try.func49 kf rfl #[.slice A0 l0.length c0] rfl sm ?_; (with_reducible refine (impl_isSingle.calls k _ _ l0 true _ ?side1 ?side2 A7.out).mono ?_); (case side1 => exact cb HR0); (case side2 => exact HC0.out); rintro e w' ⟨rfl, ⟨nd, rfl⟩⟩; refine ⟨_, rfl, ?_⟩; have hnb23 := NB699_700.out; have hnc23 := NB700_699.out; have hcz24_0 : w6.cell? ⟨gb699, 0, none⟩ = some (.int .i64 a1_0) := (blk_cell BK699.out 0).trans rfl; have hcz24_1 : w6.cell? ⟨gb699, 1, none⟩ = some (.int .i64 a1_1) := (blk_cell BK699.out 1).trans rfl; have hfz24_0 := blk_frozen BK699.out 0; have hfz24_1 := blk_frozen BK699.out 1) | (go_at_call 50; (with_reducible refine (impl_isMark.calls a1_0 a1_1 true _ A10.out).mono ?_); rintro e w25 ⟨rfl, hb⟩; have n0_ := bb BK699 hb; have n1_ := bb BK700 hb; have n2_ := Aside0.mk (below_step (bz2 GE699 GE700) hb); clear BK699; clear BK700; clear HB; have BK699 := n0_; have BK700 := n1_; have HB := n2_; clear n0_ n1_ n2_; (try clear hb); (try clear hb2); (try clear hk); (try clear hi); have hcz26_0 : w25.cell? ⟨gb700, 0, none⟩ = some (.int .i64 a2_0) := (blk_cell BK700.out 0).trans rfl; have hcz26_1 : w25.cell? ⟨gb700, 1, none⟩ = some (.int .i64 a2_1) := (blk_cell BK700.out 1).trans rfl; have hfz26_0 := blk_frozen BK700.out 0; have hfz26_1 := blk_frozen BK700.out 1) | (go_at_call 50; (with_reducible refine (impl_isMark.calls a2_0 a2_1 false _ A12.out).mono ?_); rintro e w27 ⟨rfl, hb⟩; have n0_ := bb BK699 hb; have n1_ := bb BK700 hb; have n2_ := Aside0.mk (below_step (bz2 GE699 GE700) hb); clear BK699; clear BK700; clear HB; have BK699 := n0_; have BK700 := n1_; have HB := n2_; clear n0_ n1_ n2_; (try clear hb); (try clear hb2); (try clear hk); (try clear hi)))
      go_meet
      case rel => exact ⟨_, (true), sr, H', ⟨by first | omega | exact Nat.le_refl _⟩, ⟨bk BK699⟩, ⟨bk BK700⟩, ⟨bz2 GE699 GE700⟩⟩
    ·replace c11 := Bool.eq_false_iff.mpr c11
     subst c11
     rw [if_neg (show ¬ (false = true) by decide)] at H
     have H' := Aside0.mk H
     clear H
     go_wp2_with (first | ((with_reducible refine gate_callee (f := 49) rfl ?_); refine goesL_ (some 11) rfl rfl Try.func49 kf rfl #[.slice A0 l0.length c0] rfl sm ?_; (with_reducible refine (impl_isSingle.calls k _ _ l0 true _ ?side1 ?side2 A7.out).mono ?_); (case side1 => exact cb HR0); (case side2 => exact HC0.out); rintro e w' ⟨rfl, ⟨nd, rfl⟩⟩; refine ⟨_, rfl, ?_⟩; have hnb28 := NB699_700.out; have hnc28 := NB700_699.out; have hcz29_0 : w6.cell? ⟨gb699, 0, none⟩ = some (.int .i64 a1_0) := (blk_cell BK699.out 0).trans rfl; have hcz29_1 : w6.cell? ⟨gb699, 1, none⟩ = some (.int .i64 a1_1) := (blk_cell BK699.out 1).trans rfl; have hfz29_0 := blk_frozen BK699.out 0; have hfz29_1 := blk_frozen BK699.out 1) | (go_at_call 50; (with_reducible refine (impl_isMark.calls a1_0 a1_1 false _ A10.out).mono ?_); rintro e w30 ⟨rfl, hb⟩; have n0_ := bb BK699 hb; have n1_ := bb BK700 hb; have n2_ := Aside0.mk (below_step (bz2 GE699 GE700) hb); clear BK699; clear BK700; clear HB; have BK699 := n0_; have BK700 := n1_; have HB := n2_; clear n0_ n1_ n2_; (try clear hb); (try clear hb2); (try clear hk); (try clear hi)))
     go_meet
     case rel => exact ⟨_, (true), sr, H', ⟨by first | omega | exact Nat.le_refl _⟩, ⟨bk BK699⟩, ⟨bk BK700⟩, ⟨bz2 GE699 GE700⟩⟩
  ·replace c8 := Bool.eq_false_iff.mpr c8
   subst c8
   rw [if_neg (show ¬ (false = true) by decide)] at H
   have H' := Aside0.mk H
   clear H
   go_wp2_with (first | ((with_reducible refine gate_callee (f := 49) rfl ?_); refine goesL_ (some 11) rfl rfl Try.func49 kf rfl #[.slice A0 l0.length c0] rfl sm ?_; (with_reducible refine (impl_isSingle.calls k _ _ l0 false _ ?side1 ?side2 A7.out).mono ?_); (case side1 => exact cb HR0); (case side2 => exact HC0.out); rintro e w' ⟨rfl, ⟨nd, rfl⟩⟩; refine ⟨_, rfl, ?_⟩))
   go_meet
   case rel => exact ⟨_, (true), sr, H', ⟨by first | omega | exact Nat.le_refl _⟩, ⟨bk BK699⟩, ⟨bk BK700⟩, ⟨bz2 GE699 GE700⟩⟩
 case rest =>
  clear HC4
  try clear c1; try clear c2; try clear p2; try clear c4; try clear c8; try clear c9; try clear c9b0; try clear c9b1; try clear c9b2; try clear c11; try clear c13; try clear c15; try clear c23; try clear c28; try clear hcz16_0; try clear hcz16_1; try clear hcz18_0; try clear hcz18_1; try clear hcz20_0; try clear hcz20_1; try clear hcz21_0; try clear hcz21_1; try clear hcz24_0; try clear hcz24_1; try clear hcz26_0; try clear hcz26_1; try clear hcz29_0; try clear hcz29_1; try clear hfz16_0; try clear hfz16_1; try clear hfz18_0; try clear hfz18_1; try clear hfz20_0; try clear hfz20_1; try clear hfz21_0; try clear hfz21_1; try clear hfz24_0; try clear hfz24_1; try clear hfz26_0; try clear hfz26_1; try clear hfz29_0; try clear hfz29_1
  obtain ⟨kq, x33_3, rfl, HA, HJ3, BK699, BK700, HB⟩ := hcut
  cases kq with
  | zero => exact absurd HA.out (by simp [impl_HasRootBetween.j0])
  | succ kj3 =>
   have H := HA.out
   clear HA
   simp only [impl_HasRootBetween.j0] at H
   by_cases c31 : x33_3 = true
   ·subst c31
    rw [if_pos rfl] at H
    simp only [Option.some.injEq, Prod.mk.injEq] at H
    obtain ⟨rfl, rfl⟩ := H
    go_wp2
    go_ret2
    exact ⟨er, bz2 GE699 GE700⟩
   ·replace c31 := Bool.eq_false_iff.mpr c31
    subst c31
    rw [if_neg (show ¬ (false = true) by decide)] at H
    obtain ⟨⟨t705, t706⟩, A32, H⟩ := bi H
    try dsimp only at H
    by_cases c33 : t706 = true
    ·subst c33
     rw [if_pos rfl] at H
     by_cases c34 : t705 > 0
     ·rw [if_pos c34] at H
      have c34b0 : decide (0 < t705) = true := decide_eq_true c34
      clear c34
      simp only [Option.some.injEq, Prod.mk.injEq] at H
      obtain ⟨rfl, rfl⟩ := H
      have hnb35 := NB699_700.out
      have hnc35 := NB700_699.out
      have hcz36_0 : wc.cell? ⟨gb699, 0, none⟩ = some (.int .i64 a1_0) := (blk_cell BK699.out 0).trans rfl
      have hcz36_1 : wc.cell? ⟨gb699, 1, none⟩ = some (.int .i64 a1_1) := (blk_cell BK699.out 1).trans rfl
      have hfz36_0 := blk_frozen BK699.out 0
      have hfz36_1 := blk_frozen BK699.out 1
      have hcz37_0 : wc.cell? ⟨gb700, 0, none⟩ = some (.int .i64 a2_0) := (blk_cell BK700.out 0).trans rfl
      have hcz37_1 : wc.cell? ⟨gb700, 1, none⟩ = some (.int .i64 a2_1) := (blk_cell BK700.out 1).trans rfl
      have hfz37_0 := blk_frozen BK700.out 0
      have hfz37_1 := blk_frozen BK700.out 1
      go_wp2_with (first | ((with_reducible refine gate_callee (f := 75) rfl ?_); refine goesL_ (some 38) rfl rfl Try.func75 kf rfl #[.slice A0 l0.length c0, .agg #[.int .i64 a1_0, .int .i64 a1_1], .agg #[.int .i64 a2_0, .int .i64 a2_1]] rfl sm ?_; (with_reducible refine (impl_countRoots.calls kj3 _ _ l0 a1_0 a1_1 a2_0 a2_1 t705 true _ ?side1 ?side2 A32.out).mono ?_); (case side1 => exact cb HR0); (case side2 => exact HC0.out); rintro e w38 ⟨rfl, hb⟩; refine ⟨_, rfl, ?_⟩; have n0_ := bb BK699 hb; have n1_ := bb BK700 hb; have n2_ := Aside0.mk (below_step (bz2 GE699 GE700) hb); clear BK699; clear BK700; clear HB; have BK699 := n0_; have BK700 := n1_; have HB := n2_; clear n0_ n1_ n2_; (try clear hb); (try clear hb2); (try clear hk); (try clear hi)))
      go_ret2
      exact ⟨er, bz2 GE699 GE700⟩
     ·rw [if_neg c34] at H
      have c34b0 : decide (0 < t705) = false := decide_eq_false c34
      clear c34
      obtain ⟨t707, A39, H⟩ := bi H
      simp only [Option.some.injEq, Prod.mk.injEq] at H
      obtain ⟨rfl, rfl⟩ := H
      have hnb40 := NB699_700.out
      have hnc40 := NB700_699.out
      have hcz41_0 : wc.cell? ⟨gb699, 0, none⟩ = some (.int .i64 a1_0) := (blk_cell BK699.out 0).trans rfl
      have hcz41_1 : wc.cell? ⟨gb699, 1, none⟩ = some (.int .i64 a1_1) := (blk_cell BK699.out 1).trans rfl
      have hfz41_0 := blk_frozen BK699.out 0
      have hfz41_1 := blk_frozen BK699.out 1
      have hcz42_0 : wc.cell? ⟨gb700, 0, none⟩ = some (.int .i64 a2_0) := (blk_cell BK700.out 0).trans rfl
      have hcz42_1 : wc.cell? ⟨gb700, 1, none⟩ = some (.int .i64 a2_1) := (blk_cell BK700.out 1).trans rfl
      have hfz42_0 := blk_frozen BK700.out 0
      have hfz42_1 := blk_frozen BK700.out 1
      go_wp2_with (first | ((with_reducible refine gate_callee (f := 75) rfl ?_); refine goesL_ (some 38) rfl rfl Try.func75 kf rfl #[.slice A0 l0.length c0, .agg #[.int .i64 a1_0, .int .i64 a1_1], .agg #[.int .i64 a2_0, .int .i64 a2_1]] rfl sm ?_; (with_reducible refine (impl_countRoots.calls kj3 _ _ l0 a1_0 a1_1 a2_0 a2_1 t705 true _ ?side1 ?side2 A32.out).mono ?_); (case side1 => exact cb HR0); (case side2 => exact HC0.out); rintro e w43 ⟨rfl, hb⟩; refine ⟨_, rfl, ?_⟩; have n0_ := bb BK699 hb; have n1_ := bb BK700 hb; have n2_ := Aside0.mk (below_step (bz2 GE699 GE700) hb); clear BK699; clear BK700; clear HB; have BK699 := n0_; have BK700 := n1_; have HB := n2_; clear n0_ n1_ n2_; (try clear hb); (try clear hb2); (try clear hk); (try clear hi); have hcz44_0 : w43.cell? ⟨gb699, 0, none⟩ = some (.int .i64 a1_0) := (blk_cell BK699.out 0).trans rfl; have hcz44_1 : w43.cell? ⟨gb699, 1, none⟩ = some (.int .i64 a1_1) := (blk_cell BK699.out 1).trans rfl; have hfz44_0 := blk_frozen BK699.out 0; have hfz44_1 := blk_frozen BK699.out 1) | (go_at_call 51; (with_reducible refine (impl_signAt.calls kj3 _ _ l0 a1_0 a1_1 t707 _ ?side1 ?side2 A39.out).mono ?_); (case side1 => exact cb HR0); (case side2 => exact HC0.out); rintro e w45 ⟨rfl, hb⟩; have n0_ := bb BK699 hb; have n1_ := bb BK700 hb; have n2_ := Aside0.mk (below_step (bz2 GE699 GE700) hb); clear BK699; clear BK700; clear HB; have BK699 := n0_; have BK700 := n1_; have HB := n2_; clear n0_ n1_ n2_; (try clear hb); (try clear hb2); (try clear hk); (try clear hi)))
      go_ret2
      exact ⟨er, bz2 GE699 GE700⟩
    ·replace c33 := Bool.eq_false_iff.mpr c33
     subst c33
     rw [if_neg (show ¬ (false = true) by decide)] at H
     simp only [Option.some.injEq, Prod.mk.injEq] at H
     obtain ⟨rfl, rfl⟩ := H
     have hnb46 := NB699_700.out
     have hnc46 := NB700_699.out
     have hcz47_0 : wc.cell? ⟨gb699, 0, none⟩ = some (.int .i64 a1_0) := (blk_cell BK699.out 0).trans rfl
     have hcz47_1 : wc.cell? ⟨gb699, 1, none⟩ = some (.int .i64 a1_1) := (blk_cell BK699.out 1).trans rfl
     have hfz47_0 := blk_frozen BK699.out 0
     have hfz47_1 := blk_frozen BK699.out 1
     have hcz48_0 : wc.cell? ⟨gb700, 0, none⟩ = some (.int .i64 a2_0) := (blk_cell BK700.out 0).trans rfl
     have hcz48_1 : wc.cell? ⟨gb700, 1, none⟩ = some (.int .i64 a2_1) := (blk_cell BK700.out 1).trans rfl
     have hfz48_0 := blk_frozen BK700.out 0
     have hfz48_1 := blk_frozen BK700.out 1
     go_wp2_with (first | ((with_reducible refine gate_callee (f := 75) rfl ?_); refine goesL_ (some 38) rfl rfl Try.func75 kf rfl #[.slice A0 l0.length c0, .agg #[.int .i64 a1_0, .int .i64 a1_1], .agg #[.int .i64 a2_0, .int .i64 a2_1]] rfl sm ?_; (with_reducible refine (impl_countRoots.calls kj3 _ _ l0 a1_0 a1_1 a2_0 a2_1 t705 false _ ?side1 ?side2 A32.out).mono ?_); (case side1 => exact cb HR0); (case side2 => exact HC0.out); rintro e w49 ⟨rfl, hb⟩; refine ⟨_, rfl, ?_⟩; have n0_ := bb BK699 hb; have n1_ := bb BK700 hb; have n2_ := Aside0.mk (below_step (bz2 GE699 GE700) hb); clear BK699; clear BK700; clear HB; have BK699 := n0_; have BK700 := n1_; have HB := n2_; clear n0_ n1_ n2_; (try clear hb); (try clear hb2); (try clear hk); (try clear hi)))
     go_ret2
     exact ⟨er, bz2 GE699 GE700⟩
def laws_roomBehind.f (a0 : Int) : Option (Int) := if (Int.tmod a0 6) = 5 then (some 0) else (if (Int.tmod a0 3) = 0 then (some 1) else (some a0))
set_option maxHeartbeats 8000000 in
set_option maxRecDepth 100000 in
theorem laws_roomBehind.calls (a0 : Int) (r : Int) (w : World) (h : laws_roomBehind.f a0 = some r) :
 Calls Try.prog 48 #[.int .i64 a0] w fun e w' => e = .returned (.int .i64 r) ∧ Drawn0 w w' := by
 have H : (if (Int.tmod a0 6) = 5 then (some 0) else (if (Int.tmod a0 3) = 0 then (some 1) else (some a0))) = some r := h
 clear h
 by_cases c2 : (Int.tmod a0 6) = 5
 ·rw [if_pos c2] at H
  have c2b0 : ((Int.tmod a0 6) == 5) = true := beq_iff_eq.mpr c2
  have c2b1 : ((Int.tmod a0 6) != 5) = false := bne_eq_false_iff_eq.mpr c2
  clear c2
  obtain rfl := Option.some.inj H
  go_enter Try.func48, Try.ntmps48
  go_wp2
  go_ret
  exact ⟨sr, dz⟩
 ·rw [if_neg c2] at H
  have c2b0 : ((Int.tmod a0 6) == 5) = false := beq_eq_false_iff_ne.mpr c2
  have c2b1 : ((Int.tmod a0 6) != 5) = true := bne_iff_ne.mpr c2
  by_cases c3 : (Int.tmod a0 3) = 0
  ·rw [if_pos c3] at H
   have c3b0 : ((Int.tmod a0 3) == 0) = true := beq_iff_eq.mpr c3
   have c3b1 : ((Int.tmod a0 3) != 0) = false := bne_eq_false_iff_eq.mpr c3
   clear c3
   obtain rfl := Option.some.inj H
   go_enter Try.func48, Try.ntmps48
   go_wp2
   go_ret
   exact ⟨sr, dz⟩
  ·rw [if_neg c3] at H
   have c3b0 : ((Int.tmod a0 3) == 0) = false := beq_eq_false_iff_ne.mpr c3
   have c3b1 : ((Int.tmod a0 3) != 0) = true := bne_iff_ne.mpr c3
   obtain rfl := Option.some.inj H
   go_enter Try.func48, Try.ntmps48
   go_wp2
   go_ret
   exact ⟨sr, dz⟩
mutual
def laws_toIntS.j0 : Nat → List Int → Bool → Option (List Int)
 | 0, _, _ => none
 | k + 1, x0, x13 => if x13 = true then (some ([] : List Int)) else ((laws_roomBehind.f (x0.length : Int)).bind fun t708 => (if 0 ≤ (wrap64 ((x0.length : Int) + t708)) then (if (wrap64 ((x0.length : Int) + t708) : Int).toNat ≤ 35184372088832 then (laws_toIntS.l0 k x0 (List.replicate (wrap64 ((x0.length : Int) + t708) : Int).toNat 0) 0) else (none)) else (none)))
def laws_toIntS.l0 : Nat → List Int → List Int → Int → Option (List Int)
 | 0, _, _, _ => none
 | k + 1, x0, x5, x6 => if x6 < (x0.length : Int) then (if 0 ≤ x6 then (if x6 < (x5.length : Int) then (laws_toIntS.l0 k x0 (x5.set (x6 : Int).toNat (rd x0 x6)) (wrap64 (x6 + 1))) else (none)) else (none)) else (laws_toIntS.l1 k x0 x5 (x0.length : Int))
def laws_toIntS.l1 : Nat → List Int → List Int → Int → Option (List Int)
 | 0, _, _, _ => none
 | k + 1, x0, x5, x7 => if x7 < (x5.length : Int) then (if 0 ≤ x7 then (laws_toIntS.l1 k x0 (x5.set (x7 : Int).toNat (-7000000000000000101)) (wrap64 (x7 + 1))) else (none)) else (if 0 ≤ (x0.length : Int) then (if (x0.length : Int) ≤ (x5.length : Int) then (some (x5.take ((x0.length : Int) : Int).toNat)) else (none)) else (none))
end
def laws_toIntS.f (k : Nat) (l0 : List Int) (a1 : Bool) : Option (List Int) := if a1 = true then (laws_toIntS.j0 k l0 ((l0.length : Int) == 0)) else (laws_toIntS.j0 k l0 false)
set_option maxHeartbeats 8000000 in
set_option maxRecDepth 100000 in
theorem laws_toIntS.calls (k : Nat) (A0 : Option Addr) (c0 : Nat) (l0 : List Int) (a1 : Bool) (r : List Int) (w : World) (hr0 : Kd.C (Kd.int .i64) w A0 l0.length l0) (hc0 : l0.length ≤ c0) (h : laws_toIntS.f k l0 a1 = some r) :
 Calls Try.prog 14 #[.slice A0 l0.length c0, .bool a1] w fun e w' => ∃ v0_ : Value, e = .returned (v0_) ∧ Kd.R (Kd.int .i64) 3 w' w.heap.size (fun _ => True) v0_ r ∧ Below w.heap.size w w' := by
 have HR0 := Aside0.mk hr0
 have HC0 := Aside0.mk hc0
 clear hr0 hc0
 have HB := Aside0.mk (Below.refl w.heap.size w)
 have H : (if a1 = true then (laws_toIntS.j0 k l0 ((l0.length : Int) == 0)) else (laws_toIntS.j0 k l0 false)) = some r := h
 clear h
 have HC3 := Aside0.mk H
 clear H
 go_enter Try.func14, Try.ntmps14
 go_upto_region 1 with (fail)
 go_cut [13] (fun v13 wc => ∃ (kq : Nat) (x13_2 : Bool), v13 = .bool x13_2 ∧ Aside0 (laws_toIntS.j0 kq l0 x13_2 = some r) ∧ Aside0 (kq ≤ k) ∧ Aside0 (Below w.heap.size w wc))
 case first =>
  have H := HC3.out
  clear HC3
  by_cases c4 : a1 = true
  ·subst c4
   rw [if_pos rfl] at H
   have H' := Aside0.mk H
   clear H
   go_wp2
   go_meet
   case rel => exact ⟨_, (((l0.length : Int) == 0)), sr, H', ⟨by first | omega | exact Nat.le_refl _⟩, ⟨bz⟩⟩
  ·replace c4 := Bool.eq_false_iff.mpr c4
   subst c4
   rw [if_neg (show ¬ (false = true) by decide)] at H
   have H' := Aside0.mk H
   clear H
   go_wp2
   go_meet
   case rel => exact ⟨_, (false), sr, H', ⟨by first | omega | exact Nat.le_refl _⟩, ⟨bz⟩⟩
 case rest =>
  clear HC3
  try clear c1; try clear p2; try clear c4
  obtain ⟨kq, x13_2, rfl, HA, HJ2, HB⟩ := hcut
  cases kq with
  | zero => exact absurd HA.out (by simp [laws_toIntS.j0])
  | succ kj2 =>
   have H := HA.out
   clear HA
   simp only [laws_toIntS.j0] at H
   by_cases c5 : x13_2 = true
   ·subst c5
    rw [if_pos rfl] at H
    obtain rfl := Option.some.inj H
    go_wp2
    go_ret
    exact ⟨_, er, by first | exact Kd.R_nil _ _ _ _ _ | exact Kd.N_nil _ _ _ _ _ | exact Kd.V_nil _ _ _ _ _ | exact Kd.Q_nil _ _ _ _ _ | exact Kd.S_nil _ _ _ _ _, bz⟩
   ·replace c5 := Bool.eq_false_iff.mpr c5
    subst c5
    rw [if_neg (show ¬ (false = true) by decide)] at H
    obtain ⟨t708, A6, H⟩ := bi H
    obtain ⟨ji7, hji7⟩ : ∃ j_ : Int, (wrap64 ((l0.length : Int) + t708)) = j_ := ⟨_, rfl⟩
    first | rw [hji7] at H | simp only [hji7] at H
    (try rw [hji7] at A6)
    have hji7w : (IntKind.i64.wrap ((l0.length : Int) + t708)) = ji7 := (i64_w _).trans hji7
    by_cases c8 : 0 ≤ (ji7)
    ·rw [if_pos c8] at H
     have c8b0 := eq_true c8
     have c8b1 : decide (0 ≤ (ji7)) = true := decide_eq_true c8
     clear c8
     by_cases c9 : (ji7 : Int).toNat ≤ 35184372088832
     ·rw [if_pos c9] at H
      have c9b0 := eq_true c9
      have c9b1 : decide ((ji7 : Int).toNat ≤ 35184372088832) = true := decide_eq_true c9
      clear c9
      obtain ⟨y709, hy709⟩ : ∃ y_ : List Int, y_ = (List.replicate (ji7 : Int).toNat 0) := ⟨_, rfl⟩
      replace H : (laws_toIntS.l0 kj2 l0 y709 0) = some r := by first | (rw [hy709]; with_reducible exact H) | (have H2_ := (Option.bind_some _ _).symm.trans H; rw [hy709]; with_reducible exact H2_) | (have H2_ := (Option.bind_some _ _).symm.trans H; with_reducible exact H2_) | with_reducible exact H | (rw [hy709]; exact H) | exact H
      have Ny709 := Aside0.mk hy709
      clear hy709
      have H' := Aside0.mk H
      clear H
      go_wp2_with (first | ((with_reducible refine gate_callee (f := 48) rfl ?_); refine goesL_ (some 18) rfl rfl Try.func48 kf rfl #[.int .i64 (l0.length : Int)] rfl sm ?_; (with_reducible refine (laws_roomBehind.calls (l0.length : Int) t708 _ A6.out).mono ?_); rintro e w' ⟨rfl, ⟨nd, rfl⟩⟩; refine ⟨_, rfl, ?_⟩) | ((with_reducible refine gate_dst (N := 20) rfl ?_); (try (refine gate_guard (by rfl) ?_; dsimp only)); refine Kd.R_make (Kd.int .i64) _ 3 rfl (N := 20) rfl 22 _ _ rfl ji7 rfl rfl Try.underlying22 (.int .i64 0) 8 info3 rfl (by decide) (by omega) 0 (ok := fun _ => True) (okp := fun _ => True) rfl (fun _ hk => hk) trivial (of_decide_eq_true am) (Nat.le_trans (Nat.mul_le_mul_right _ (of_decide_eq_true am : ji7.toNat ≤ 35184372088832)) (by omega)) (Below.refl _ _) (Nat.le_refl _) ?_; intro v710 w10 ho11 hb hg_ hnew_; clear hg_ hnew_; (first | rw [← Ny709.out] at ho11 | (simp only [Int.reduceToNat] at ho11; rw [← Ny709.out] at ho11)); have n0_ := Aside0.mk (Kd.R_lower ho11 (below_size bz)); have n1_ := Aside0.mk (below_step bz hb); clear HB; have HO711 := n0_; have HB := n1_; clear n0_ n1_; clear hb ho11))
      go_loopg [6] kj2 (fun kq v6 w' => ∃ (x5_2 : List Int) (x6_2 : Int), v6 = .int .i64 x6_2 ∧ Aside0 (laws_toIntS.l0 kq l0 x5_2 x6_2 = some r) ∧ Aside0 (kq ≤ kj2) ∧ Aside0 (Kd.R (Kd.int .i64) 3 w' w.heap.size (fun _ => True) v710 x5_2) ∧ Aside0 (Below w.heap.size w w'))
      case atStart => exact ⟨(y709), (0), sr, H', ⟨Nat.le_refl _⟩, ⟨kr HO711⟩, ⟨bz⟩⟩
      case round =>
       clear H'
       try clear c1; try clear p2; try clear c4; try clear c5; try clear p6; try clear c8; try clear c8b0; try clear c8b1; try clear c9; try clear c9b0; try clear c9b1; try clear p2
       obtain ⟨x5_2, x6_2, rfl, HA, HK2, HO_5, HB⟩ := hrel
       cases gk with
       | zero => exact absurd HA.out (by simp [laws_toIntS.l0])
       | succ k2 =>
        have H := HA.out
        clear HA
        simp only [laws_toIntS.l0] at H
        by_cases c12 : x6_2 < (l0.length : Int)
        ·rw [if_pos c12] at H
         have c12b0 : decide (x6_2 < (l0.length : Int)) = true := decide_eq_true c12
         clear c12
         by_cases c13 : 0 ≤ x6_2
         ·rw [if_pos c13] at H
          have c13b0 : decide (0 ≤ x6_2) = true := decide_eq_true c13
          clear c13
          by_cases c14 : x6_2 < (x5_2.length : Int)
          ·rw [if_pos c14] at H
           have c14b0 : decide (x6_2 < (x5_2.length : Int)) = true := decide_eq_true c14
           clear c14
           obtain ⟨y713, hy713⟩ : ∃ y_ : List Int, y_ = (x5_2.set (x6_2 : Int).toNat (rd l0 x6_2)) := ⟨_, rfl⟩
           replace H : (laws_toIntS.l0 k2 l0 y713 (wrap64 (x6_2 + 1))) = some r := by first | (rw [hy713]; with_reducible exact H) | (have H2_ := (Option.bind_some _ _).symm.trans H; rw [hy713]; with_reducible exact H2_) | (have H2_ := (Option.bind_some _ _).symm.trans H; with_reducible exact H2_) | with_reducible exact H | (rw [hy713]; exact H) | exact H
           have Ny713 := Aside0.mk hy713
           clear hy713
           have H' := Aside0.mk H
           clear H
           have p712 : 0 ≤ (x6_2 : Int) := of_decide_eq_true am
           have q712 : x6_2 < (l0.length : Int) := of_decide_eq_true am
           obtain ⟨ad712, e712, hx712_0⟩ := Kd.at_int HR0.out x6_2 p712 q712
           cases e712
           replace hx712_0 := (HB.out.cell (World.block_lt_of_cell? w _ hx712_0)).trans hx712_0
           replace p712 := eq_true p712
           replace q712 := eq_true q712
           have p15 : 0 ≤ (x6_2 : Int) := of_decide_eq_true am
           have q15 : (x6_2 : Int) < ((x5_2.length : Int) : Int) := of_decide_eq_true am
           obtain ⟨go15, co15, eo15, gb15, gl15, cl15, HG15⟩ := Kd.R_form HO_5.out (by omega)
           (first | cases eo15 | (injection eo15 with ea_ en_ ec_; (first | subst ea_ | (injection ea_ with ea_; subst ea_)); subst ec_; clear en_))
           have GB15 := Aside0.mk gb15
           have GG15 := Aside0.mk HG15
           clear gb15 gl15 HG15
           obtain ⟨hx15_0, hf15_0⟩ := Kd.R_celln 0 HO_5.out (x6_2 : Int) p15 q15
           replace p15 := eq_true p15
           replace q15 := eq_true q15
           have HP16 := Kd.R_putg HO_5.out (x6_2 : Int) (rd l0 x6_2)
           go_wp2_with (first | ((with_reducible refine gate_store (t := 3) (p := 33) rfl ?_); refine store_event (t := 3) (p := 33) (v := ?vo_w17) (w1 := (wr.setCell ⟨go15, (x6_2 : Int).toNat, none⟩ (.int .i64 (rd l0 x6_2)))) ?hg ?ho ?hn ?hr ?_; (case ho => rfl); (case hg => rfl); (case hn => rfl); (case hr => first | (go_simp; done) | (go_simp; rfl)); intro w17 hw; have hg : wr.grownBy w17 (some go15) := (by rw [hw]; exact HP16.2); have hp_ : Kd.R (Kd.int .i64) 3 w17 w.heap.size (fun _ => True) (.slice (some ⟨go15, 0, none⟩) x5_2.length co15) y713 := (by rw [hw, Ny713.out]; exact HP16.1); clear HP16; have n0_ := Aside0.mk (hp_); have n1_ := Aside0.mk ((by rw [hw]; exact below_set (HB.out) GB15.out : Below w.heap.size w w17)); clear HO_5; clear HB; have HO_5 := n0_; have HB := n1_; clear n0_ n1_; clear hg hw hp_))
           go_roundg k2
           case measure => have := HJ2.out; have := HK2.out; omega
           case rel => exact ⟨(y713), (wrap64 (x6_2 + 1)), sr, H', ⟨by have := HJ2.out; have := HK2.out; omega⟩, ⟨kr HO_5⟩, ⟨bz⟩⟩
          ·rw [if_neg c14] at H
           exact absurd H (by simp)
         ·rw [if_neg c13] at H
          exact absurd H (by simp)
        ·rw [if_neg c12] at H
         have c12b0 : decide (x6_2 < (l0.length : Int)) = false := decide_eq_false c12
         clear c12
         have H' := Aside0.mk H
         clear H
         go_wp2
         go_loopg [7] k2 (fun kq v7 w' => ∃ (x5_3 : List Int) (x7_3 : Int), v7 = .int .i64 x7_3 ∧ Aside0 (laws_toIntS.l1 kq l0 x5_3 x7_3 = some r) ∧ Aside0 (kq ≤ k2) ∧ Aside0 (Kd.R (Kd.int .i64) 3 w' w.heap.size (fun _ => True) v710 x5_3) ∧ Aside0 (Below w.heap.size w w'))
         case atStart => exact ⟨(x5_2), ((l0.length : Int)), sr, H', ⟨Nat.le_refl _⟩, ⟨kr HO_5⟩, ⟨bz⟩⟩
         case round =>
          clear H'
          try clear c1; try clear p1; try clear q1; try clear hx1; try clear p2; try clear c4; try clear c5; try clear p6; try clear p7; try clear q7; try clear hx7; try clear c8; try clear c8b0; try clear c8b1; try clear c9; try clear c9b0; try clear c9b1; try clear c12; try clear c12b0; try clear c13; try clear c13b0; try clear c14; try clear c14b0; try clear p15; try clear q15; try clear hx15; try clear hf15; try clear hx15_0; try clear hx712_0; try clear p15; try clear p2; try clear p6; try clear p712; try clear q15; try clear q712
          obtain ⟨x5_3, x7_3, rfl, HA, HK3, HO_5, HB⟩ := hrel
          cases gk with
          | zero => exact absurd HA.out (by simp [laws_toIntS.l1])
          | succ k3 =>
           have H := HA.out
           clear HA
           simp only [laws_toIntS.l1] at H
           by_cases c18 : x7_3 < (x5_3.length : Int)
           ·rw [if_pos c18] at H
            have c18b0 : decide (x7_3 < (x5_3.length : Int)) = true := decide_eq_true c18
            clear c18
            by_cases c19 : 0 ≤ x7_3
            ·rw [if_pos c19] at H
             have c19b0 : decide (0 ≤ x7_3) = true := decide_eq_true c19
             clear c19
             obtain ⟨y714, hy714⟩ : ∃ y_ : List Int, y_ = (x5_3.set (x7_3 : Int).toNat (-7000000000000000101)) := ⟨_, rfl⟩
             replace H : (laws_toIntS.l1 k3 l0 y714 (wrap64 (x7_3 + 1))) = some r := by first | (rw [hy714]; with_reducible exact H) | (have H2_ := (Option.bind_some _ _).symm.trans H; rw [hy714]; with_reducible exact H2_) | (have H2_ := (Option.bind_some _ _).symm.trans H; with_reducible exact H2_) | with_reducible exact H | (rw [hy714]; exact H) | exact H
             have Ny714 := Aside0.mk hy714
             clear hy714
             have H' := Aside0.mk H
             clear H
             obtain ⟨Ao21, co21, eo21⟩ := Kd.R_slice HO_5.out
             subst eo21
             have p20 : 0 ≤ (x7_3 : Int) := of_decide_eq_true am
             have q20 : (x7_3 : Int) < ((x5_3.length : Int) : Int) := of_decide_eq_true am
             obtain ⟨go20, co20, eo20, gb20, gl20, cl20, HG20⟩ := Kd.R_form HO_5.out (by omega)
             (first | cases eo20 | (injection eo20 with ea_ en_ ec_; (first | subst ea_ | (injection ea_ with ea_; subst ea_)); subst ec_; clear en_))
             have GB20 := Aside0.mk gb20
             have GG20 := Aside0.mk HG20
             clear gb20 gl20 HG20
             obtain ⟨hx20_0, hf20_0⟩ := Kd.R_celln 0 HO_5.out (x7_3 : Int) p20 q20
             replace p20 := eq_true p20
             replace q20 := eq_true q20
             have HP22 := Kd.R_putg HO_5.out (x7_3 : Int) (-7000000000000000101)
             go_wp2_with (first | ((with_reducible refine gate_store (t := 3) (p := 44) rfl ?_); refine store_event (t := 3) (p := 44) (v := ?vo_w23) (w1 := (wr.setCell ⟨go20, (x7_3 : Int).toNat, none⟩ (.int .i64 (-7000000000000000101)))) ?hg ?ho ?hn ?hr ?_; (case ho => rfl); (case hg => rfl); (case hn => rfl); (case hr => first | (go_simp; done) | (go_simp; rfl)); intro w23 hw; have hg : wr.grownBy w23 (some go20) := (by rw [hw]; exact HP22.2); have hp_ : Kd.R (Kd.int .i64) 3 w23 w.heap.size (fun _ => True) (.slice (some ⟨go20, 0, none⟩) x5_3.length co21) y714 := (by rw [hw, Ny714.out]; exact HP22.1); clear HP22; have n0_ := Aside0.mk (hp_); have n1_ := Aside0.mk ((by rw [hw]; exact below_set (HB.out) GB20.out : Below w.heap.size w w23)); clear HO_5; clear HB; have HO_5 := n0_; have HB := n1_; clear n0_ n1_; clear hg hw hp_))
             go_roundg k3
             case measure => have := HJ2.out; have := HK2.out; have := HK3.out; omega
             case rel => exact ⟨(y714), (wrap64 (x7_3 + 1)), sr, H', ⟨by have := HJ2.out; have := HK2.out; have := HK3.out; omega⟩, ⟨kr HO_5⟩, ⟨bz⟩⟩
            ·rw [if_neg c19] at H
             exact absurd H (by simp)
           ·rw [if_neg c18] at H
            have c18b0 : decide (x7_3 < (x5_3.length : Int)) = false := decide_eq_false c18
            clear c18
            by_cases c24 : 0 ≤ (l0.length : Int)
            ·rw [if_pos c24] at H
             have c24b0 := eq_true c24
             have c24b1 : decide (0 ≤ (l0.length : Int)) = true := decide_eq_true c24
             clear c24
             by_cases c25 : (l0.length : Int) ≤ (x5_3.length : Int)
             ·rw [if_pos c25] at H
              have c25b0 := eq_true c25
              have c25b1 : decide ((l0.length : Int) ≤ (x5_3.length : Int)) = true := decide_eq_true c25
              clear c25
              obtain ⟨y715, hy715⟩ : ∃ y_ : List Int, y_ = (x5_3.take ((l0.length : Int) : Int).toNat) := ⟨_, rfl⟩
              replace H : (some y715) = some r := by first | (rw [hy715]; with_reducible exact H) | (have H2_ := (Option.bind_some _ _).symm.trans H; rw [hy715]; with_reducible exact H2_) | (have H2_ := (Option.bind_some _ _).symm.trans H; with_reducible exact H2_) | with_reducible exact H | (rw [hy715]; exact H) | exact H
              have Ny715 := Aside0.mk hy715
              clear hy715
              obtain rfl := Option.some.inj H
              obtain ⟨Ao26, co26, eo26⟩ := Kd.R_slice HO_5.out
              subst eo26
              have q27 : ((l0.length : Int) : Int) ≤ ((x5_3.length : Int) : Int) := of_decide_eq_true am
              obtain ⟨i027, hi027, _, hsz27, _⟩ := info_parts info3
              have hcut27 := cut_to (P := Try.prog) 22 3 .i64 Try.underlying22 hi027 Ao26 x5_3.length co26 (l0.length : Int) (of_decide_eq_true am) q27 (Kd.R_reads' HO_5.out).2.1
              have hr27 := Kd.R_take (m := ((l0.length : Int) : Int).toNat) HO_5.out (by omega)
              have hy27 : y715.length = ((l0.length : Int) : Int).toNat := (by rw [Ny715.out, List.length_take]; omega)
              rw [← Ny715.out] at hr27
              rw [← hy27] at hr27 hcut27
              clear hy27 hi027 hsz27 HO_5
              have HO717 := Aside0.mk hr27
              clear hr27
              replace q27 := eq_true q27
              go_wp2
              go_ret
              exact ⟨_, by first | rfl | (simp [errW_none, errW_some] <;> rfl) | (simp only [← hji7]; first | rfl | (simp [errW_none, errW_some] <;> rfl)) | (simp [*, errW_none, errW_some] <;> rfl), by (with_reducible repeat (first | apply Kd.R_alloc | apply Kd.R_drewN | apply Kd.R_drew)); exact HO717.out, bz⟩
             ·rw [if_neg c25] at H
              exact absurd H (by simp)
            ·rw [if_neg c24] at H
             exact absurd H (by simp)
     ·rw [if_neg c9] at H
      exact absurd H (by simp)
    ·rw [if_neg c8] at H
     exact absurd H (by simp)
def laws_eqIntS.l0 : Nat → List Int → List Int → Int → Option (Bool)
 | 0, _, _, _ => none
 | k + 1, x0, x1, x5 => if x5 < (x0.length : Int) then (if 0 ≤ x5 then (if x5 < (x1.length : Int) then (if (rd x0 x5) = (rd x1 x5) then (laws_eqIntS.l0 k x0 x1 (wrap64 (x5 + 1))) else (some false)) else (none)) else (none)) else (some true)
def laws_eqIntS.f (k : Nat) (l0 : List Int) (l1 : List Int) : Option (Bool) := if (l0.length : Int) = (l1.length : Int) then (laws_eqIntS.l0 k l0 l1 0) else (some false)
set_option maxHeartbeats 8000000 in
set_option maxRecDepth 100000 in
theorem laws_eqIntS.calls (k : Nat) (A0 : Option Addr) (c0 : Nat) (l0 : List Int) (A1 : Option Addr) (c1 : Nat) (l1 : List Int) (r : Bool) (w : World) (hr0 : Kd.C (Kd.int .i64) w A0 l0.length l0) (hc0 : l0.length ≤ c0) (hr1 : Kd.C (Kd.int .i64) w A1 l1.length l1) (hc1 : l1.length ≤ c1) (h : laws_eqIntS.f k l0 l1 = some r) :
 Calls Try.prog 20 #[.slice A0 l0.length c0, .slice A1 l1.length c1] w fun e w' => e = .returned (.bool r) ∧ Drawn0 w w' := by
 have HR0 := Aside0.mk hr0
 have HC0 := Aside0.mk hc0
 clear hr0 hc0
 have HR1 := Aside0.mk hr1
 have HC1 := Aside0.mk hc1
 clear hr1 hc1
 have H : (if (l0.length : Int) = (l1.length : Int) then (laws_eqIntS.l0 k l0 l1 0) else (some false)) = some r := h
 clear h
 by_cases c3 : (l0.length : Int) = (l1.length : Int)
 ·rw [if_pos c3] at H
  have c3b0 : ((l0.length : Int) == (l1.length : Int)) = true := beq_iff_eq.mpr c3
  have c3b1 : ((l0.length : Int) != (l1.length : Int)) = false := bne_eq_false_iff_eq.mpr c3
  have c3b2 : (l0.length == l1.length) = true := by first | simpa using c3 | (simp at c3 ⊢; omega)
  clear c3
  have H' := Aside0.mk H
  clear H
  go_enter Try.func20, Try.ntmps20
  go_wp2
  repeat (go_quiet (fail); try go_wp2)
  go_loopg [5] k (fun kq v5 w' => ∃ (x5_1 : Int), v5 = .int .i64 x5_1 ∧ Aside0 (laws_eqIntS.l0 kq l0 l1 x5_1 = some r) ∧ Aside0 (kq ≤ k) ∧ Drawn0 w w')
  case atStart => exact ⟨(0), sr, H', ⟨Nat.le_refl _⟩, dz⟩
  case round =>
   clear H'
   try clear c1; try clear c2; try clear p2; try clear c3; try clear c3b0; try clear c3b1; try clear c3b2
   obtain ⟨x5_1, rfl, HA, HK1, ⟨m1, rfl⟩⟩ := hrel
   cases gk with
   | zero => exact absurd HA.out (by simp [laws_eqIntS.l0])
   | succ k1 =>
    have H := HA.out
    clear HA
    simp only [laws_eqIntS.l0] at H
    by_cases c4 : x5_1 < (l0.length : Int)
    ·rw [if_pos c4] at H
     have c4b0 : decide (x5_1 < (l0.length : Int)) = true := decide_eq_true c4
     clear c4
     by_cases c5 : 0 ≤ x5_1
     ·rw [if_pos c5] at H
      have c5b0 : decide (0 ≤ x5_1) = true := decide_eq_true c5
      clear c5
      by_cases c6 : x5_1 < (l1.length : Int)
      ·rw [if_pos c6] at H
       have c6b0 : decide (x5_1 < (l1.length : Int)) = true := decide_eq_true c6
       clear c6
       by_cases c7 : (rd l0 x5_1) = (rd l1 x5_1)
       ·rw [if_pos c7] at H
        have c7b0 : ((rd l0 x5_1) == (rd l1 x5_1)) = true := beq_iff_eq.mpr c7
        have c7b1 : ((rd l0 x5_1) != (rd l1 x5_1)) = false := bne_eq_false_iff_eq.mpr c7
        clear c7
        have H' := Aside0.mk H
        clear H
        have p718 : 0 ≤ (x5_1 : Int) := of_decide_eq_true am
        have q718 : x5_1 < (l0.length : Int) := of_decide_eq_true am
        obtain ⟨ad718, e718, hx718_0⟩ := Kd.at_int HR0.out x5_1 p718 q718
        cases e718
        replace p718 := eq_true p718
        replace q718 := eq_true q718
        have p719 : 0 ≤ (x5_1 : Int) := of_decide_eq_true am
        have q719 : x5_1 < (l1.length : Int) := of_decide_eq_true am
        obtain ⟨ad719, e719, hx719_0⟩ := Kd.at_int HR1.out x5_1 p719 q719
        cases e719
        replace p719 := eq_true p719
        replace q719 := eq_true q719
        go_wp2
        repeat (go_quiet (fail); try go_wp2)
        go_roundg k1
        case measure => have := HK1.out; omega
        case rel => exact ⟨(wrap64 (x5_1 + 1)), sr, H', ⟨by have := HK1.out; omega⟩, dz⟩
       ·rw [if_neg c7] at H
        have c7b0 : ((rd l0 x5_1) == (rd l1 x5_1)) = false := beq_eq_false_iff_ne.mpr c7
        have c7b1 : ((rd l0 x5_1) != (rd l1 x5_1)) = true := bne_iff_ne.mpr c7
        obtain rfl := Option.some.inj H
        have p718 : 0 ≤ (x5_1 : Int) := of_decide_eq_true am
        have q718 : x5_1 < (l0.length : Int) := of_decide_eq_true am
        obtain ⟨ad718, e718, hx718_0⟩ := Kd.at_int HR0.out x5_1 p718 q718
        cases e718
        replace p718 := eq_true p718
        replace q718 := eq_true q718
        have p719 : 0 ≤ (x5_1 : Int) := of_decide_eq_true am
        have q719 : x5_1 < (l1.length : Int) := of_decide_eq_true am
        obtain ⟨ad719, e719, hx719_0⟩ := Kd.at_int HR1.out x5_1 p719 q719
        cases e719
        replace p719 := eq_true p719
        replace q719 := eq_true q719
        go_wp2
        repeat (go_quiet (fail); try go_wp2)
        go_ret
        exact ⟨sr, dz⟩
      ·rw [if_neg c6] at H
       exact absurd H (by simp)
     ·rw [if_neg c5] at H
      exact absurd H (by simp)
    ·rw [if_neg c4] at H
     have c4b0 : decide (x5_1 < (l0.length : Int)) = false := decide_eq_false c4
     clear c4
     obtain rfl := Option.some.inj H
     go_wp2
     repeat (go_quiet (fail); try go_wp2)
     go_ret
     exact ⟨sr, dz⟩
 ·rw [if_neg c3] at H
  have c3b0 : ((l0.length : Int) == (l1.length : Int)) = false := beq_eq_false_iff_ne.mpr c3
  have c3b1 : ((l0.length : Int) != (l1.length : Int)) = true := bne_iff_ne.mpr c3
  have c3b2 : (l0.length == l1.length) = false := by first | simpa using c3 | (simp at c3 ⊢; omega)
  obtain rfl := Option.some.inj H
  go_enter Try.func20, Try.ntmps20
  go_wp2
  repeat (go_quiet (fail); try go_wp2)
  go_ret
  exact ⟨sr, dz⟩
def laws_toDyadic.f (a0_0 : Int) (a0_1 : Int) : Option (Int × Int) := some (a0_0, a0_1)
set_option maxHeartbeats 8000000 in
set_option maxRecDepth 100000 in
theorem laws_toDyadic.calls (a0_0 : Int) (a0_1 : Int) (r1 : Int) (r2 : Int) (w : World) (h : laws_toDyadic.f a0_0 a0_1 = some (r1, r2)) :
 Calls Try.prog 15 #[.agg #[.int .i64 a0_0, .int .i64 a0_1]] w fun e w' => e = .returned (.agg #[.int .i64 r1, .int .i64 r2]) ∧ Below w.heap.size w w' := by
 have hu24 := Try.underlying24
 have hu28 := Try.underlying28
 have HB := Aside0.mk (Below.refl w.heap.size w)
 have H : (some (a0_0, a0_1)) = some (r1, r2) := h
 clear h
 simp only [Option.some.injEq, Prod.mk.injEq] at H
 obtain ⟨rfl, rfl⟩ := H
 go_enter Try.func15, Try.ntmps15
 go_wp2_with (first | ((with_reducible refine gate_dst (N := 1) rfl ?_); refine bv (N := 1) (cs := #[.int .i64 a0_0, .int .i64 a0_1]) (t := 24) ?_; intro gb720 hg w2 hbox hb; have n0_ := Aside0.mk (below_step bz hb); have n1_ := Aside0.mk (hbox); have n2_ := (gz hg : Aside0 (w.heap.size ≤ _)); have n3_ := (gz hg : Aside0 (w.heap.size ≤ _)); clear HB; have HB := n0_; have BK720 := n1_; have GW720 := n2_; have GE720 := n3_; clear n0_ n1_ n2_ n3_; clear hb hbox hg) | ((with_reducible refine gate_dst (N := 2) rfl ?_); refine bv (N := 2) (cs := #[.int .i64 0, .int .i64 0]) (t := 28) ?_; intro gb721 hg w3 hbox hb; have n0_ := bb BK720 hb; have n1_ := Aside0.mk (below_step (bz1 GE720) hb); have n2_ := Aside0.mk (hbox); have n3_ := Aside0.mk ((by rw [hg]; exact (below_size (bz1 GE720)) : w.heap.size ≤ gb721)); have n4_ := Aside0.mk ((by rw [hg]; exact (below_size (bz1 GE720)) : w.heap.size ≤ gb721)); have n5_ := Aside0.mk ((by rw [hg]; exact Nat.ne_of_lt (blk_lt (g := gb720) (o := .cells #[.int .i64 a0_0, .int .i64 a0_1] 24 (0, 0)) (bk BK720)) : gb720 ≠ gb721)); have n6_ := Aside0.mk ((by rw [hg]; exact Nat.ne_of_gt (blk_lt (g := gb720) (o := .cells #[.int .i64 a0_0, .int .i64 a0_1] 24 (0, 0)) (bk BK720)) : gb721 ≠ gb720)); clear BK720; clear HB; have BK720 := n0_; have HB := n1_; have BK721 := n2_; have GW721 := n3_; have GE721 := n4_; have NB720_721 := n5_; have NB721_720 := n6_; clear n0_ n1_ n2_ n3_ n4_ n5_ n6_; clear hb hbox hg) | ((with_reducible refine gate_dst (N := 3) rfl ?_); refine bv (N := 3) (cs := #[.int .i64 0, .int .i64 0]) (t := 28) ?_; intro gb722 hg w4 hbox hb; have n0_ := bb BK720 hb; have n1_ := bb BK721 hb; have n2_ := Aside0.mk (below_step (bz2 GE720 GE721) hb); have n3_ := Aside0.mk (hbox); have n4_ := Aside0.mk ((by rw [hg]; exact (below_size (bz2 GE720 GE721)) : w.heap.size ≤ gb722)); have n5_ := Aside0.mk ((by rw [hg]; exact (below_size (bz2 GE720 GE721)) : w.heap.size ≤ gb722)); have n6_ := Aside0.mk ((by rw [hg]; exact Nat.ne_of_lt (blk_lt (g := gb720) (o := .cells #[.int .i64 a0_0, .int .i64 a0_1] 24 (0, 0)) (bk BK720)) : gb720 ≠ gb722)); have n7_ := Aside0.mk ((by rw [hg]; exact Nat.ne_of_gt (blk_lt (g := gb720) (o := .cells #[.int .i64 a0_0, .int .i64 a0_1] 24 (0, 0)) (bk BK720)) : gb722 ≠ gb720)); have n8_ := Aside0.mk ((by rw [hg]; exact Nat.ne_of_lt (blk_lt (g := gb721) (o := .cells #[.int .i64 0, .int .i64 0] 28 (0, 0)) (bk BK721)) : gb721 ≠ gb722)); have n9_ := Aside0.mk ((by rw [hg]; exact Nat.ne_of_gt (blk_lt (g := gb721) (o := .cells #[.int .i64 0, .int .i64 0] 28 (0, 0)) (bk BK721)) : gb722 ≠ gb721)); clear BK720; clear BK721; clear HB; have BK720 := n0_; have BK721 := n1_; have HB := n2_; have BK722 := n3_; have GW722 := n4_; have GE722 := n5_; have NB720_722 := n6_; have NB722_720 := n7_; have NB721_722 := n8_; have NB722_721 := n9_; clear n0_ n1_ n2_ n3_ n4_ n5_ n6_ n7_ n8_ n9_; clear hb hbox hg; have hnb5 := NB720_721.out; have hnc5 := NB721_720.out; have hnb6 := NB720_722.out; have hnc6 := NB722_720.out; have hcz7_0 : w4.cell? ⟨gb720, 0, none⟩ = some (.int .i64 a0_0) := (blk_cell BK720.out 0).trans rfl; have hcz7_1 : w4.cell? ⟨gb720, 1, none⟩ = some (.int .i64 a0_1) := (blk_cell BK720.out 1).trans rfl; have hfz7_0 := blk_frozen BK720.out 0; have hfz7_1 := blk_frozen BK720.out 1; have hnb8 := NB722_721.out; have hnc8 := NB721_722.out; have hcz9_0 : w4.cell? ⟨gb722, 0, none⟩ = some (.int .i64 0) := (blk_cell BK722.out 0).trans rfl; have hcz9_1 : w4.cell? ⟨gb722, 1, none⟩ = some (.int .i64 0) := (blk_cell BK722.out 1).trans rfl; have hfz9_0 := blk_frozen BK722.out 0; have hfz9_1 := blk_frozen BK722.out 1; have hcz10_0 : w4.cell? ⟨gb721, 0, none⟩ = some (.int .i64 0) := (blk_cell BK721.out 0).trans rfl; have hcz10_1 : w4.cell? ⟨gb721, 1, none⟩ = some (.int .i64 0) := (blk_cell BK721.out 1).trans rfl; have hfz10_0 := blk_frozen BK721.out 0; have hfz10_1 := blk_frozen BK721.out 1))
 refine bodyPost_ret (results_cell_row rfl _ _ gb721 28 #[.int .i64 a0_0, .int .i64 a0_1] (0, 0) _ rfl (by (with_reducible repeat (first | refine blk_drewN ?_ _ | refine blk_drew ?_ | refine blk_alloc ?_ _)); refine blk_put (cs := #[.int .i64 a0_0, .int .i64 0]) ?_ 1 _ rfl; (with_reducible repeat (first | refine blk_drewN ?_ _ | refine blk_drew ?_ | refine blk_alloc ?_ _)); refine blk_put (cs := #[.int .i64 0, .int .i64 0]) ?_ 0 _ rfl; (with_reducible repeat (first | refine blk_drewN ?_ _ | refine blk_drew ?_ | refine blk_alloc ?_ _)); refine blk_far ?_ NB721_722.out _; (with_reducible repeat (first | refine blk_drewN ?_ _ | refine blk_drew ?_ | refine blk_alloc ?_ _)); refine blk_far ?_ NB721_722.out _; (with_reducible repeat (first | refine blk_drewN ?_ _ | refine blk_drew ?_ | refine blk_alloc ?_ _)); exact BK721.out) Try.underlying28 rfl kf) rfl ?_
 exact ⟨er, bz3 GE720 GE721 GE722⟩
end Go.Proofs.Ytcgcgifndkeeoaa.QSt
