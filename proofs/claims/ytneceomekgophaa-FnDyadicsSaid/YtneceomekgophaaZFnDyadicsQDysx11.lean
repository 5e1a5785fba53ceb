import Derived.Test.YtneceomekgophaaZFnDyadicsSq
import Derived.Test.YtneceomekgophaaZFnDyadicsQDysx1
import Derived.Test.YtneceomekgophaaZFnDyadicsQDysx2
import Derived.Test.YtneceomekgophaaZFnDyadicsQDysx3
import Derived.Test.YtneceomekgophaaZFnDyadicsQDysx5
namespace Go.Proofs.Ytneceomekgophaa.QDys
open Go.RowKit Go.Proofs.YtneceomekgophaaW.PrintWords Go.Proofs.YtneceomekgophaaW.PrintLast Go.Proofs.YtneceomekgophaaW.PrintMore
attribute [local go_sem] max2_int min2_int max_two min_two max_three min_three max_four min_four
set_option linter.unusedVariables false
set_option linter.unusedSimpArgs false
def impl_compareWide.j0 : Nat → Bool → Bool → Int → Int → Bool → Int → Int → Option (Int)
 | 0, _, _, _, _, _, _, _ => none
 | k + 1, x5, x415000, x415001, x415002, x416000, x416001, x416002 => if x5 = true then (some 0) else (if (x415000 != x416000) = true then (if x415000 = true then (some (-1)) else (some 1)) else (if x415000 = true then ((impl_compareSizes.f k x416000 x416001 x416002 x415000 x415001 x415002).bind fun t418 => (some t418)) else ((impl_compareSizes.f k x415000 x415001 x415002 x416000 x416001 x416002).bind fun t419 => (some t419))))
def impl_compareWide.f (k : Nat) (a0_0 : Bool) (a0_1 : Int) (a0_2 : Int) (a1_0 : Bool) (a1_1 : Int) (a1_2 : Int) : Option (Int) := (impl_wide_isZero.f a0_0 a0_1 a0_2).bind fun t416 => (if t416 = true then ((impl_wide_isZero.f a1_0 a1_1 a1_2).bind fun t417 => (impl_compareWide.j0 k t417 a0_0 a0_1 a0_2 a1_0 a1_1 a1_2)) else (impl_compareWide.j0 k false a0_0 a0_1 a0_2 a1_0 a1_1 a1_2))
set_option maxHeartbeats 8000000 in
set_option maxRecDepth 100000 in
theorem impl_compareWide.calls (k : Nat) (a0_0 : Bool) (a0_1 : Int) (a0_2 : Int) (a1_0 : Bool) (a1_1 : Int) (a1_2 : Int) (r : Int) (w : World) (h : impl_compareWide.f k a0_0 a0_1 a0_2 a1_0 a1_1 a1_2 = some r) :
 Calls Try.prog 86 #[.agg #[.bool a0_0, .int .u64 a0_1, .int .u64 a0_2], .agg #[.bool a1_0, .int .u64 a1_1, .int .u64 a1_2]] w fun e w' => e = .returned (.int .i64 r) ∧ Below w.heap.size w w' := by
 have hu62 := Try.underlying62
 have HB := Aside0.mk (Below.refl w.heap.size w)
 have H : ((impl_wide_isZero.f a0_0 a0_1 a0_2).bind fun t416 => (if t416 = true then ((impl_wide_isZero.f a1_0 a1_1 a1_2).bind fun t417 => (impl_compareWide.j0 k t417 a0_0 a0_1 a0_2 a1_0 a1_1 a1_2)) else (impl_compareWide.j0 k false a0_0 a0_1 a0_2 a1_0 a1_1 a1_2))) = some r := h
 clear h
 have HC3 := Aside0.mk H
 clear H
 go_enter Try.func86, Try.ntmps86
 go_upto_region 1 with (first | ((with_reducible refine gate_dst (N := 2) rfl ?_); refine bv (N := 2) (cs := #[.bool a0_0, .int .u64 a0_1, .int .u64 a0_2]) (t := 62) ?_; intro gb414 hg w4 hbox hb; have n0_ := Aside0.mk (below_step bz hb); have n1_ := Aside0.mk (hbox); have n2_ := (gz hg : Aside0 (w.heap.size ≤ _)); have n3_ := (gz hg : Aside0 (w.heap.size ≤ _)); clear HB; have HB := n0_; have BK414 := n1_; have GW414 := n2_; have GE414 := n3_; clear n0_ n1_ n2_ n3_; clear hb hbox hg) | ((with_reducible refine gate_dst (N := 3) rfl ?_); refine bv (N := 3) (cs := #[.bool a1_0, .int .u64 a1_1, .int .u64 a1_2]) (t := 62) ?_; intro gb415 hg w5 hbox hb; have n0_ := bb BK414 hb; have n1_ := Aside0.mk (below_step (bz1 GE414) hb); have n2_ := Aside0.mk (hbox); have n3_ := Aside0.mk ((by rw [hg]; exact (below_size (bz1 GE414)) : w.heap.size ≤ gb415)); have n4_ := Aside0.mk ((by rw [hg]; exact (below_size (bz1 GE414)) : w.heap.size ≤ gb415)); have n5_ := Aside0.mk ((by rw [hg]; exact Nat.ne_of_lt (blk_lt (g := gb414) (o := .cells #[.bool a0_0, .int .u64 a0_1, .int .u64 a0_2] 62 (0, 0)) (bk BK414)) : gb414 ≠ gb415)); have n6_ := Aside0.mk ((by rw [hg]; exact Nat.ne_of_gt (blk_lt (g := gb414) (o := .cells #[.bool a0_0, .int .u64 a0_1, .int .u64 a0_2] 62 (0, 0)) (bk BK414)) : gb415 ≠ gb414)); have n7_ := Aside0.mk ((by rw [hg]; exact blk_lt (g := gb414) (o := .cells #[.bool a0_0, .int .u64 a0_1, .int .u64 a0_2] 62 (0, 0)) (bk BK414) : gb414 < gb415)); clear BK414; clear HB; have BK414 := n0_; have HB := n1_; have BK415 := n2_; have GW415 := n3_; have GE415 := n4_; have NB414_415 := n5_; have NB415_414 := n6_; have LT414_415 := n7_; clear n0_ n1_ n2_ n3_ n4_ n5_ n6_ n7_; clear hb hbox hg))
 (try simp only [Act.put, List.setIfInBounds_toArray, List.set_cons_zero, List.set_cons_succ])
 go_cut [5] (fun v5 wc => ∃ (kq : Nat) (x5_2 : Bool), v5 = .bool x5_2 ∧ Aside0 (impl_compareWide.j0 kq x5_2 a0_0 a0_1 a0_2 a1_0 a1_1 a1_2 = some r) ∧ Aside0 (kq ≤ k) ∧ Aside0 (wc.heap[gb414]? = some (.cells #[.bool a0_0, .int .u64 a0_1, .int .u64 a0_2] 62 (0, 0))) ∧ Aside0 (wc.heap[gb415]? = some (.cells #[.bool a1_0, .int .u64 a1_1, .int .u64 a1_2] 62 (0, 0))) ∧ Aside0 (Below w.heap.size w wc))
 case first =>
  have H := HC3.out
  clear HC3
  obtain ⟨t416, A6, H⟩ := bi H
  by_cases c7 : t416 = true
  ·subst c7
   rw [if_pos rfl] at H
   obtain ⟨t417, A8, H⟩ := bi H
   have H' := Aside0.mk H
   clear H
   have hcz9_0 : w5.cell? ⟨gb414, 0, none⟩ = some (.bool a0_0) := (blk_cell BK414.out 0).trans rfl
   have hcz9_1 : w5.cell? ⟨gb414, 1, none⟩ = some (.int .u64 a0_1) := (blk_cell BK414.out 1).trans rfl
   have hcz9_2 : w5.cell? ⟨gb414, 2, none⟩ = some (.int .u64 a0_2) := (blk_cell BK414.out 2).trans rfl
   have hfz9_0 := blk_frozen BK414.out 0
   have hfz9_1 := blk_frozen BK414.out 1
   have hfz9_2 := blk_frozen BK414.out 2
   go_wp2_with (first | ((with_reducible refine gate_callee (f := 92) rfl ?_); refine goesL_ (some 7) rfl rfl Try.func92 kf rfl #[.agg #[.bool a0_0, .int .u64 a0_1, .int .u64 a0_2]] rfl sm ?_; (with_reducible refine (impl_wide_isZero.calls a0_0 a0_1 a0_2 true _ A6.out).mono ?_); rintro e w10 ⟨rfl, hb⟩; refine ⟨_, rfl, ?_⟩; have n0_ := bb BK414 hb; have n1_ := bb BK415 hb; have n2_ := Aside0.mk (below_step (bz2 GE414 GE415) hb); clear BK414; clear BK415; clear HB; have BK414 := n0_; have BK415 := n1_; have HB := n2_; clear n0_ n1_ n2_; (try clear hb); (try clear hb2); (try clear hk); (try clear hi); have hcz11_0 : w10.cell? ⟨gb415, 0, none⟩ = some (.bool a1_0) := (blk_cell BK415.out 0).trans rfl; have hcz11_1 : w10.cell? ⟨gb415, 1, none⟩ = some (.int .u64 a1_1) := (blk_cell BK415.out 1).trans rfl; have hcz11_2 : w10.cell? ⟨gb415, 2, none⟩ = some (.int .u64 a1_2) := (blk_cell BK415.out 2).trans rfl; have hfz11_0 := blk_frozen BK415.out 0; have hfz11_1 := blk_frozen BK415.out 1; have hfz11_2 := blk_frozen BK415.out 2) | (go_at_call 92; (with_reducible refine (impl_wide_isZero.calls a1_0 a1_1 a1_2 t417 _ A8.out).mono ?_); rintro e w12 ⟨rfl, hb⟩; have n0_ := bb BK414 hb; have n1_ := bb BK415 hb; have n2_ := Aside0.mk (below_step (bz2 GE414 GE415) hb); clear BK414; clear BK415; clear HB; have BK414 := n0_; have BK415 := n1_; have HB := n2_; clear n0_ n1_ n2_; (try clear hb); (try clear hb2); (try clear hk); (try clear hi)))
   go_meet
   case rel => exact ⟨_, (t417), sr, H', ⟨by first | omega | exact Nat.le_refl _⟩, ⟨bk BK414⟩, ⟨bk BK415⟩, ⟨bz2 GE414 GE415⟩⟩
  ·replace c7 := Bool.eq_false_iff.mpr c7
   subst c7
   rw [if_neg (show ¬ (false = true) by decide)] at H
   have H' := Aside0.mk H
   clear H
   have hcz13_0 : w5.cell? ⟨gb414, 0, none⟩ = some (.bool a0_0) := (blk_cell BK414.out 0).trans rfl
   have hcz13_1 : w5.cell? ⟨gb414, 1, none⟩ = some (.int .u64 a0_1) := (blk_cell BK414.out 1).trans rfl
   have hcz13_2 : w5.cell? ⟨gb414, 2, none⟩ = some (.int .u64 a0_2) := (blk_cell BK414.out 2).trans rfl
   have hfz13_0 := blk_frozen BK414.out 0
   have hfz13_1 := blk_frozen BK414.out 1
   have hfz13_2 := blk_frozen BK414.out 2
   go_wp2_with (first | ((with_reducible refine gate_callee (f := 92) rfl ?_); refine goesL_ (some 7) rfl rfl Try.func92 kf rfl #[.agg #[.bool a0_0, .int .u64 a0_1, .int .u64 a0_2]] rfl sm ?_; (with_reducible refine (impl_wide_isZero.calls a0_0 a0_1 a0_2 false _ A6.out).mono ?_); rintro e w14 ⟨rfl, hb⟩; refine ⟨_, rfl, ?_⟩; have n0_ := bb BK414 hb; have n1_ := bb BK415 hb; have n2_ := Aside0.mk (below_step (bz2 GE414 GE415) hb); clear BK414; clear BK415; clear HB; have BK414 := n0_; have BK415 := n1_; have HB := n2_; clear n0_ n1_ n2_; (try clear hb); (try clear hb2); (try clear hk); (try clear hi)))
   go_meet
   case rel => exact ⟨_, (false), sr, H', ⟨by first | omega | exact Nat.le_refl _⟩, ⟨bk BK414⟩, ⟨bk BK415⟩, ⟨bz2 GE414 GE415⟩⟩
 case rest =>
  clear HC3
  try clear p2; try clear c7; try clear c8; try clear c9; try clear hcz11_0; try clear hcz11_1; try clear hcz11_2; try clear hcz13_0; try clear hcz13_1; try clear hcz13_2; try clear hcz9_0; try clear hcz9_1; try clear hcz9_2; try clear hfz11_0; try clear hfz11_1; try clear hfz11_2; try clear hfz13_0; try clear hfz13_1; try clear hfz13_2; try clear hfz9_0; try clear hfz9_1; try clear hfz9_2
  obtain ⟨kq, x5_2, rfl, HA, HJ2, BK414, BK415, HB⟩ := hcut
  cases kq with
  | zero => exact absurd HA.out (by simp [impl_compareWide.j0])
  | succ kj2 =>
   have H := HA.out
   clear HA
   simp only [impl_compareWide.j0] at H
   by_cases c15 : x5_2 = true
   ·subst c15
    rw [if_pos rfl] at H
    obtain rfl := Option.some.inj H
    go_wp2
    go_ret
    exact ⟨er, bz2 GE414 GE415⟩
   ·replace c15 := Bool.eq_false_iff.mpr c15
    subst c15
    rw [if_neg (show ¬ (false = true) by decide)] at H
    by_cases c16 : (a0_0 != a1_0) = true
    ·rw [if_pos c16] at H
     have c16b0 : (a0_0 != a1_0) = true := c16
     (try (have c16b1 : decide (a0_0 = a1_0) = false := by simpa using c16))
     (try (have c16b2 : (a0_0 == a1_0) = false := by simpa using c16))
     (try (have c16b3 : ¬ (a0_0 = a1_0) := by simpa using c16))
     clear c16
     by_cases c17 : a0_0 = true
     ·subst c17
      rw [if_pos rfl] at H
      obtain rfl := Option.some.inj H
      have hcz18_0 : wc.cell? ⟨gb414, 0, none⟩ = some (.bool true) := (blk_cell BK414.out 0).trans rfl
      have hcz18_1 : wc.cell? ⟨gb414, 1, none⟩ = some (.int .u64 a0_1) := (blk_cell BK414.out 1).trans rfl
      have hcz18_2 : wc.cell? ⟨gb414, 2, none⟩ = some (.int .u64 a0_2) := (blk_cell BK414.out 2).trans rfl
      have hfz18_0 := blk_frozen BK414.out 0
      have hfz18_1 := blk_frozen BK414.out 1
      have hfz18_2 := blk_frozen BK414.out 2
      have hcz19_0 : wc.cell? ⟨gb415, 0, none⟩ = some (.bool a1_0) := (blk_cell BK415.out 0).trans rfl
      have hcz19_1 : wc.cell? ⟨gb415, 1, none⟩ = some (.int .u64 a1_1) := (blk_cell BK415.out 1).trans rfl
      have hcz19_2 : wc.cell? ⟨gb415, 2, none⟩ = some (.int .u64 a1_2) := (blk_cell BK415.out 2).trans rfl
      have hfz19_0 := blk_frozen BK415.out 0
      have hfz19_1 := blk_frozen BK415.out 1
      have hfz19_2 := blk_frozen BK415.out 2
      go_wp2
      go_ret
      exact ⟨er, bz2 GE414 GE415⟩
     ·replace c17 := Bool.eq_false_iff.mpr c17
      subst c17
      rw [if_neg (show ¬ (false = true) by decide)] at H
      obtain rfl := Option.some.inj H
      have hcz20_0 : wc.cell? ⟨gb414, 0, none⟩ = some (.bool false) := (blk_cell BK414.out 0).trans rfl
      have hcz20_1 : wc.cell? ⟨gb414, 1, none⟩ = some (.int .u64 a0_1) := (blk_cell BK414.out 1).trans rfl
      have hcz20_2 : wc.cell? ⟨gb414, 2, none⟩ = some (.int .u64 a0_2) := (blk_cell BK414.out 2).trans rfl
      have hfz20_0 := blk_frozen BK414.out 0
      have hfz20_1 := blk_frozen BK414.out 1
      have hfz20_2 := blk_frozen BK414.out 2
      have hcz21_0 : wc.cell? ⟨gb415, 0, none⟩ = some (.bool a1_0) := (blk_cell BK415.out 0).trans rfl
      have hcz21_1 : wc.cell? ⟨gb415, 1, none⟩ = some (.int .u64 a1_1) := (blk_cell BK415.out 1).trans rfl
      have hcz21_2 : wc.cell? ⟨gb415, 2, none⟩ = some (.int .u64 a1_2) := (blk_cell BK415.out 2).trans rfl
      have hfz21_0 := blk_frozen BK415.out 0
      have hfz21_1 := blk_frozen BK415.out 1
      have hfz21_2 := blk_frozen BK415.out 2
      go_wp2
      go_ret
      exact ⟨er, bz2 GE414 GE415⟩
    ·rw [if_neg c16] at H
     have c16b0 : (a0_0 != a1_0) = false := by simpa using c16
     (try (have c16b1 : decide (a0_0 = a1_0) = true := by simpa using c16))
     (try (have c16b2 : (a0_0 == a1_0) = true := by simpa using c16))
     clear c16
     by_cases c22 : a0_0 = true
     ·subst c22
      rw [if_pos rfl] at H
      obtain ⟨t418, A23, H⟩ := bi H
      obtain rfl := Option.some.inj H
      have hcz24_0 : wc.cell? ⟨gb414, 0, none⟩ = some (.bool true) := (blk_cell BK414.out 0).trans rfl
      have hcz24_1 : wc.cell? ⟨gb414, 1, none⟩ = some (.int .u64 a0_1) := (blk_cell BK414.out 1).trans rfl
      have hcz24_2 : wc.cell? ⟨gb414, 2, none⟩ = some (.int .u64 a0_2) := (blk_cell BK414.out 2).trans rfl
      have hfz24_0 := blk_frozen BK414.out 0
      have hfz24_1 := blk_frozen BK414.out 1
      have hfz24_2 := blk_frozen BK414.out 2
      have hcz25_0 : wc.cell? ⟨gb415, 0, none⟩ = some (.bool a1_0) := (blk_cell BK415.out 0).trans rfl
      have hcz25_1 : wc.cell? ⟨gb415, 1, none⟩ = some (.int .u64 a1_1) := (blk_cell BK415.out 1).trans rfl
      have hcz25_2 : wc.cell? ⟨gb415, 2, none⟩ = some (.int .u64 a1_2) := (blk_cell BK415.out 2).trans rfl
      have hfz25_0 := blk_frozen BK415.out 0
      have hfz25_1 := blk_frozen BK415.out 1
      have hfz25_2 := blk_frozen BK415.out 2
      go_wp2_with (first | ((with_reducible refine gate_callee (f := 104) rfl ?_); refine goesL_ (some 25) rfl rfl Try.func104 kf rfl #[.agg #[.bool a1_0, .int .u64 a1_1, .int .u64 a1_2], .agg #[.bool true, .int .u64 a0_1, .int .u64 a0_2]] rfl sm ?_; (with_reducible refine (impl_compareSizes.calls kj2 a1_0 a1_1 a1_2 true a0_1 a0_2 t418 _ A23.out).mono ?_); rintro e w26 ⟨rfl, hb⟩; refine ⟨_, rfl, ?_⟩; have n0_ := bb BK414 hb; have n1_ := bb BK415 hb; have n2_ := Aside0.mk (below_step (bz2 GE414 GE415) hb); clear BK414; clear BK415; clear HB; have BK414 := n0_; have BK415 := n1_; have HB := n2_; clear n0_ n1_ n2_; (try clear hb); (try clear hb2); (try clear hk); (try clear hi)))
      go_ret
      exact ⟨er, bz2 GE414 GE415⟩
     ·replace c22 := Bool.eq_false_iff.mpr c22
      subst c22
      rw [if_neg (show ¬ (false = true) by decide)] at H
      obtain ⟨t419, A27, H⟩ := bi H
      obtain rfl := Option.some.inj H
      have hcz28_0 : wc.cell? ⟨gb414, 0, none⟩ = some (.bool false) := (blk_cell BK414.out 0).trans rfl
      have hcz28_1 : wc.cell? ⟨gb414, 1, none⟩ = some (.int .u64 a0_1) := (blk_cell BK414.out 1).trans rfl
      have hcz28_2 : wc.cell? ⟨gb414, 2, none⟩ = some (.int .u64 a0_2) := (blk_cell BK414.out 2).trans rfl
      have hfz28_0 := blk_frozen BK414.out 0
      have hfz28_1 := blk_frozen BK414.out 1
      have hfz28_2 := blk_frozen BK414.out 2
      have hcz29_0 : wc.cell? ⟨gb415, 0, none⟩ = some (.bool a1_0) := (blk_cell BK415.out 0).trans rfl
      have hcz29_1 : wc.cell? ⟨gb415, 1, none⟩ = some (.int .u64 a1_1) := (blk_cell BK415.out 1).trans rfl
      have hcz29_2 : wc.cell? ⟨gb415, 2, none⟩ = some (.int .u64 a1_2) := (blk_cell BK415.out 2).trans rfl
      have hfz29_0 := blk_frozen BK415.out 0
      have hfz29_1 := blk_frozen BK415.out 1
      have hfz29_2 := blk_frozen BK415.out 2
      go_wp2_with (first | ((with_reducible refine gate_callee (f := 104) rfl ?_); refine goesL_ (some 28) rfl rfl Try.func104 kf rfl #[.agg #[.bool false, .int .u64 a0_1, .int .u64 a0_2], .agg #[.bool a1_0, .int .u64 a1_1, .int .u64 a1_2]] rfl sm ?_; (with_reducible refine (impl_compareSizes.calls kj2 false a0_1 a0_2 a1_0 a1_1 a1_2 t419 _ A27.out).mono ?_); rintro e w30 ⟨rfl, hb⟩; refine ⟨_, rfl, ?_⟩; have n0_ := bb BK414 hb; have n1_ := bb BK415 hb; have n2_ := Aside0.mk (below_step (bz2 GE414 GE415) hb); clear BK414; clear BK415; clear HB; have BK414 := n0_; have BK415 := n1_; have HB := n2_; clear n0_ n1_ n2_; (try clear hb); (try clear hb2); (try clear hk); (try clear hi)))
      go_ret
      exact ⟨er, bz2 GE414 GE415⟩
def impl_compareD.f (k : Nat) (a0_0 : Int) (a0_1 : Int) (a1_0 : Int) (a1_1 : Int) : Option (Int) := (impl_wideOf.f a0_0).bind fun bt422 => ((impl_wide_shift.f bt422.1 bt422.2.1 bt422.2.2 (wrap64 ((mx a0_1 a1_1) - a0_1))).bind fun bt425 => ((impl_wideOf.f a1_0).bind fun bt428 => ((impl_wide_shift.f bt428.1 bt428.2.1 bt428.2.2 (wrap64 ((mx a0_1 a1_1) - a1_1))).bind fun bt431 => ((impl_compareWide.f k bt425.1 bt425.2.1 bt425.2.2 bt431.1 bt431.2.1 bt431.2.2).bind fun t434 => (some t434)))))
def impl_compareD.T2 : Bool × List (List Nat × List Nat) := (true, [([], []), ([0], [0]), ([1], [1]), ([], []), ([], []), ([4], [4]), ([3, 5], [3, 5]), ([2, 6, 2], [2, 6]), ([], []), ([8], [8]), ([9, 7], [9]), ([], []), ([], []), ([12], [12]), ([11, 13], [11, 13]), ([10, 14, 10], [10, 14]), ([7, 15, 15], [7, 15]), ([16, 16, 0, 1, 2, 3, 4, 5, 6, 7, 8, 9, 10, 11, 12, 13, 14, 15, 16], [16])])
def impl_compareD.B2 : List Nat := [0, 1, 3, 0, 0, 16, 56, 127, 0, 256, 1023, 0, 0, 4096, 14336, 32767, 65535, 131071]
theorem impl_compareD.tab2 : rtab .any (opsOf Try.f52 2) = impl_compareD.T2 := by kernel_rfl
theorem impl_compareD.bits2 : waitsOk impl_compareD.T2.2 impl_compareD.B2 = true := by kernel_rfl
set_option maxHeartbeats 8000000 in
set_option maxRecDepth 100000 in
theorem impl_compareD.calls (k : Nat) (a0_0 : Int) (a0_1 : Int) (a1_0 : Int) (a1_1 : Int) (r : Int) (w : World) (h : impl_compareD.f k a0_0 a0_1 a1_0 a1_1 = some r) :
 Calls Try.prog 52 #[.agg #[.int .i64 a0_0, .int .i64 a0_1], .agg #[.int .i64 a1_0, .int .i64 a1_1]] w fun e w' => e = .returned (.int .i64 r) ∧ Below w.heap.size w w' := by
 have hu25 := Try.underlying25
 have HB := Aside0.mk (Below.refl w.heap.size w)
 have H : ((impl_wideOf.f a0_0).bind fun bt422 => ((impl_wide_shift.f bt422.1 bt422.2.1 bt422.2.2 (wrap64 ((mx a0_1 a1_1) - a0_1))).bind fun bt425 => ((impl_wideOf.f a1_0).bind fun bt428 => ((impl_wide_shift.f bt428.1 bt428.2.1 bt428.2.2 (wrap64 ((mx a0_1 a1_1) - a1_1))).bind fun bt431 => ((impl_compareWide.f k bt425.1 bt425.2.1 bt425.2.2 bt431.1 bt431.2.1 bt431.2.2).bind fun t434 => (some t434)))))) = some r := h
 clear h
 obtain ⟨ji3, hji3⟩ : ∃ j_ : Int, (mx a0_1 a1_1) = j_ := ⟨_, rfl⟩
 first | rw [hji3] at H | simp only [hji3] at H
 have hji3_ : (if a0_1 < a1_1 then a1_1 else a0_1) = ji3 := hji3
 obtain ⟨⟨t422, t423, t424⟩, A4, H⟩ := bi H
 try dsimp only at H
 obtain ⟨⟨t425, t426, t427⟩, A5, H⟩ := bi H
 try dsimp only at H
 obtain ⟨⟨t428, t429, t430⟩, A6, H⟩ := bi H
 try dsimp only at H
 obtain ⟨⟨t431, t432, t433⟩, A7, H⟩ := bi H
 try dsimp only at H
 obtain ⟨t434, A8, H⟩ := bi H
 obtain rfl := Option.some.inj H
 go_enter Try.func52, Try.ntmps52
 try go_wp2_with (first | ((with_reducible refine gate_dst (N := 2) rfl ?_); refine bv (N := 2) (cs := #[.int .i64 a0_0, .int .i64 a0_1]) (t := 25) ?_; intro gb420 hg w9 hbox hb; have n0_ := Aside0.mk (below_step bz hb); have n1_ := Aside0.mk (hbox); have n2_ := (gz hg : Aside0 (w.heap.size ≤ _)); have n3_ := (gz hg : Aside0 (w.heap.size ≤ _)); clear HB; have HB := n0_; have BK420 := n1_; have GW420 := n2_; have GE420 := n3_; clear n0_ n1_ n2_ n3_; clear hb hbox hg) | ((with_reducible refine gate_dst (N := 3) rfl ?_); refine bv (N := 3) (cs := #[.int .i64 a1_0, .int .i64 a1_1]) (t := 25) ?_; intro gb421 hg w10 hbox hb; have n0_ := bb BK420 hb; have n1_ := Aside0.mk (below_step (bz1 GE420) hb); have n2_ := Aside0.mk (hbox); have n3_ := Aside0.mk ((by rw [hg]; exact (below_size (bz1 GE420)) : w.heap.size ≤ gb421)); have n4_ := Aside0.mk ((by rw [hg]; exact (below_size (bz1 GE420)) : w.heap.size ≤ gb421)); have n5_ := Aside0.mk ((by rw [hg]; exact Nat.ne_of_lt (blk_lt (g := gb420) (o := .cells #[.int .i64 a0_0, .int .i64 a0_1] 25 (0, 0)) (bk BK420)) : gb420 ≠ gb421)); have n6_ := Aside0.mk ((by rw [hg]; exact Nat.ne_of_gt (blk_lt (g := gb420) (o := .cells #[.int .i64 a0_0, .int .i64 a0_1] 25 (0, 0)) (bk BK420)) : gb421 ≠ gb420)); have n7_ := Aside0.mk ((by rw [hg]; exact blk_lt (g := gb420) (o := .cells #[.int .i64 a0_0, .int .i64 a0_1] 25 (0, 0)) (bk BK420) : gb420 < gb421)); clear BK420; clear HB; have BK420 := n0_; have HB := n1_; have BK421 := n2_; have GW421 := n3_; have GE421 := n4_; have NB420_421 := n5_; have NB421_420 := n6_; have LT420_421 := n7_; clear n0_ n1_ n2_ n3_ n4_ n5_ n6_ n7_; clear hb hbox hg; have hlt11 := LT420_421.out; have hcz12_0 : w10.cell? ⟨gb420, 0, none⟩ = some (.int .i64 a0_0) := (blk_cell BK420.out 0).trans rfl; have hcz12_1 : w10.cell? ⟨gb420, 1, none⟩ = some (.int .i64 a0_1) := (blk_cell BK420.out 1).trans rfl; have hfz12_0 := blk_frozen BK420.out 0; have hfz12_1 := blk_frozen BK420.out 1; have hcz13_0 : w10.cell? ⟨gb421, 0, none⟩ = some (.int .i64 a1_0) := (blk_cell BK421.out 0).trans rfl; have hcz13_1 : w10.cell? ⟨gb421, 1, none⟩ = some (.int .i64 a1_1) := (blk_cell BK421.out 1).trans rfl; have hfz13_0 := blk_frozen BK421.out 0; have hfz13_1 := blk_frozen BK421.out 1))
 have n0_ := Aside0.mk (blk_drew BK420.out)
 have n1_ := Aside0.mk (blk_drew BK421.out)
 have n2_ := Aside0.mk (below_drew1 HB.out)
 clear BK420 BK421 HB
 have BK420 := n0_
 have BK421 := n1_
 have HB := n2_
 clear n0_ n1_ n2_
 refine start_ (n := 18) (S := fun w' => w'.cell? ⟨gb420, 0, none⟩ = some (.int .i64 a0_0) ∧ w'.cell? ⟨gb420, 1, none⟩ = some (.int .i64 a0_1) ∧ w'.cell? ⟨gb421, 0, none⟩ = some (.int .i64 a1_0) ∧ w'.cell? ⟨gb421, 1, none⟩ = some (.int .i64 a1_1)) (ds := []) #[fF, fF, fF, fF, fF, fF, fF, fF, fF, fF, fF, fF, fF, fF, fF, fF, fF, fF] kf rfl rfl ⟨(blk_cell BK420.out 0).trans rfl, (blk_cell BK420.out 1).trans rfl, (blk_cell BK421.out 0).trans rfl, (blk_cell BK421.out 1).trans rfl⟩ (fun hHeld => ?_); refine with_tabW impl_compareD.tab2 impl_compareD.bits2 (fun HT_ HW_ => ?_)
 generalize w10.drew = w14 at BK420 BK421 HB hHeld ⊢
 refine pq (i := 0) (N := some 11) #[tT, fF, fF, fF, fF, fF, fF, fF, fF, fF, fF, fF, fF, fF, fF, fF, fF, fF] rfl rfl HT_.out ?_
 refine pq (i := 3) (N := some 14) #[tT, fF, fF, tT, fF, fF, fF, fF, fF, fF, fF, fF, fF, fF, fF, fF, fF, fF] rfl rfl HT_.out ?_
 refine pq (i := 4) (N := some 15) #[tT, fF, fF, tT, tT, fF, fF, fF, fF, fF, fF, fF, fF, fF, fF, fF, fF, fF] rfl rfl HT_.out ?_
 refine pq (i := 8) (N := some 19) #[tT, fF, fF, tT, tT, fF, fF, fF, tT, fF, fF, fF, fF, fF, fF, fF, fF, fF] rfl rfl HT_.out ?_
 refine pq (i := 11) (N := some 22) #[tT, fF, fF, tT, tT, fF, fF, fF, tT, fF, fF, tT, fF, fF, fF, fF, fF, fF] rfl rfl HT_.out ?_
 refine pq (i := 12) (N := some 23) #[tT, fF, fF, tT, tT, fF, fF, fF, tT, fF, fF, tT, tT, fF, fF, fF, fF, fF] rfl rfl HT_.out ?_
 refine tq4 (i := 1) (N := some 12) #[tT, tT, fF, tT, tT, fF, fF, fF, tT, fF, fF, tT, tT, fF, fF, fF, fF, fF] rfl rfl HT_.out HW_.out hHeld ?_
 refine tq4 (i := 5) (N := some 16) #[tT, tT, fF, tT, tT, tT, fF, fF, tT, fF, fF, tT, tT, fF, fF, fF, fF, fF] rfl rfl HT_.out HW_.out hHeld ?_
 refine pq (i := 6) (N := some 17) #[tT, tT, fF, tT, tT, tT, tT, fF, tT, fF, fF, tT, tT, fF, fF, fF, fF, fF] rfl rfl HT_.out ?_
 refine tq4 (i := 9) (N := some 20) #[tT, tT, fF, tT, tT, tT, tT, fF, tT, tT, fF, tT, tT, fF, fF, fF, fF, fF] rfl rfl HT_.out HW_.out hHeld ?_
 refine tq4 (i := 13) (N := some 24) #[tT, tT, fF, tT, tT, tT, tT, fF, tT, tT, fF, tT, tT, tT, fF, fF, fF, fF] rfl rfl HT_.out HW_.out hHeld ?_
 refine pq (i := 14) (N := some 25) #[tT, tT, fF, tT, tT, tT, tT, fF, tT, tT, fF, tT, tT, tT, tT, fF, fF, fF] rfl rfl HT_.out ?_
 refine one_ (i := 2) (N := some 13) #[tT, tT, tT, tT, tT, tT, tT, fF, tT, tT, fF, tT, tT, tT, tT, fF, fF, fF] rfl rfl (one_of HT_.out kf) (by decide) (fun K hK => ?_)
 refine goes_ Try.func57 kf rfl #[.int .i64 a0_0] (by rfl) rfl rfl sm ?_
 with_reducible refine (impl_wideOf.calls a0_0 t422 t423 t424 _ A4.out).mono ?_
 rintro e w15 ⟨rfl, hb⟩
 refine ⟨_, rfl, ?_⟩
 have n0_ := bb BK420 hb
 have n1_ := bb BK421 hb
 have n2_ := Aside0.mk (below_step (bz2 GE420 GE421) hb)
 clear BK420 BK421 HB
 have BK420 := n0_
 have BK421 := n1_
 have HB := n2_
 clear n0_ n1_ n2_
 (try clear hb)
 (try clear hb2)
 (try clear hk)
 (try clear hi)
 refine hK.out _ _ ⟨(blk_cell BK420.out 0).trans rfl, (blk_cell BK420.out 1).trans rfl, (blk_cell BK421.out 0).trans rfl, (blk_cell BK421.out 1).trans rfl⟩ (fun hHeld => ?_)
 clear hK K
 refine norm_ (a' := ?_) ?_ ?_
 rotate_left
 ·show Act.put _ (some 13) _ = _
  simp only [Act.put, List.setIfInBounds_toArray, List.set_cons_zero, List.set_cons_succ, i64_w, i32_w]
  rfl
 refine one_ (i := 7) (N := some 18) #[tT, tT, tT, tT, tT, tT, tT, tT, tT, tT, fF, tT, tT, tT, tT, fF, fF, fF] rfl rfl (one_of HT_.out kf) (by decide) (fun K hK => ?_)
 refine goes_ Try.func80 kf rfl #[.agg #[.bool t422, .int .u64 t423, .int .u64 t424], .int .i64 (wrap64 ((ji3) - a0_1))] (by rfl) rfl rfl (by (try simp only [List.map_toArray, List.map_cons, List.map_nil]); first | done | (simp only [hji3]; rfl) | rfl | (simp only [List.length_drop, List.length_take]; rfl)) ?_
 with_reducible refine (impl_wide_shift.calls t422 t423 t424 (wrap64 ((ji3) - a0_1)) t425 t426 t427 _ A5.out).mono ?_
 rintro e w16 ⟨rfl, hb⟩
 refine ⟨_, rfl, ?_⟩
 have n0_ := bb BK420 hb
 have n1_ := bb BK421 hb
 have n2_ := Aside0.mk (below_step (bz2 GE420 GE421) hb)
 clear BK420 BK421 HB
 have BK420 := n0_
 have BK421 := n1_
 have HB := n2_
 clear n0_ n1_ n2_
 (try clear hb)
 (try clear hb2)
 (try clear hk)
 (try clear hi)
 refine hK.out _ _ ⟨(blk_cell BK420.out 0).trans rfl, (blk_cell BK420.out 1).trans rfl, (blk_cell BK421.out 0).trans rfl, (blk_cell BK421.out 1).trans rfl⟩ (fun hHeld => ?_)
 clear hK K
 refine norm_ (a' := ?_) ?_ ?_
 rotate_left
 ·show Act.put _ (some 18) _ = _
  simp only [Act.put, List.setIfInBounds_toArray, List.set_cons_zero, List.set_cons_succ, i64_w, i32_w]
  rfl
 refine one_ (i := 10) (N := some 21) #[tT, tT, tT, tT, tT, tT, tT, tT, tT, tT, tT, tT, tT, tT, tT, fF, fF, fF] rfl rfl (one_of HT_.out kf) (by decide) (fun K hK => ?_)
 refine goes_ Try.func57 kf rfl #[.int .i64 a1_0] (by rfl) rfl rfl sm ?_
 with_reducible refine (impl_wideOf.calls a1_0 t428 t429 t430 _ A6.out).mono ?_
 rintro e w17 ⟨rfl, hb⟩
 refine ⟨_, rfl, ?_⟩
 have n0_ := bb BK420 hb
 have n1_ := bb BK421 hb
 have n2_ := Aside0.mk (below_step (bz2 GE420 GE421) hb)
 clear BK420 BK421 HB
 have BK420 := n0_
 have BK421 := n1_
 have HB := n2_
 clear n0_ n1_ n2_
 (try clear hb)
 (try clear hb2)
 (try clear hk)
 (try clear hi)
 refine hK.out _ _ ⟨(blk_cell BK420.out 0).trans rfl, (blk_cell BK420.out 1).trans rfl, (blk_cell BK421.out 0).trans rfl, (blk_cell BK421.out 1).trans rfl⟩ (fun hHeld => ?_)
 clear hK K
 refine norm_ (a' := ?_) ?_ ?_
 rotate_left
 ·show Act.put _ (some 21) _ = _
  simp only [Act.put, List.setIfInBounds_toArray, List.set_cons_zero, List.set_cons_succ, i64_w, i32_w]
  rfl
 refine one_ (i := 15) (N := some 26) #[tT, tT, tT, tT, tT, tT, tT, tT, tT, tT, tT, tT, tT, tT, tT, tT, fF, fF] rfl rfl (one_of HT_.out kf) (by decide) (fun K hK => ?_)
 refine goes_ Try.func80 kf rfl #[.agg #[.bool t428, .int .u64 t429, .int .u64 t430], .int .i64 (wrap64 ((ji3) - a1_1))] (by rfl) rfl rfl (by (try simp only [List.map_toArray, List.map_cons, List.map_nil]); first | done | (simp only [hji3]; rfl) | rfl | (simp only [List.length_drop, List.length_take]; rfl)) ?_
 with_reducible refine (impl_wide_shift.calls t428 t429 t430 (wrap64 ((ji3) - a1_1)) t431 t432 t433 _ A7.out).mono ?_
 rintro e w18 ⟨rfl, hb⟩
 refine ⟨_, rfl, ?_⟩
 have n0_ := bb BK420 hb
 have n1_ := bb BK421 hb
 have n2_ := Aside0.mk (below_step (bz2 GE420 GE421) hb)
 clear BK420 BK421 HB
 have BK420 := n0_
 have BK421 := n1_
 have HB := n2_
 clear n0_ n1_ n2_
 (try clear hb)
 (try clear hb2)
 (try clear hk)
 (try clear hi)
 refine hK.out _ _ ⟨(blk_cell BK420.out 0).trans rfl, (blk_cell BK420.out 1).trans rfl, (blk_cell BK421.out 0).trans rfl, (blk_cell BK421.out 1).trans rfl⟩ (fun hHeld => ?_)
 clear hK K
 refine norm_ (a' := ?_) ?_ ?_
 rotate_left
 ·show Act.put _ (some 26) _ = _
  simp only [Act.put, List.setIfInBounds_toArray, List.set_cons_zero, List.set_cons_succ, i64_w, i32_w]
  rfl
 refine one_ (i := 16) (N := some 27) #[tT, tT, tT, tT, tT, tT, tT, tT, tT, tT, tT, tT, tT, tT, tT, tT, tT, fF] rfl rfl (one_of HT_.out kf) (by decide) (fun K hK => ?_)
 refine goes_ Try.func86 kf rfl #[.agg #[.bool t425, .int .u64 t426, .int .u64 t427], .agg #[.bool t431, .int .u64 t432, .int .u64 t433]] (by rfl) rfl rfl sm ?_
 with_reducible refine (impl_compareWide.calls k t425 t426 t427 t431 t432 t433 t434 _ A8.out).mono ?_
 rintro e w19 ⟨rfl, hb⟩
 refine ⟨_, rfl, ?_⟩
 have n0_ := bb BK420 hb
 have n1_ := bb BK421 hb
 have n2_ := Aside0.mk (below_step (bz2 GE420 GE421) hb)
 clear BK420 BK421 HB
 have BK420 := n0_
 have BK421 := n1_
 have HB := n2_
 clear n0_ n1_ n2_
 (try clear hb)
 (try clear hb2)
 (try clear hk)
 (try clear hi)
 refine hK.out _ _ ⟨(blk_cell BK420.out 0).trans rfl, (blk_cell BK420.out 1).trans rfl, (blk_cell BK421.out 0).trans rfl, (blk_cell BK421.out 1).trans rfl⟩ (fun hHeld => ?_)
 clear hK K
 refine norm_ (a' := ?_) ?_ ?_
 rotate_left
 ·show Act.put _ (some 27) _ = _
  simp only [Act.put, List.setIfInBounds_toArray, List.set_cons_zero, List.set_cons_succ, i64_w, i32_w]
  rfl
 refine pq (i := 17) (N := some 4) #[tT, tT, tT, tT, tT, tT, tT, tT, tT, tT, tT, tT, tT, tT, tT, tT, tT, tT] rfl rfl HT_.out ?_
 refine done_ (done_of HT_.out kf) ?_
 try go_wp2
 go_ret
 exact ⟨by first | rfl | (simp [errW_none, errW_some] <;> rfl) | (simp only [← hji3]; first | rfl | (simp [errW_none, errW_some] <;> rfl)) | (simp [*, errW_none, errW_some] <;> rfl), bz2 GE420 GE421⟩
def impl_CompareDyadic.f (k : Nat) (a0_0 : Int) (a0_1 : Int) (a1_0 : Int) (a1_1 : Int) : Option (Int × Bool) := (impl_isDyadic.f a0_0 a0_1).bind fun t437 => (if t437 = true then ((impl_isDyadic.f a1_0 a1_1).bind fun t438 => (if t438 = true then ((impl_compareD.f k a0_0 a0_1 a1_0 a1_1).bind fun t439 => (some (t439, true))) else (some (0, false)))) else (some (0, false)))
set_option maxHeartbeats 8000000 in
set_option maxRecDepth 100000 in
theorem impl_CompareDyadic.calls (k : Nat) (a0_0 : Int) (a0_1 : Int) (a1_0 : Int) (a1_1 : Int) (r1 : Int) (r2 : Bool) (w : World) (h : impl_CompareDyadic.f k a0_0 a0_1 a1_0 a1_1 = some (r1, r2)) :
 Calls Try.prog 16 #[.agg #[.int .i64 a0_0, .int .i64 a0_1], .agg #[.int .i64 a1_0, .int .i64 a1_1]] w fun e w' => e = .returned (.tuple #[.int .i64 r1, .bool r2]) ∧ Below w.heap.size w w' := by
 have hu25 := Try.underlying25
 have HB := Aside0.mk (Below.refl w.heap.size w)
 have H : ((impl_isDyadic.f a0_0 a0_1).bind fun t437 => (if t437 = true then ((impl_isDyadic.f a1_0 a1_1).bind fun t438 => (if t438 = true then ((impl_compareD.f k a0_0 a0_1 a1_0 a1_1).bind fun t439 => (some (t439, true))) else (some (0, false)))) else (some (0, false)))) = some (r1, r2) := h
 clear h
 obtain ⟨t437, A3, H⟩ := bi H
 by_cases c4 : t437 = true
 ·subst c4
  rw [if_pos rfl] at H
  obtain ⟨t438, A5, H⟩ := bi H
  by_cases c6 : t438 = true
  ·subst c6
   rw [if_pos rfl] at H
   obtain ⟨t439, A7, H⟩ := bi H
   simp only [Option.some.injEq, Prod.mk.injEq] at H
   obtain ⟨rfl, rfl⟩ := H
   go_enter Try.func16, Try.ntmps16
   go_wp2_with (first | ((with_reducible refine gate_dst (N := 2) rfl ?_); refine bv (N := 2) (cs := #[.int .i64 a0_0, .int .i64 a0_1]) (t := 25) ?_; intro gb435 hg w8 hbox hb; have n0_ := Aside0.mk (below_step bz hb); have n1_ := Aside0.mk (hbox); have n2_ := (gz hg : Aside0 (w.heap.size ≤ _)); have n3_ := (gz hg : Aside0 (w.heap.size ≤ _)); clear HB; have HB := n0_; have BK435 := n1_; have GW435 := n2_; have GE435 := n3_; clear n0_ n1_ n2_ n3_; clear hb hbox hg) | ((with_reducible refine gate_dst (N := 3) rfl ?_); refine bv (N := 3) (cs := #[.int .i64 a1_0, .int .i64 a1_1]) (t := 25) ?_; intro gb436 hg w9 hbox hb; have n0_ := bb BK435 hb; have n1_ := Aside0.mk (below_step (bz1 GE435) hb); have n2_ := Aside0.mk (hbox); have n3_ := Aside0.mk ((by rw [hg]; exact (below_size (bz1 GE435)) : w.heap.size ≤ gb436)); have n4_ := Aside0.mk ((by rw [hg]; exact (below_size (bz1 GE435)) : w.heap.size ≤ gb436)); have n5_ := Aside0.mk ((by rw [hg]; exact Nat.ne_of_lt (blk_lt (g := gb435) (o := .cells #[.int .i64 a0_0, .int .i64 a0_1] 25 (0, 0)) (bk BK435)) : gb435 ≠ gb436)); have n6_ := Aside0.mk ((by rw [hg]; exact Nat.ne_of_gt (blk_lt (g := gb435) (o := .cells #[.int .i64 a0_0, .int .i64 a0_1] 25 (0, 0)) (bk BK435)) : gb436 ≠ gb435)); have n7_ := Aside0.mk ((by rw [hg]; exact blk_lt (g := gb435) (o := .cells #[.int .i64 a0_0, .int .i64 a0_1] 25 (0, 0)) (bk BK435) : gb435 < gb436)); clear BK435; clear HB; have BK435 := n0_; have HB := n1_; have BK436 := n2_; have GW436 := n3_; have GE436 := n4_; have NB435_436 := n5_; have NB436_435 := n6_; have LT435_436 := n7_; clear n0_ n1_ n2_ n3_ n4_ n5_ n6_ n7_; clear hb hbox hg; have hlt10 := LT435_436.out; have hcz11_0 : w9.cell? ⟨gb435, 0, none⟩ = some (.int .i64 a0_0) := (blk_cell BK435.out 0).trans rfl; have hcz11_1 : w9.cell? ⟨gb435, 1, none⟩ = some (.int .i64 a0_1) := (blk_cell BK435.out 1).trans rfl; have hfz11_0 := blk_frozen BK435.out 0; have hfz11_1 := blk_frozen BK435.out 1) | ((with_reducible refine gate_callee (f := 42) rfl ?_); refine goesL_ (some 7) rfl rfl Try.func42 kf rfl #[.agg #[.int .i64 a0_0, .int .i64 a0_1]] rfl sm ?_; (with_reducible refine (impl_isDyadic.calls a0_0 a0_1 true _ A3.out).mono ?_); rintro e w12 ⟨rfl, hb⟩; refine ⟨_, rfl, ?_⟩; have n0_ := bb BK435 hb; have n1_ := bb BK436 hb; have n2_ := Aside0.mk (below_step (bz2 GE435 GE436) hb); clear BK435; clear BK436; clear HB; have BK435 := n0_; have BK436 := n1_; have HB := n2_; clear n0_ n1_ n2_; (try clear hb); (try clear hb2); (try clear hk); (try clear hi); have hcz13_0 : w12.cell? ⟨gb436, 0, none⟩ = some (.int .i64 a1_0) := (blk_cell BK436.out 0).trans rfl; have hcz13_1 : w12.cell? ⟨gb436, 1, none⟩ = some (.int .i64 a1_1) := (blk_cell BK436.out 1).trans rfl; have hfz13_0 := blk_frozen BK436.out 0; have hfz13_1 := blk_frozen BK436.out 1) | (go_at_call 42; (with_reducible refine (impl_isDyadic.calls a1_0 a1_1 true _ A5.out).mono ?_); rintro e w14 ⟨rfl, hb⟩; have n0_ := bb BK435 hb; have n1_ := bb BK436 hb; have n2_ := Aside0.mk (below_step (bz2 GE435 GE436) hb); clear BK435; clear BK436; clear HB; have BK435 := n0_; have BK436 := n1_; have HB := n2_; clear n0_ n1_ n2_; (try clear hb); (try clear hb2); (try clear hk); (try clear hi); have hcz15_0 : w14.cell? ⟨gb435, 0, none⟩ = some (.int .i64 a0_0) := (blk_cell BK435.out 0).trans rfl; have hcz15_1 : w14.cell? ⟨gb435, 1, none⟩ = some (.int .i64 a0_1) := (blk_cell BK435.out 1).trans rfl; have hfz15_0 := blk_frozen BK435.out 0; have hfz15_1 := blk_frozen BK435.out 1; have hcz16_0 : w14.cell? ⟨gb436, 0, none⟩ = some (.int .i64 a1_0) := (blk_cell BK436.out 0).trans rfl; have hcz16_1 : w14.cell? ⟨gb436, 1, none⟩ = some (.int .i64 a1_1) := (blk_cell BK436.out 1).trans rfl; have hfz16_0 := blk_frozen BK436.out 0; have hfz16_1 := blk_frozen BK436.out 1) | ((with_reducible refine gate_callee (f := 52) rfl ?_); refine goesL_ (some 16) rfl rfl Try.func52 kf rfl #[.agg #[.int .i64 a0_0, .int .i64 a0_1], .agg #[.int .i64 a1_0, .int .i64 a1_1]] rfl sm ?_; (with_reducible refine (impl_compareD.calls k a0_0 a0_1 a1_0 a1_1 t439 _ A7.out).mono ?_); rintro e w17 ⟨rfl, hb⟩; refine ⟨_, rfl, ?_⟩; have n0_ := bb BK435 hb; have n1_ := bb BK436 hb; have n2_ := Aside0.mk (below_step (bz2 GE435 GE436) hb); clear BK435; clear BK436; clear HB; have BK435 := n0_; have BK436 := n1_; have HB := n2_; clear n0_ n1_ n2_; (try clear hb); (try clear hb2); (try clear hk); (try clear hi)))
   go_ret2
   exact ⟨er, bz2 GE435 GE436⟩
  ·replace c6 := Bool.eq_false_iff.mpr c6
   subst c6
   rw [if_neg (show ¬ (false = true) by decide)] at H
   simp only [Option.some.injEq, Prod.mk.injEq] at H
   obtain ⟨rfl, rfl⟩ := H
   go_enter Try.func16, Try.ntmps16
   go_wp2_with (first | ((with_reducible refine gate_dst (N := 2) rfl ?_); refine bv (N := 2) (cs := #[.int .i64 a0_0, .int .i64 a0_1]) (t := 25) ?_; intro gb435 hg w18 hbox hb; have n0_ := Aside0.mk (below_step bz hb); have n1_ := Aside0.mk (hbox); have n2_ := (gz hg : Aside0 (w.heap.size ≤ _)); have n3_ := (gz hg : Aside0 (w.heap.size ≤ _)); clear HB; have HB := n0_; have BK435 := n1_; have GW435 := n2_; have GE435 := n3_; clear n0_ n1_ n2_ n3_; clear hb hbox hg) | ((with_reducible refine gate_dst (N := 3) rfl ?_); refine bv (N := 3) (cs := #[.int .i64 a1_0, .int .i64 a1_1]) (t := 25) ?_; intro gb436 hg w19 hbox hb; have n0_ := bb BK435 hb; have n1_ := Aside0.mk (below_step (bz1 GE435) hb); have n2_ := Aside0.mk (hbox); have n3_ := Aside0.mk ((by rw [hg]; exact (below_size (bz1 GE435)) : w.heap.size ≤ gb436)); have n4_ := Aside0.mk ((by rw [hg]; exact (below_size (bz1 GE435)) : w.heap.size ≤ gb436)); have n5_ := Aside0.mk ((by rw [hg]; exact Nat.ne_of_lt (blk_lt (g := gb435) (o := .cells #[.int .i64 a0_0, .int .i64 a0_1] 25 (0, 0)) (bk BK435)) : gb435 ≠ gb436)); have n6_ := Aside0.mk ((by rw [hg]; exact Nat.ne_of_gt (blk_lt (g := gb435) (o := .cells #[.int .i64 a0_0, .int .i64 a0_1] 25 (0, 0)) (bk BK435)) : gb436 ≠ gb435)); have n7_ := Aside0.mk ((by rw [hg]; exact blk_lt (g := gb435) (o := .cells #[.int .i64 a0_0, .int .i64 a0_1] 25 (0, 0)) (bk BK435) : gb435 < gb436)); clear BK435; clear HB; have BK435 := n0_; have HB := n1_; have BK436 := n2_; have GW436 := n3_; have GE436 := n4_; have NB435_436 := n5_; have NB436_435 := n6_; have LT435_436 := n7_; clear n0_ n1_ n2_ n3_ n4_ n5_ n6_ n7_; clear hb hbox hg; have hlt20 := LT435_436.out; have hcz21_0 : w19.cell? ⟨gb435, 0, none⟩ = some (.int .i64 a0_0) := (blk_cell BK435.out 0).trans rfl; have hcz21_1 : w19.cell? ⟨gb435, 1, none⟩ = some (.int .i64 a0_1) := (blk_cell BK435.out 1).trans rfl; have hfz21_0 := blk_frozen BK435.out 0; have hfz21_1 := blk_frozen BK435.out 1) | ((with_reducible refine gate_callee (f := 42) rfl ?_); refine goesL_ (some 7) rfl rfl Try.func42 kf rfl #[.agg #[.int .i64 a0_0, .int .i64 a0_1]] rfl sm ?_; (with_reducible refine (impl_isDyadic.calls a0_0 a0_1 true _ A3.out).mono ?_); rintro e w22 ⟨rfl, hb⟩; refine ⟨_, rfl, ?_⟩; have n0_ := bb BK435 hb; have n1_ := bb BK436 hb; have n2_ := Aside0.mk (below_step (bz2 GE435 GE436) hb); clear BK435; clear BK436; clear HB; have BK435 := n0_; have BK436 := n1_; have HB := n2_; clear n0_ n1_ n2_; (try clear hb); (try clear hb2); (try clear hk); (try clear hi); have hcz23_0 : w22.cell? ⟨gb436, 0, none⟩ = some (.int .i64 a1_0) := (blk_cell BK436.out 0).trans rfl; have hcz23_1 : w22.cell? ⟨gb436, 1, none⟩ = some (.int .i64 a1_1) := (blk_cell BK436.out 1).trans rfl; have hfz23_0 := blk_frozen BK436.out 0; have hfz23_1 := blk_frozen BK436.out 1) | (go_at_call 42; (with_reducible refine (impl_isDyadic.calls a1_0 a1_1 false _ A5.out).mono ?_); rintro e w24 ⟨rfl, hb⟩; have n0_ := bb BK435 hb; have n1_ := bb BK436 hb; have n2_ := Aside0.mk (below_step (bz2 GE435 GE436) hb); clear BK435; clear BK436; clear HB; have BK435 := n0_; have BK436 := n1_; have HB := n2_; clear n0_ n1_ n2_; (try clear hb); (try clear hb2); (try clear hk); (try clear hi)))
   go_ret2
   exact ⟨er, bz2 GE435 GE436⟩
 ·replace c4 := Bool.eq_false_iff.mpr c4
  subst c4
  rw [if_neg (show ¬ (false = true) by decide)] at H
  simp only [Option.some.injEq, Prod.mk.injEq] at H
  obtain ⟨rfl, rfl⟩ := H
  go_enter Try.func16, Try.ntmps16
  go_wp2_with (first | ((with_reducible refine gate_dst (N := 2) rfl ?_); refine bv (N := 2) (cs := #[.int .i64 a0_0, .int .i64 a0_1]) (t := 25) ?_; intro gb435 hg w25 hbox hb; have n0_ := Aside0.mk (below_step bz hb); have n1_ := Aside0.mk (hbox); have n2_ := (gz hg : Aside0 (w.heap.size ≤ _)); have n3_ := (gz hg : Aside0 (w.heap.size ≤ _)); clear HB; have HB := n0_; have BK435 := n1_; have GW435 := n2_; have GE435 := n3_; clear n0_ n1_ n2_ n3_; clear hb hbox hg) | ((with_reducible refine gate_dst (N := 3) rfl ?_); refine bv (N := 3) (cs := #[.int .i64 a1_0, .int .i64 a1_1]) (t := 25) ?_; intro gb436 hg w26 hbox hb; have n0_ := bb BK435 hb; have n1_ := Aside0.mk (below_step (bz1 GE435) hb); have n2_ := Aside0.mk (hbox); have n3_ := Aside0.mk ((by rw [hg]; exact (below_size (bz1 GE435)) : w.heap.size ≤ gb436)); have n4_ := Aside0.mk ((by rw [hg]; exact (below_size (bz1 GE435)) : w.heap.size ≤ gb436)); have n5_ := Aside0.mk ((by rw [hg]; exact Nat.ne_of_lt (blk_lt (g := gb435) (o := .cells #[.int .i64 a0_0, .int .i64 a0_1] 25 (0, 0)) (bk BK435)) : gb435 ≠ gb436)); have n6_ := Aside0.mk ((by rw [hg]; exact Nat.ne_of_gt (blk_lt (g := gb435) (o := .cells #[.int .i64 a0_0, .int .i64 a0_1] 25 (0, 0)) (bk BK435)) : gb436 ≠ gb435)); have n7_ := Aside0.mk ((by rw [hg]; exact blk_lt (g := gb435) (o := .cells #[.int .i64 a0_0, .int .i64 a0_1] 25 (0, 0)) (bk BK435) : gb435 < gb436)); clear BK435; clear HB; have BK435 := n0_; have HB := n1_; have BK436 := n2_; have GW436 := n3_; have GE436 := n4_; have NB435_436 := n5_; have NB436_435 := n6_; have LT435_436 := n7_; clear n0_ n1_ n2_ n3_ n4_ n5_ n6_ n7_; clear hb hbox hg; have hlt27 := LT435_436.out; have hcz28_0 : w26.cell? ⟨gb435, 0, none⟩ = some (.int .i64 a0_0) := (blk_cell BK435.out 0).trans rfl; have hcz28_1 : w26.cell? ⟨gb435, 1, none⟩ = some (.int .i64 a0_1) := (blk_cell BK435.out 1).trans rfl; have hfz28_0 := blk_frozen BK435.out 0; have hfz28_1 := blk_frozen BK435.out 1) | ((with_reducible refine gate_callee (f := 42) rfl ?_); refine goesL_ (some 7) rfl rfl Try.func42 kf rfl #[.agg #[.int .i64 a0_0, .int .i64 a0_1]] rfl sm ?_; (with_reducible refine (impl_isDyadic.calls a0_0 a0_1 false _ A3.out).mono ?_); rintro e w29 ⟨rfl, hb⟩; refine ⟨_, rfl, ?_⟩; have n0_ := bb BK435 hb; have n1_ := bb BK436 hb; have n2_ := Aside0.mk (below_step (bz2 GE435 GE436) hb); clear BK435; clear BK436; clear HB; have BK435 := n0_; have BK436 := n1_; have HB := n2_; clear n0_ n1_ n2_; (try clear hb); (try clear hb2); (try clear hk); (try clear hi)))
  go_ret2
  exact ⟨er, bz2 GE435 GE436⟩
def spec_DrawCompareDyadic.f (k : Nat) (l0 : List Int) : Option (Int × Int × Int × Int) := (spec_l1Cur_anyDyadic.f k l0 0 0).bind fun bt443 => ((spec_l1Cur_one.f l0 bt443.2.2.1 bt443.2.2.2 4).bind fun bt448 => (if bt448.1 = true then (some (bt443.1, bt443.2.1, bt443.1, bt443.2.1)) else ((spec_l1Cur_anyDyadic.f k l0 bt448.2.1 bt448.2.2).bind fun bt451 => (some (bt443.1, bt443.2.1, bt451.1, bt451.2.1)))))
set_option maxHeartbeats 8000000 in
set_option maxRecDepth 100000 in
theorem spec_DrawCompareDyadic.calls (k : Nat) (A0 : Option Addr) (c0 : Nat) (l0 : List Int) (r1 : Int) (r2 : Int) (r3 : Int) (r4 : Int) (w : World) (hr0 : Kd.C (Kd.int .u8) w A0 l0.length l0) (hc0 : l0.length ≤ c0) (h : spec_DrawCompareDyadic.f k l0 = some (r1, r2, r3, r4)) :
 Calls Try.prog 17 #[.slice A0 l0.length c0] w fun e w' => e = .returned (.tuple #[.agg #[.int .i64 r1, .int .i64 r2], .agg #[.int .i64 r3, .int .i64 r4]]) ∧ Below w.heap.size w w' := by
 have hu25 := Try.underlying25
 have hu51 := Try.underlying51
 have HR0 := Aside0.mk hr0
 have HC0 := Aside0.mk hc0
 clear hr0 hc0
 have HB := Aside0.mk (Below.refl w.heap.size w)
 have H : ((spec_l1Cur_anyDyadic.f k l0 0 0).bind fun bt443 => ((spec_l1Cur_one.f l0 bt443.2.2.1 bt443.2.2.2 4).bind fun bt448 => (if bt448.1 = true then (some (bt443.1, bt443.2.1, bt443.1, bt443.2.1)) else ((spec_l1Cur_anyDyadic.f k l0 bt448.2.1 bt448.2.2).bind fun bt451 => (some (bt443.1, bt443.2.1, bt451.1, bt451.2.1)))))) = some (r1, r2, r3, r4) := h
 clear h
 obtain ⟨⟨t443, t444, t445, t446⟩, A2, H⟩ := bi H
 try dsimp only at H
 obtain ⟨⟨t448, t449, t450⟩, A3, H⟩ := bi H
 try dsimp only at H
 by_cases c4 : t448 = true
 ·subst c4
  rw [if_pos rfl] at H
  simp only [Option.some.injEq, Prod.mk.injEq] at H
  obtain ⟨rfl, rfl, rfl, rfl⟩ := H
  go_enter Try.func17, Try.ntmps17
  try go_wp2_with (first | ((with_reducible refine gate_dst (N := 2) rfl ?_); refine bv (N := 2) (cs := #[.int .i64 0, .int .i64 0]) (t := 25) ?_; intro gb440 hg w5 hbox hb; have n0_ := Aside0.mk (below_step bz hb); have n1_ := Aside0.mk (hbox); have n2_ := (gz hg : Aside0 (w.heap.size ≤ _)); have n3_ := (gz hg : Aside0 (w.heap.size ≤ _)); clear HB; have HB := n0_; have BK440 := n1_; have GW440 := n2_; have GE440 := n3_; clear n0_ n1_ n2_ n3_; clear hb hbox hg) | ((with_reducible refine gate_dst (N := 3) rfl ?_); refine bv (N := 3) (cs := #[.int .i64 0, .int .i64 0]) (t := 25) ?_; intro gb441 hg w6 hbox hb; have n0_ := bb BK440 hb; have n1_ := Aside0.mk (below_step (bz1 GE440) hb); have n2_ := Aside0.mk (hbox); have n3_ := Aside0.mk ((by rw [hg]; exact (below_size (bz1 GE440)) : w.heap.size ≤ gb441)); have n4_ := Aside0.mk ((by rw [hg]; exact (below_size (bz1 GE440)) : w.heap.size ≤ gb441)); have n5_ := Aside0.mk ((by rw [hg]; exact Nat.ne_of_lt (blk_lt (g := gb440) (o := .cells #[.int .i64 0, .int .i64 0] 25 (0, 0)) (bk BK440)) : gb440 ≠ gb441)); have n6_ := Aside0.mk ((by rw [hg]; exact Nat.ne_of_gt (blk_lt (g := gb440) (o := .cells #[.int .i64 0, .int .i64 0] 25 (0, 0)) (bk BK440)) : gb441 ≠ gb440)); have n7_ := Aside0.mk ((by rw [hg]; exact blk_lt (g := gb440) (o := .cells #[.int .i64 0, .int .i64 0] 25 (0, 0)) (bk BK440) : gb440 < gb441)); clear BK440; clear HB; have BK440 := n0_; have HB := n1_; have BK441 := n2_; have GW441 := n3_; have GE441 := n4_; have NB440_441 := n5_; have NB441_440 := n6_; have LT440_441 := n7_; clear n0_ n1_ n2_ n3_ n4_ n5_ n6_ n7_; clear hb hbox hg) | ((with_reducible refine gate_dst (N := 8) rfl ?_); refine bv (N := 8) (cs := #[.slice A0 l0.length c0, .int .i64 0, .int .u64 0]) (t := 51) ?_; intro gb442 hg w7 hbox hb; have n0_ := bb BK440 hb; have n1_ := bb BK441 hb; have n2_ := Aside0.mk ((by rw [hg]; exact Nat.ne_of_lt (blk_lt (g := gb440) (o := .cells #[.int .i64 0, .int .i64 0] 25 (0, 0)) (bk BK440)) : gb440 ≠ gb442)); have n3_ := Aside0.mk ((by rw [hg]; exact Nat.ne_of_gt (blk_lt (g := gb440) (o := .cells #[.int .i64 0, .int .i64 0] 25 (0, 0)) (bk BK440)) : gb442 ≠ gb440)); have n4_ := Aside0.mk ((by rw [hg]; exact Nat.ne_of_lt (blk_lt (g := gb441) (o := .cells #[.int .i64 0, .int .i64 0] 25 (0, 0)) (bk BK441)) : gb441 ≠ gb442)); have n5_ := Aside0.mk ((by rw [hg]; exact Nat.ne_of_gt (blk_lt (g := gb441) (o := .cells #[.int .i64 0, .int .i64 0] 25 (0, 0)) (bk BK441)) : gb442 ≠ gb441)); have n6_ := Aside0.mk (below_step (bz2 GE440 GE441) hb); have n7_ := Aside0.mk ((show IsS51 w w7 gb442 l0 0 0 from ⟨_, _, hbox, (by rw [hg]; exact (below_size (bz2 GE440 GE441))), HR0.out⟩)); clear BK440; clear BK441; clear HB; have BK440 := n0_; have BK441 := n1_; have NB440_442 := n2_; have NB442_440 := n3_; have NB441_442 := n4_; have NB442_441 := n5_; have HB := n6_; have HI442 := n7_; clear n0_ n1_ n2_ n3_ n4_ n5_ n6_ n7_; clear hb hbox hg) | ((with_reducible refine gate_callee (f := 38) rfl ?_); refine goesL_ (some 10) rfl rfl Try.func38 kf rfl #[.pointer (some ⟨gb442, 0, none⟩)] rfl sm ?_; (with_reducible refine (spec_l1Cur_anyDyadic.calls k gb442 l0 0 0 t443 t444 t445 t446 w _ ?side1 ?side2 A2.out).mono ?_); (case side1 => repeat (first | (with_reducible first | exact HI442.out | apply IsS51.alloc | apply IsS51.drewN | apply IsS51.drew | apply IsS51.set_1 | apply IsS51.set_2 | refine IsS51.far ?_ NB442_440.out _ | refine IsS51.far ?_ NB442_441.out _) | exact HI442.out)); (case side2 => repeat (first | (with_reducible first | exact HB.out | apply below_alloc | apply pw_below_drewN | apply below_drew1 | refine below_set ?_ (IsS51.ge HI442.out) | refine below_set ?_ GE440.out | refine below_set ?_ GE441.out) | exact HB.out)); rintro e w8 ⟨rfl, hi, hb, hk⟩; refine ⟨_, rfl, ?_⟩; have n0_ := Aside0.mk (KeepBut.blk hk (g' := gb440) (o := .cells #[.int .i64 0, .int .i64 0] 25 (0, 0)) (bk BK440) NB440_442.out (by simp)); have n1_ := Aside0.mk (KeepBut.blk hk (g' := gb441) (o := .cells #[.int .i64 0, .int .i64 0] 25 (0, 0)) (bk BK441) NB441_442.out (by simp)); have n2_ := Aside0.mk (hb); have n3_ := Aside0.mk (hi); clear BK440; clear BK441; clear HB; clear HI442; have BK440 := n0_; have BK441 := n1_; have HB := n2_; have HI442 := n3_; clear n0_ n1_ n2_ n3_; (try clear hb); (try clear hb2); (try clear hk); (try clear hi)) | ((with_reducible refine gate_dst (N := 5) rfl ?_); refine bv (N := 5) (cs := #[.int .i64 0, .int .i64 0]) (t := 25) ?_; intro gb447 hg w9 hbox hb; have n0_ := bb BK440 hb; have n1_ := bb BK441 hb; have n2_ := Aside0.mk (IsS51.below (by repeat (first | (with_reducible first | exact HI442.out | apply IsS51.alloc | apply IsS51.drewN | apply IsS51.drew | apply IsS51.set_1 | apply IsS51.set_2 | refine IsS51.far ?_ NB442_440.out _ | refine IsS51.far ?_ NB442_441.out _) | exact HI442.out)) hb); have n3_ := Aside0.mk (below_step (by repeat (first | (with_reducible first | exact HB.out | apply below_alloc | apply pw_below_drewN | apply below_drew1 | refine below_set ?_ (IsS51.ge HI442.out) | refine below_set ?_ GE440.out | refine below_set ?_ GE441.out) | exact HB.out)) hb); have n4_ := Aside0.mk (hbox); have n5_ := Aside0.mk ((by rw [hg]; exact (below_size (by repeat (first | (with_reducible first | exact HB.out | apply below_alloc | apply pw_below_drewN | apply below_drew1 | refine below_set ?_ (IsS51.ge HI442.out) | refine below_set ?_ GE440.out | refine below_set ?_ GE441.out) | exact HB.out))) : w.heap.size ≤ gb447)); have n6_ := Aside0.mk ((by rw [hg]; exact (below_size (by repeat (first | (with_reducible first | exact HB.out | apply below_alloc | apply pw_below_drewN | apply below_drew1 | refine below_set ?_ (IsS51.ge HI442.out) | refine below_set ?_ GE440.out | refine below_set ?_ GE441.out) | exact HB.out))) : w.heap.size ≤ gb447)); have n7_ := Aside0.mk ((by rw [hg]; exact Nat.ne_of_lt (blk_lt (g := gb440) (o := .cells #[.int .i64 0, .int .i64 0] 25 (0, 0)) (bk BK440)) : gb440 ≠ gb447)); have n8_ := Aside0.mk ((by rw [hg]; exact Nat.ne_of_gt (blk_lt (g := gb440) (o := .cells #[.int .i64 0, .int .i64 0] 25 (0, 0)) (bk BK440)) : gb447 ≠ gb440)); have n9_ := Aside0.mk ((by rw [hg]; exact Nat.ne_of_lt (blk_lt (g := gb441) (o := .cells #[.int .i64 0, .int .i64 0] 25 (0, 0)) (bk BK441)) : gb441 ≠ gb447)); have n10_ := Aside0.mk ((by rw [hg]; exact Nat.ne_of_gt (blk_lt (g := gb441) (o := .cells #[.int .i64 0, .int .i64 0] 25 (0, 0)) (bk BK441)) : gb447 ≠ gb441)); have n11_ := Aside0.mk ((by rw [hg]; exact blk_lt (g := gb441) (o := .cells #[.int .i64 0, .int .i64 0] 25 (0, 0)) (bk BK441) : gb441 < gb447)); have n12_ := Aside0.mk ((by rw [hg]; exact Nat.ne_of_lt (IsS51.lt (show IsS51 w _ gb442 l0 t445 t446 from by repeat (first | (with_reducible first | exact HI442.out | apply IsS51.alloc | apply IsS51.drewN | apply IsS51.drew | apply IsS51.set_1 | apply IsS51.set_2 | refine IsS51.far ?_ NB442_440.out _ | refine IsS51.far ?_ NB442_441.out _) | exact HI442.out))) : gb442 ≠ gb447)); have n13_ := Aside0.mk ((by rw [hg]; exact Nat.ne_of_gt (IsS51.lt (show IsS51 w _ gb442 l0 t445 t446 from by repeat (first | (with_reducible first | exact HI442.out | apply IsS51.alloc | apply IsS51.drewN | apply IsS51.drew | apply IsS51.set_1 | apply IsS51.set_2 | refine IsS51.far ?_ NB442_440.out _ | refine IsS51.far ?_ NB442_441.out _) | exact HI442.out))) : gb447 ≠ gb442)); clear BK440; clear BK441; clear HI442; clear HB; have BK440 := n0_; have BK441 := n1_; have HI442 := n2_; have HB := n3_; have BK447 := n4_; have GW447 := n5_; have GE447 := n6_; have NB440_447 := n7_; have NB447_440 := n8_; have NB441_447 := n9_; have NB447_441 := n10_; have LT441_447 := n11_; have NB442_447 := n12_; have NB447_442 := n13_; clear n0_ n1_ n2_ n3_ n4_ n5_ n6_ n7_ n8_ n9_ n10_ n11_ n12_ n13_; clear hb hbox hg; have hlt10 := LT440_441.out; have hlt11 := LT441_447.out; have hnb12 := NB447_442.out; have hnc12 := NB442_447.out; have hcz13_0 : w9.cell? ⟨gb447, 0, none⟩ = some (.int .i64 0) := (blk_cell BK447.out 0).trans rfl; have hcz13_1 : w9.cell? ⟨gb447, 1, none⟩ = some (.int .i64 0) := (blk_cell BK447.out 1).trans rfl; have hfz13_0 := blk_frozen BK447.out 0; have hfz13_1 := blk_frozen BK447.out 1) | ((with_reducible refine gate_callee (f := 39) rfl ?_); refine goesL_ (some 12) rfl rfl Try.func39 kf rfl #[.pointer (some ⟨gb442, 0, none⟩), .int .i64 4] rfl sm ?_; (with_reducible refine (spec_l1Cur_one.calls gb442 l0 t445 t446 4 true t449 t450 w _ ?side1 ?side2 A3.out).mono ?_); (case side1 => repeat (first | (with_reducible first | exact HI442.out | apply IsS51.alloc | apply IsS51.drewN | apply IsS51.drew | apply IsS51.set_1 | apply IsS51.set_2 | refine IsS51.far ?_ NB442_440.out _ | refine IsS51.far ?_ NB442_441.out _ | refine IsS51.far ?_ NB442_447.out _) | exact HI442.out)); (case side2 => repeat (first | (with_reducible first | exact HB.out | apply below_alloc | apply pw_below_drewN | apply below_drew1 | refine below_set ?_ (IsS51.ge HI442.out) | refine below_set ?_ GE440.out | refine below_set ?_ GE441.out | refine below_set ?_ GE447.out) | exact HB.out)); rintro e w14 ⟨rfl, hi, hb, hk⟩; refine ⟨_, rfl, ?_⟩; have n0_ := Aside0.mk (KeepBut.blk hk (g' := gb440) (o := .cells #[.int .i64 0, .int .i64 0] 25 (0, 0)) (by (with_reducible repeat (first | refine blk_drewN ?_ _ | refine blk_drew ?_ | refine blk_alloc ?_ _)); refine blk_far ?_ NB440_447.out _; (with_reducible repeat (first | refine blk_drewN ?_ _ | refine blk_drew ?_ | refine blk_alloc ?_ _)); refine blk_far ?_ NB440_447.out _; (with_reducible repeat (first | refine blk_drewN ?_ _ | refine blk_drew ?_ | refine blk_alloc ?_ _)); exact BK440.out) NB440_442.out (by simp)); have n1_ := Aside0.mk (KeepBut.blk hk (g' := gb441) (o := .cells #[.int .i64 0, .int .i64 0] 25 (0, 0)) (by (with_reducible repeat (first | refine blk_drewN ?_ _ | refine blk_drew ?_ | refine blk_alloc ?_ _)); refine blk_far ?_ NB441_447.out _; (with_reducible repeat (first | refine blk_drewN ?_ _ | refine blk_drew ?_ | refine blk_alloc ?_ _)); refine blk_far ?_ NB441_447.out _; (with_reducible repeat (first | refine blk_drewN ?_ _ | refine blk_drew ?_ | refine blk_alloc ?_ _)); exact BK441.out) NB441_442.out (by simp)); have n2_ := Aside0.mk (KeepBut.blk hk (g' := gb447) (o := .cells #[.int .i64 t443, .int .i64 t444] 25 (0, 0)) (by (with_reducible repeat (first | refine blk_drewN ?_ _ | refine blk_drew ?_ | refine blk_alloc ?_ _)); refine blk_put (cs := #[.int .i64 t443, .int .i64 0]) ?_ 1 _ rfl; (with_reducible repeat (first | refine blk_drewN ?_ _ | refine blk_drew ?_ | refine blk_alloc ?_ _)); refine blk_put (cs := #[.int .i64 0, .int .i64 0]) ?_ 0 _ rfl; (with_reducible repeat (first | refine blk_drewN ?_ _ | refine blk_drew ?_ | refine blk_alloc ?_ _)); exact BK447.out) NB447_442.out (by simp)); have n3_ := Aside0.mk (hb); have n4_ := Aside0.mk (hi); clear BK440; clear BK441; clear BK447; clear HB; clear HI442; have BK440 := n0_; have BK441 := n1_; have BK447 := n2_; have HB := n3_; have HI442 := n4_; clear n0_ n1_ n2_ n3_ n4_; (try clear hb); (try clear hb2); (try clear hk); (try clear hi)))
  have n0_ := Aside0.mk (blk_drew BK440.out)
  have n1_ := Aside0.mk (blk_drew BK441.out)
  have n2_ := Aside0.mk (blk_drew BK447.out)
  have n3_ := Aside0.mk (IsS51.drew HI442.out)
  have n4_ := Aside0.mk (below_drew1 HB.out)
  clear BK440 BK441 BK447 HI442 HB
  have BK440 := n0_
  have BK441 := n1_
  have BK447 := n2_
  have HI442 := n3_
  have HB := n4_
  clear n0_ n1_ n2_ n3_ n4_
  refine start_ (n := 4) (S := fun w' => w'.cell? ⟨gb447, 0, none⟩ = some (.int .i64 t443) ∧ w'.cell? ⟨gb447, 1, none⟩ = some (.int .i64 t444)) (ds := []) #[fF, fF, fF, fF] kf rfl rfl ⟨(blk_cell BK447.out 0).trans rfl, (blk_cell BK447.out 1).trans rfl⟩ (fun hHeld => ?_)
  generalize w14.drew = w15 at BK440 BK441 BK447 HI442 HB hHeld ⊢
  refine take_ (i := 0) (N := some 13) (v := ?_) (a' := ?_) #[tT, fF, fF, fF] rfl rfl kf (fun _ _ _ h => h) (Or.inl ⟨by rfl, ?_⟩) hHeld ?_ ?_
  rotate_left
  ·rintro w' ⟨s0, s1⟩
   go_simp
   with_reducible rfl
  rotate_left
  ·simp only [Act.put, List.setIfInBounds_toArray, List.set_cons_zero, List.set_cons_succ, i64_w, i32_w]
   rfl
  refine take_ (i := 1) (N := some 14) (v := ?_) (a' := ?_) #[tT, tT, fF, fF] rfl rfl kf (fun _ _ _ h => h) (Or.inl ⟨by rfl, ?_⟩) hHeld ?_ ?_
  rotate_left
  ·rintro w' ⟨s0, s1⟩
   go_simp
   with_reducible rfl
  rotate_left
  ·simp only [Act.put, List.setIfInBounds_toArray, List.set_cons_zero, List.set_cons_succ, i64_w, i32_w]
   rfl
  refine one_ (i := 2) (N := none) #[tT, tT, tT, fF] rfl rfl kf (by decide) (fun K hK => ?_)
  have hs16 : w15.cell? ⟨gb440, 0, none⟩ = some (.int .i64 0) := (blk_cell BK440.out 0).trans rfl
  have hfs16 := blk_frozen BK440.out 0
  have hns16_0 := LT440_441.out
  have hns16_1 := LT441_447.out
  have hs17 : w15.cell? ⟨gb440, 1, none⟩ = some (.int .i64 0) := (blk_cell BK440.out 1).trans rfl
  have hfs17 := blk_frozen BK440.out 1
  have hns17_0 := LT440_441.out
  have hns17_1 := LT441_447.out
  refine skip_ (w1 := ?_) (by rfl) rfl ?_ ?_
  rotate_left
  ·go_simp
   rfl
  refine hK.out _ _ ⟨((cell_far (p := ⟨gb440, _, none⟩) NB447_440.out _).trans (((cell_far (p := ⟨gb440, _, none⟩) NB447_440.out _).trans (hHeld.1)))), ((cell_far (p := ⟨gb440, _, none⟩) NB447_440.out _).trans (((cell_far (p := ⟨gb440, _, none⟩) NB447_440.out _).trans (hHeld.2))))⟩ (fun hHeld => ?_)
  clear hK K
  refine one_ (i := 3) (N := none) #[tT, tT, tT, tT] rfl rfl kf (by decide) (fun K hK => ?_)
  have hs18 : w15.cell? ⟨gb441, 0, none⟩ = some (.int .i64 0) := (blk_cell BK441.out 0).trans rfl
  have hfs18 := blk_frozen BK441.out 0
  have hns18_0 := LT440_441.out
  have hns18_1 := LT441_447.out
  have hs19 : w15.cell? ⟨gb441, 1, none⟩ = some (.int .i64 0) := (blk_cell BK441.out 1).trans rfl
  have hfs19 := blk_frozen BK441.out 1
  have hns19_0 := LT440_441.out
  have hns19_1 := LT441_447.out
  refine skip_ (w1 := ?_) (by rfl) rfl ?_ ?_
  rotate_left
  ·go_simp
   rfl
  refine hK.out _ _ ⟨((cell_far (p := ⟨gb441, _, none⟩) NB447_441.out _).trans (((cell_far (p := ⟨gb441, _, none⟩) NB447_441.out _).trans (hHeld.1)))), ((cell_far (p := ⟨gb441, _, none⟩) NB447_441.out _).trans (((cell_far (p := ⟨gb441, _, none⟩) NB447_441.out _).trans (hHeld.2))))⟩ (fun hHeld => ?_)
  clear hK K
  refine done_ kf ?_
  try go_wp2
  refine bodyPost_ret (results_cc rfl _ _ gb440 gb441 25 25 #[.int .i64 t443, .int .i64 t444] #[.int .i64 t443, .int .i64 t444] (0, 0) (0, 0) _ _ rfl (by (with_reducible repeat (first | refine blk_drewN ?_ _ | refine blk_drew ?_ | refine blk_alloc ?_ _)); refine blk_far ?_ NB440_441.out _; (with_reducible repeat (first | refine blk_drewN ?_ _ | refine blk_drew ?_ | refine blk_alloc ?_ _)); refine blk_far ?_ NB440_441.out _; (with_reducible repeat (first | refine blk_drewN ?_ _ | refine blk_drew ?_ | refine blk_alloc ?_ _)); refine blk_put (cs := #[.int .i64 t443, .int .i64 0]) ?_ 1 _ rfl; (with_reducible repeat (first | refine blk_drewN ?_ _ | refine blk_drew ?_ | refine blk_alloc ?_ _)); refine blk_put (cs := #[.int .i64 0, .int .i64 0]) ?_ 0 _ rfl; (with_reducible repeat (first | refine blk_drewN ?_ _ | refine blk_drew ?_ | refine blk_alloc ?_ _)); exact BK440.out) Try.underlying25 rfl kf rfl (by (with_reducible repeat (first | refine blk_drewN ?_ _ | refine blk_drew ?_ | refine blk_alloc ?_ _)); refine blk_put (cs := #[.int .i64 t443, .int .i64 0]) ?_ 1 _ rfl; (with_reducible repeat (first | refine blk_drewN ?_ _ | refine blk_drew ?_ | refine blk_alloc ?_ _)); refine blk_put (cs := #[.int .i64 0, .int .i64 0]) ?_ 0 _ rfl; (with_reducible repeat (first | refine blk_drewN ?_ _ | refine blk_drew ?_ | refine blk_alloc ?_ _)); refine blk_far ?_ NB441_440.out _; (with_reducible repeat (first | refine blk_drewN ?_ _ | refine blk_drew ?_ | refine blk_alloc ?_ _)); refine blk_far ?_ NB441_440.out _; (with_reducible repeat (first | refine blk_drewN ?_ _ | refine blk_drew ?_ | refine blk_alloc ?_ _)); exact BK441.out) Try.underlying25 rfl kf) rfl ?_
  exact ⟨er, by repeat (first | (with_reducible first | exact HB.out | apply below_alloc | apply pw_below_drewN | apply below_drew1 | refine below_set ?_ (IsS51.ge HI442.out) | refine below_set ?_ GE440.out | refine below_set ?_ GE441.out | refine below_set ?_ GE447.out) | exact HB.out)⟩
 ·replace c4 := Bool.eq_false_iff.mpr c4
  subst c4
  rw [if_neg (show ¬ (false = true) by decide)] at H
  obtain ⟨⟨t451, t452, t453, t454⟩, A20, H⟩ := bi H
  try dsimp only at H
  simp only [Option.some.injEq, Prod.mk.injEq] at H
  obtain ⟨rfl, rfl, rfl, rfl⟩ := H
  go_enter Try.func17, Try.ntmps17
  try go_wp2_with (first | ((with_reducible refine gate_dst (N := 2) rfl ?_); refine bv (N := 2) (cs := #[.int .i64 0, .int .i64 0]) (t := 25) ?_; intro gb440 hg w21 hbox hb; have n0_ := Aside0.mk (below_step bz hb); have n1_ := Aside0.mk (hbox); have n2_ := (gz hg : Aside0 (w.heap.size ≤ _)); have n3_ := (gz hg : Aside0 (w.heap.size ≤ _)); clear HB; have HB := n0_; have BK440 := n1_; have GW440 := n2_; have GE440 := n3_; clear n0_ n1_ n2_ n3_; clear hb hbox hg) | ((with_reducible refine gate_dst (N := 3) rfl ?_); refine bv (N := 3) (cs := #[.int .i64 0, .int .i64 0]) (t := 25) ?_; intro gb441 hg w22 hbox hb; have n0_ := bb BK440 hb; have n1_ := Aside0.mk (below_step (bz1 GE440) hb); have n2_ := Aside0.mk (hbox); have n3_ := Aside0.mk ((by rw [hg]; exact (below_size (bz1 GE440)) : w.heap.size ≤ gb441)); have n4_ := Aside0.mk ((by rw [hg]; exact (below_size (bz1 GE440)) : w.heap.size ≤ gb441)); have n5_ := Aside0.mk ((by rw [hg]; exact Nat.ne_of_lt (blk_lt (g := gb440) (o := .cells #[.int .i64 0, .int .i64 0] 25 (0, 0)) (bk BK440)) : gb440 ≠ gb441)); have n6_ := Aside0.mk ((by rw [hg]; exact Nat.ne_of_gt (blk_lt (g := gb440) (o := .cells #[.int .i64 0, .int .i64 0] 25 (0, 0)) (bk BK440)) : gb441 ≠ gb440)); have n7_ := Aside0.mk ((by rw [hg]; exact blk_lt (g := gb440) (o := .cells #[.int .i64 0, .int .i64 0] 25 (0, 0)) (bk BK440) : gb440 < gb441)); clear BK440; clear HB; have BK440 := n0_; have HB := n1_; have BK441 := n2_; have GW441 := n3_; have GE441 := n4_; have NB440_441 := n5_; have NB441_440 := n6_; have LT440_441 := n7_; clear n0_ n1_ n2_ n3_ n4_ n5_ n6_ n7_; clear hb hbox hg) | ((with_reducible refine gate_dst (N := 8) rfl ?_); refine bv (N := 8) (cs := #[.slice A0 l0.length c0, .int .i64 0, .int .u64 0]) (t := 51) ?_; intro gb442 hg w23 hbox hb; have n0_ := bb BK440 hb; have n1_ := bb BK441 hb; have n2_ := Aside0.mk ((by rw [hg]; exact Nat.ne_of_lt (blk_lt (g := gb440) (o := .cells #[.int .i64 0, .int .i64 0] 25 (0, 0)) (bk BK440)) : gb440 ≠ gb442)); have n3_ := Aside0.mk ((by rw [hg]; exact Nat.ne_of_gt (blk_lt (g := gb440) (o := .cells #[.int .i64 0, .int .i64 0] 25 (0, 0)) (bk BK440)) : gb442 ≠ gb440)); have n4_ := Aside0.mk ((by rw [hg]; exact Nat.ne_of_lt (blk_lt (g := gb441) (o := .cells #[.int .i64 0, .int .i64 0] 25 (0, 0)) (bk BK441)) : gb441 ≠ gb442)); have n5_ := Aside0.mk ((by rw [hg]; exact Nat.ne_of_gt (blk_lt (g := gb441) (o := .cells #[.int .i64 0, .int .i64 0] 25 (0, 0)) (bk BK441)) : gb442 ≠ gb441)); have n6_ := Aside0.mk (below_step (bz2 GE440 GE441) hb); have n7_ := Aside0.mk ((show IsS51 w w23 gb442 l0 0 0 from ⟨_, _, hbox, (by rw [hg]; exact (below_size (bz2 GE440 GE441))), HR0.out⟩)); clear BK440; clear BK441; clear HB; have BK440 := n0_; have BK441 := n1_; have NB440_442 := n2_; have NB442_440 := n3_; have NB441_442 := n4_; have NB442_441 := n5_; have HB := n6_; have HI442 := n7_; clear n0_ n1_ n2_ n3_ n4_ n5_ n6_ n7_; clear hb hbox hg) | ((with_reducible refine gate_callee (f := 38) rfl ?_); refine goesL_ (some 10) rfl rfl Try.func38 kf rfl #[.pointer (some ⟨gb442, 0, none⟩)] rfl sm ?_; (with_reducible refine (spec_l1Cur_anyDyadic.calls k gb442 l0 0 0 t443 t444 t445 t446 w _ ?side1 ?side2 A2.out).mono ?_); (case side1 => repeat (first | (with_reducible first | exact HI442.out | apply IsS51.alloc | apply IsS51.drewN | apply IsS51.drew | apply IsS51.set_1 | apply IsS51.set_2 | refine IsS51.far ?_ NB442_440.out _ | refine IsS51.far ?_ NB442_441.out _) | exact HI442.out)); (case side2 => repeat (first | (with_reducible first | exact HB.out | apply below_alloc | apply pw_below_drewN | apply below_drew1 | refine below_set ?_ (IsS51.ge HI442.out) | refine below_set ?_ GE440.out | refine below_set ?_ GE441.out) | exact HB.out)); rintro e w24 ⟨rfl, hi, hb, hk⟩; refine ⟨_, rfl, ?_⟩; have n0_ := Aside0.mk (KeepBut.blk hk (g' := gb440) (o := .cells #[.int .i64 0, .int .i64 0] 25 (0, 0)) (bk BK440) NB440_442.out (by simp)); have n1_ := Aside0.mk (KeepBut.blk hk (g' := gb441) (o := .cells #[.int .i64 0, .int .i64 0] 25 (0, 0)) (bk BK441) NB441_442.out (by simp)); have n2_ := Aside0.mk (hb); have n3_ := Aside0.mk (hi); clear BK440; clear BK441; clear HB; clear HI442; have BK440 := n0_; have BK441 := n1_; have HB := n2_; have HI442 := n3_; clear n0_ n1_ n2_ n3_; (try clear hb); (try clear hb2); (try clear hk); (try clear hi)) | ((with_reducible refine gate_dst (N := 5) rfl ?_); refine bv (N := 5) (cs := #[.int .i64 0, .int .i64 0]) (t := 25) ?_; intro gb447 hg w25 hbox hb; have n0_ := bb BK440 hb; have n1_ := bb BK441 hb; have n2_ := Aside0.mk (IsS51.below (by repeat (first | (with_reducible first | exact HI442.out | apply IsS51.alloc | apply IsS51.drewN | apply IsS51.drew | apply IsS51.set_1 | apply IsS51.set_2 | refine IsS51.far ?_ NB442_440.out _ | refine IsS51.far ?_ NB442_441.out _) | exact HI442.out)) hb); have n3_ := Aside0.mk (below_step (by repeat (first | (with_reducible first | exact HB.out | apply below_alloc | apply pw_below_drewN | apply below_drew1 | refine below_set ?_ (IsS51.ge HI442.out) | refine below_set ?_ GE440.out | refine below_set ?_ GE441.out) | exact HB.out)) hb); have n4_ := Aside0.mk (hbox); have n5_ := Aside0.mk ((by rw [hg]; exact (below_size (by repeat (first | (with_reducible first | exact HB.out | apply below_alloc | apply pw_below_drewN | apply below_drew1 | refine below_set ?_ (IsS51.ge HI442.out) | refine below_set ?_ GE440.out | refine below_set ?_ GE441.out) | exact HB.out))) : w.heap.size ≤ gb447)); have n6_ := Aside0.mk ((by rw [hg]; exact (below_size (by repeat (first | (with_reducible first | exact HB.out | apply below_alloc | apply pw_below_drewN | apply below_drew1 | refine below_set ?_ (IsS51.ge HI442.out) | refine below_set ?_ GE440.out | refine below_set ?_ GE441.out) | exact HB.out))) : w.heap.size ≤ gb447)); have n7_ := Aside0.mk ((by rw [hg]; exact Nat.ne_of_lt (blk_lt (g := gb440) (o := .cells #[.int .i64 0, .int .i64 0] 25 (0, 0)) (bk BK440)) : gb440 ≠ gb447)); have n8_ := Aside0.mk ((by rw [hg]; exact Nat.ne_of_gt (blk_lt (g := gb440) (o := .cells #[.int .i64 0, .int .i64 0] 25 (0, 0)) (bk BK440)) : gb447 ≠ gb440)); have n9_ := Aside0.mk ((by rw [hg]; exact Nat.ne_of_lt (blk_lt (g := gb441) (o := .cells #[.int .i64 0, .int .i64 0] 25 (0, 0)) (bk BK441)) : gb441 ≠ gb447)); have n10_ := Aside0.mk ((by rw [hg]; exact Nat.ne_of_gt (blk_lt (g := gb441) (o := .cells #[.int .i64 0, .int .i64 0] 25 (0, 0)) (bk BK441)) : gb447 ≠ gb441)); have n11_ := Aside0.mk ((by rw [hg]; exact blk_lt (g := gb441) (o := .cells #[.int .i64 0, .int .i64 0] 25 (0, 0)) (bk BK441) : gb441 < gb447)); have n12_ := Aside0.mk ((by rw [hg]; exact Nat.ne_of_lt (IsS51.lt (show IsS51 w _ gb442 l0 t445 t446 from by repeat (first | (with_reducible first | exact HI442.out | apply IsS51.alloc | apply IsS51.drewN | apply IsS51.drew | apply IsS51.set_1 | apply IsS51.set_2 | refine IsS51.far ?_ NB442_440.out _ | refine IsS51.far ?_ NB442_441.out _) | exact HI442.out))) : gb442 ≠ gb447)); have n13_ := Aside0.mk ((by rw [hg]; exact Nat.ne_of_gt (IsS51.lt (show IsS51 w _ gb442 l0 t445 t446 from by repeat (first | (with_reducible first | exact HI442.out | apply IsS51.alloc | apply IsS51.drewN | apply IsS51.drew | apply IsS51.set_1 | apply IsS51.set_2 | refine IsS51.far ?_ NB442_440.out _ | refine IsS51.far ?_ NB442_441.out _) | exact HI442.out))) : gb447 ≠ gb442)); clear BK440; clear BK441; clear HI442; clear HB; have BK440 := n0_; have BK441 := n1_; have HI442 := n2_; have HB := n3_; have BK447 := n4_; have GW447 := n5_; have GE447 := n6_; have NB440_447 := n7_; have NB447_440 := n8_; have NB441_447 := n9_; have NB447_441 := n10_; have LT441_447 := n11_; have NB442_447 := n12_; have NB447_442 := n13_; clear n0_ n1_ n2_ n3_ n4_ n5_ n6_ n7_ n8_ n9_ n10_ n11_ n12_ n13_; clear hb hbox hg; have hlt26 := LT440_441.out; have hlt27 := LT441_447.out; have hnb28 := NB447_442.out; have hnc28 := NB442_447.out; have hcz29_0 : w25.cell? ⟨gb447, 0, none⟩ = some (.int .i64 0) := (blk_cell BK447.out 0).trans rfl; have hcz29_1 : w25.cell? ⟨gb447, 1, none⟩ = some (.int .i64 0) := (blk_cell BK447.out 1).trans rfl; have hfz29_0 := blk_frozen BK447.out 0; have hfz29_1 := blk_frozen BK447.out 1) | ((with_reducible refine gate_callee (f := 39) rfl ?_); refine goesL_ (some 12) rfl rfl Try.func39 kf rfl #[.pointer (some ⟨gb442, 0, none⟩), .int .i64 4] rfl sm ?_; (with_reducible refine (spec_l1Cur_one.calls gb442 l0 t445 t446 4 false t449 t450 w _ ?side1 ?side2 A3.out).mono ?_); (case side1 => repeat (first | (with_reducible first | exact HI442.out | apply IsS51.alloc | apply IsS51.drewN | apply IsS51.drew | apply IsS51.set_1 | apply IsS51.set_2 | refine IsS51.far ?_ NB442_440.out _ | refine IsS51.far ?_ NB442_441.out _ | refine IsS51.far ?_ NB442_447.out _) | exact HI442.out)); (case side2 => repeat (first | (with_reducible first | exact HB.out | apply below_alloc | apply pw_below_drewN | apply below_drew1 | refine below_set ?_ (IsS51.ge HI442.out) | refine below_set ?_ GE440.out | refine below_set ?_ GE441.out | refine below_set ?_ GE447.out) | exact HB.out)); rintro e w30 ⟨rfl, hi, hb, hk⟩; refine ⟨_, rfl, ?_⟩; have n0_ := Aside0.mk (KeepBut.blk hk (g' := gb440) (o := .cells #[.int .i64 0, .int .i64 0] 25 (0, 0)) (by (with_reducible repeat (first | refine blk_drewN ?_ _ | refine blk_drew ?_ | refine blk_alloc ?_ _)); refine blk_far ?_ NB440_447.out _; (with_reducible repeat (first | refine blk_drewN ?_ _ | refine blk_drew ?_ | refine blk_alloc ?_ _)); refine blk_far ?_ NB440_447.out _; (with_reducible repeat (first | refine blk_drewN ?_ _ | refine blk_drew ?_ | refine blk_alloc ?_ _)); exact BK440.out) NB440_442.out (by simp)); have n1_ := Aside0.mk (KeepBut.blk hk (g' := gb441) (o := .cells #[.int .i64 0, .int .i64 0] 25 (0, 0)) (by (with_reducible repeat (first | refine blk_drewN ?_ _ | refine blk_drew ?_ | refine blk_alloc ?_ _)); refine blk_far ?_ NB441_447.out _; (with_reducible repeat (first | refine blk_drewN ?_ _ | refine blk_drew ?_ | refine blk_alloc ?_ _)); refine blk_far ?_ NB441_447.out _; (with_reducible repeat (first | refine blk_drewN ?_ _ | refine blk_drew ?_ | refine blk_alloc ?_ _)); exact BK441.out) NB441_442.out (by simp)); have n2_ := Aside0.mk (KeepBut.blk hk (g' := gb447) (o := .cells #[.int .i64 t443, .int .i64 t444] 25 (0, 0)) (by (with_reducible repeat (first | refine blk_drewN ?_ _ | refine blk_drew ?_ | refine blk_alloc ?_ _)); refine blk_put (cs := #[.int .i64 t443, .int .i64 0]) ?_ 1 _ rfl; (with_reducible repeat (first | refine blk_drewN ?_ _ | refine blk_drew ?_ | refine blk_alloc ?_ _)); refine blk_put (cs := #[.int .i64 0, .int .i64 0]) ?_ 0 _ rfl; (with_reducible repeat (first | refine blk_drewN ?_ _ | refine blk_drew ?_ | refine blk_alloc ?_ _)); exact BK447.out) NB447_442.out (by simp)); have n3_ := Aside0.mk (hb); have n4_ := Aside0.mk (hi); clear BK440; clear BK441; clear BK447; clear HB; clear HI442; have BK440 := n0_; have BK441 := n1_; have BK447 := n2_; have HB := n3_; have HI442 := n4_; clear n0_ n1_ n2_ n3_ n4_; (try clear hb); (try clear hb2); (try clear hk); (try clear hi)))
  have n0_ := Aside0.mk (blk_drew BK440.out)
  have n1_ := Aside0.mk (blk_drew BK441.out)
  have n2_ := Aside0.mk (blk_drew BK447.out)
  have n3_ := Aside0.mk (IsS51.drew HI442.out)
  have n4_ := Aside0.mk (below_drew1 HB.out)
  clear BK440 BK441 BK447 HI442 HB
  have BK440 := n0_
  have BK441 := n1_
  have BK447 := n2_
  have HI442 := n3_
  have HB := n4_
  clear n0_ n1_ n2_ n3_ n4_
  refine start_ (n := 5) (S := fun w' => w'.cell? ⟨gb447, 0, none⟩ = some (.int .i64 t443) ∧ w'.cell? ⟨gb447, 1, none⟩ = some (.int .i64 t444)) (ds := []) #[fF, fF, fF, fF, fF] kf rfl rfl ⟨(blk_cell BK447.out 0).trans rfl, (blk_cell BK447.out 1).trans rfl⟩ (fun hHeld => ?_)
  generalize w30.drew = w31 at BK440 BK441 BK447 HI442 HB hHeld ⊢
  refine pure_ (i := 1) (N := some 16) (v := ?_) (a' := ?_) #[fF, tT, fF, fF, fF] rfl rfl kf (fun _ _ _ h => h) (Or.inl ⟨by rfl, ?_⟩) ?_ ?_
  rotate_left
  ·intro w'
   go_simp
   with_reducible rfl
  rotate_left
  ·simp only [Act.put, List.setIfInBounds_toArray, List.set_cons_zero, List.set_cons_succ, i64_w, i32_w]
   rfl
  refine take_ (i := 0) (N := some 15) (v := ?_) (a' := ?_) #[tT, tT, fF, fF, fF] rfl rfl kf (fun _ _ _ h => h) (Or.inl ⟨by rfl, ?_⟩) hHeld ?_ ?_
  rotate_left
  ·rintro w' ⟨s0, s1⟩
   go_simp
   with_reducible rfl
  rotate_left
  ·simp only [Act.put, List.setIfInBounds_toArray, List.set_cons_zero, List.set_cons_succ, i64_w, i32_w]
   rfl
  refine one_ (i := 2) (N := some 17) #[tT, tT, tT, fF, fF] rfl rfl kf (by decide) (fun K hK => ?_)
  refine goes_ Try.func38 kf rfl #[.pointer (some ⟨gb442, 0, none⟩)] (by rfl) rfl rfl sm ?_
  with_reducible refine (spec_l1Cur_anyDyadic.calls k gb442 l0 t449 t450 t451 t452 t453 t454 w _ ?side1 ?side2 A20.out).mono ?_
  (case side1 => repeat (first | (with_reducible first | exact HI442.out | apply IsS51.alloc | apply IsS51.drewN | apply IsS51.drew | apply IsS51.set_1 | apply IsS51.set_2 | refine IsS51.far ?_ NB442_440.out _ | refine IsS51.far ?_ NB442_441.out _ | refine IsS51.far ?_ NB442_447.out _) | exact HI442.out))
  (case side2 => repeat (first | (with_reducible first | exact HB.out | apply below_alloc | apply pw_below_drewN | apply below_drew1 | refine below_set ?_ (IsS51.ge HI442.out) | refine below_set ?_ GE440.out | refine below_set ?_ GE441.out | refine below_set ?_ GE447.out) | exact HB.out))
  rintro e w32 ⟨rfl, hi, hb, hk⟩
  refine ⟨_, rfl, ?_⟩
  have n0_ := Aside0.mk (KeepBut.blk hk (g' := gb440) (o := .cells #[.int .i64 0, .int .i64 0] 25 (0, 0)) (bk BK440) NB440_442.out (by simp))
  have n1_ := Aside0.mk (KeepBut.blk hk (g' := gb441) (o := .cells #[.int .i64 0, .int .i64 0] 25 (0, 0)) (bk BK441) NB441_442.out (by simp))
  have n2_ := Aside0.mk (KeepBut.blk hk (g' := gb447) (o := .cells #[.int .i64 t443, .int .i64 t444] 25 (0, 0)) (bk BK447) NB447_442.out (by simp))
  have n3_ := Aside0.mk (hb)
  have n4_ := Aside0.mk (hi)
  clear BK440 BK441 BK447 HB HI442
  have BK440 := n0_
  have BK441 := n1_
  have BK447 := n2_
  have HB := n3_
  have HI442 := n4_
  clear n0_ n1_ n2_ n3_ n4_
  (try clear hb)
  (try clear hb2)
  (try clear hk)
  (try clear hi)
  refine hK.out _ _ ⟨(blk_cell BK447.out 0).trans rfl, (blk_cell BK447.out 1).trans rfl⟩ (fun hHeld => ?_)
  clear hK K
  refine norm_ (a' := ?_) ?_ ?_
  rotate_left
  ·show Act.put _ (some 17) _ = _
   simp only [Act.put, List.setIfInBounds_toArray, List.set_cons_zero, List.set_cons_succ, i64_w, i32_w]
   rfl
  refine one_ (i := 3) (N := none) #[tT, tT, tT, tT, fF] rfl rfl kf (by decide) (fun K hK => ?_)
  have hs33 : w32.cell? ⟨gb440, 0, none⟩ = some (.int .i64 0) := (blk_cell BK440.out 0).trans rfl
  have hfs33 := blk_frozen BK440.out 0
  have hns33_0 := LT440_441.out
  have hns33_1 := LT441_447.out
  have hs34 : w32.cell? ⟨gb440, 1, none⟩ = some (.int .i64 0) := (blk_cell BK440.out 1).trans rfl
  have hfs34 := blk_frozen BK440.out 1
  have hns34_0 := LT440_441.out
  have hns34_1 := LT441_447.out
  refine skip_ (w1 := ?_) (by rfl) rfl ?_ ?_
  rotate_left
  ·go_simp
   rfl
  refine hK.out _ _ ⟨((cell_far (p := ⟨gb440, _, none⟩) NB447_440.out _).trans (((cell_far (p := ⟨gb440, _, none⟩) NB447_440.out _).trans (hHeld.1)))), ((cell_far (p := ⟨gb440, _, none⟩) NB447_440.out _).trans (((cell_far (p := ⟨gb440, _, none⟩) NB447_440.out _).trans (hHeld.2))))⟩ (fun hHeld => ?_)
  clear hK K
  refine one_ (i := 4) (N := none) #[tT, tT, tT, tT, tT] rfl rfl kf (by decide) (fun K hK => ?_)
  have hs35 : w32.cell? ⟨gb441, 0, none⟩ = some (.int .i64 0) := (blk_cell BK441.out 0).trans rfl
  have hfs35 := blk_frozen BK441.out 0
  have hns35_0 := LT440_441.out
  have hns35_1 := LT441_447.out
  have hs36 : w32.cell? ⟨gb441, 1, none⟩ = some (.int .i64 0) := (blk_cell BK441.out 1).trans rfl
  have hfs36 := blk_frozen BK441.out 1
  have hns36_0 := LT440_441.out
  have hns36_1 := LT441_447.out
  refine skip_ (w1 := ?_) (by rfl) rfl ?_ ?_
  rotate_left
  ·go_simp
   rfl
  refine hK.out _ _ ⟨((cell_far (p := ⟨gb441, _, none⟩) NB447_441.out _).trans (((cell_far (p := ⟨gb441, _, none⟩) NB447_441.out _).trans (hHeld.1)))), ((cell_far (p := ⟨gb441, _, none⟩) NB447_441.out _).trans (((cell_far (p := ⟨gb441, _, none⟩) NB447_441.out _).trans (hHeld.2))))⟩ (fun hHeld => ?_)
  clear hK K
  refine done_ kf ?_
  try go_wp2
  refine bodyPost_ret (results_cc rfl _ _ gb440 gb441 25 25 #[.int .i64 t443, .int .i64 t444] #[.int .i64 t451, .int .i64 t452] (0, 0) (0, 0) _ _ rfl (by (with_reducible repeat (first | refine blk_drewN ?_ _ | refine blk_drew ?_ | refine blk_alloc ?_ _)); refine blk_far ?_ NB440_441.out _; (with_reducible repeat (first | refine blk_drewN ?_ _ | refine blk_drew ?_ | refine blk_alloc ?_ _)); refine blk_far ?_ NB440_441.out _; (with_reducible repeat (first | refine blk_drewN ?_ _ | refine blk_drew ?_ | refine blk_alloc ?_ _)); refine blk_put (cs := #[.int .i64 t443, .int .i64 0]) ?_ 1 _ rfl; (with_reducible repeat (first | refine blk_drewN ?_ _ | refine blk_drew ?_ | refine blk_alloc ?_ _)); refine blk_put (cs := #[.int .i64 0, .int .i64 0]) ?_ 0 _ rfl; (with_reducible repeat (first | refine blk_drewN ?_ _ | refine blk_drew ?_ | refine blk_alloc ?_ _)); exact BK440.out) Try.underlying25 rfl kf rfl (by (with_reducible repeat (first | refine blk_drewN ?_ _ | refine blk_drew ?_ | refine blk_alloc ?_ _)); refine blk_put (cs := #[.int .i64 t451, .int .i64 0]) ?_ 1 _ rfl; (with_reducible repeat (first | refine blk_drewN ?_ _ | refine blk_drew ?_ | refine blk_alloc ?_ _)); refine blk_put (cs := #[.int .i64 0, .int .i64 0]) ?_ 0 _ rfl; (with_reducible repeat (first | refine blk_drewN ?_ _ | refine blk_drew ?_ | refine blk_alloc ?_ _)); refine blk_far ?_ NB441_440.out _; (with_reducible repeat (first | refine blk_drewN ?_ _ | refine blk_drew ?_ | refine blk_alloc ?_ _)); refine blk_far ?_ NB441_440.out _; (with_reducible repeat (first | refine blk_drewN ?_ _ | refine blk_drew ?_ | refine blk_alloc ?_ _)); exact BK441.out) Try.underlying25 rfl kf) rfl ?_
  exact ⟨er, by repeat (first | (with_reducible first | exact HB.out | apply below_alloc | apply pw_below_drewN | apply below_drew1 | refine below_set ?_ (IsS51.ge HI442.out) | refine below_set ?_ GE440.out | refine below_set ?_ GE441.out | refine below_set ?_ GE447.out) | exact HB.out)⟩
end Go.Proofs.Ytneceomekgophaa.QDys
