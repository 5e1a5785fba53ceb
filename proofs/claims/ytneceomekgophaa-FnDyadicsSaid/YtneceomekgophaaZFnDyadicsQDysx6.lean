import Derived.Test.YtneceomekgophaaZFnDyadicsSq
import Derived.Test.YtneceomekgophaaZFnDyadicsQDysx1
import Derived.Test.YtneceomekgophaaZFnDyadicsQDysx2
import Derived.Test.YtneceomekgophaaZFnDyadicsQDysx3
import Derived.Test.YtneceomekgophaaZFnDyadicsQDysx5
namespace Go.Proofs.Ytneceomekgophaa.QDys
open Go.RowKit Go.Proofs.YtneceomekgophaaW.PrintWords Go.Proofs.YtneceomekgophaaW.PrintLast Go.Proofs.YtneceomekgophaaW.PrintMore
attribute [local go_sem] max2_int min2_int max_two min_two max_three min_three max_four min_four
set_option linter.unusedVariables false
set_option linter.unusedSimpArgs false
def impl_wide_add.f (k : Nat) (a0_0 : Bool) (a0_1 : Int) (a0_2 : Int) (a1_0 : Bool) (a1_1 : Int) (a1_2 : Int) : Option (Bool × Int × Int) := if (a0_0 == a1_0) = true then (if 0 ≤ (add64c a0_2 a1_2 0) then (if (add64c a0_2 a1_2 0) < 2 then (some (a0_0, add64l a0_1 a1_1 (add64c a0_2 a1_2 0), add64l a0_2 a1_2 0)) else (none)) else (none)) else ((impl_compareSizes.f k a0_0 a0_1 a0_2 a1_0 a1_1 a1_2).bind fun t245 => (if t245 < 0 then (if 0 ≤ (sub64c a1_2 a0_2 0) then (if (sub64c a1_2 a0_2 0) < 2 then (some (a1_0, sub64l a1_1 a0_1 (sub64c a1_2 a0_2 0), sub64l a1_2 a0_2 0)) else (none)) else (none)) else (if 0 ≤ (sub64c a0_2 a1_2 0) then (if (sub64c a0_2 a1_2 0) < 2 then (some (a0_0, sub64l a0_1 a1_1 (sub64c a0_2 a1_2 0), sub64l a0_2 a1_2 0)) else (none)) else (none))))
set_option maxHeartbeats 8000000 in
set_option maxRecDepth 100000 in
theorem impl_wide_add.calls (k : Nat) (a0_0 : Bool) (a0_1 : Int) (a0_2 : Int) (a1_0 : Bool) (a1_1 : Int) (a1_2 : Int) (r1 : Bool) (r2 : Int) (r3 : Int) (w : World) (h : impl_wide_add.f k a0_0 a0_1 a0_2 a1_0 a1_1 a1_2 = some (r1, r2, r3)) :
 Calls Try.prog 81 #[.agg #[.bool a0_0, .int .u64 a0_1, .int .u64 a0_2], .agg #[.bool a1_0, .int .u64 a1_1, .int .u64 a1_2]] w fun e w' => e = .returned (.agg #[.bool r1, .int .u64 r2, .int .u64 r3]) ∧ Below w.heap.size w w' := by
 have hu62 := Try.underlying62
 have HB := Aside0.mk (Below.refl w.heap.size w)
 have H : (if (a0_0 == a1_0) = true then (if 0 ≤ (add64c a0_2 a1_2 0) then (if (add64c a0_2 a1_2 0) < 2 then (some (a0_0, add64l a0_1 a1_1 (add64c a0_2 a1_2 0), add64l a0_2 a1_2 0)) else (none)) else (none)) else ((impl_compareSizes.f k a0_0 a0_1 a0_2 a1_0 a1_1 a1_2).bind fun t245 => (if t245 < 0 then (if 0 ≤ (sub64c a1_2 a0_2 0) then (if (sub64c a1_2 a0_2 0) < 2 then (some (a1_0, sub64l a1_1 a0_1 (sub64c a1_2 a0_2 0), sub64l a1_2 a0_2 0)) else (none)) else (none)) else (if 0 ≤ (sub64c a0_2 a1_2 0) then (if (sub64c a0_2 a1_2 0) < 2 then (some (a0_0, sub64l a0_1 a1_1 (sub64c a0_2 a1_2 0), sub64l a0_2 a1_2 0)) else (none)) else (none))))) = some (r1, r2, r3) := h
 clear h
 by_cases c3 : (a0_0 == a1_0) = true
 ·rw [if_pos c3] at H
  have c3b0 : (a0_0 == a1_0) = true := c3
  (try (have c3b1 : decide (a0_0 = a1_0) = true := by simpa using c3))
  (try (have c3b2 : (a0_0 == a1_0) = true := by simpa using c3))
  clear c3
  by_cases c5 : 0 ≤ (add64c a0_2 a1_2 0)
  ·rw [if_pos c5] at H
   have c5b0 : decide (0 ≤ (add64c a0_2 a1_2 0)) = true := decide_eq_true c5
   clear c5
   by_cases c6 : (add64c a0_2 a1_2 0) < 2
   ·rw [if_pos c6] at H
    have c6b0 : decide ((add64c a0_2 a1_2 0) < 2) = true := decide_eq_true c6
    clear c6
    simp only [Option.some.injEq, Prod.mk.injEq] at H
    obtain ⟨rfl, rfl, rfl⟩ := H
    go_enter Try.func81, Try.ntmps81
    go_wp2_with (first | ((with_reducible refine gate_dst (N := 2) rfl ?_); refine bv (N := 2) (cs := #[.bool a0_0, .int .u64 a0_1, .int .u64 a0_2]) (t := 62) ?_; intro gb242 hg w8 hbox hb; have n0_ := Aside0.mk (below_step bz hb); have n1_ := Aside0.mk (hbox); have n2_ := (gz hg : Aside0 (w.heap.size ≤ _)); have n3_ := (gz hg : Aside0 (w.heap.size ≤ _)); clear HB; have HB := n0_; have BK242 := n1_; have GW242 := n2_; have GE242 := n3_; clear n0_ n1_ n2_ n3_; clear hb hbox hg) | ((with_reducible refine gate_dst (N := 3) rfl ?_); refine bv (N := 3) (cs := #[.bool a1_0, .int .u64 a1_1, .int .u64 a1_2]) (t := 62) ?_; intro gb243 hg w9 hbox hb; have n0_ := bb BK242 hb; have n1_ := Aside0.mk (below_step (bz1 GE242) hb); have n2_ := Aside0.mk (hbox); have n3_ := Aside0.mk ((by rw [hg]; exact (below_size (bz1 GE242)) : w.heap.size ≤ gb243)); have n4_ := Aside0.mk ((by rw [hg]; exact (below_size (bz1 GE242)) : w.heap.size ≤ gb243)); have n5_ := Aside0.mk ((by rw [hg]; exact Nat.ne_of_lt (blk_lt (g := gb242) (o := .cells #[.bool a0_0, .int .u64 a0_1, .int .u64 a0_2] 62 (0, 0)) (bk BK242)) : gb242 ≠ gb243)); have n6_ := Aside0.mk ((by rw [hg]; exact Nat.ne_of_gt (blk_lt (g := gb242) (o := .cells #[.bool a0_0, .int .u64 a0_1, .int .u64 a0_2] 62 (0, 0)) (bk BK242)) : gb243 ≠ gb242)); have n7_ := Aside0.mk ((by rw [hg]; exact blk_lt (g := gb242) (o := .cells #[.bool a0_0, .int .u64 a0_1, .int .u64 a0_2] 62 (0, 0)) (bk BK242) : gb242 < gb243)); clear BK242; clear HB; have BK242 := n0_; have HB := n1_; have BK243 := n2_; have GW243 := n3_; have GE243 := n4_; have NB242_243 := n5_; have NB243_242 := n6_; have LT242_243 := n7_; clear n0_ n1_ n2_ n3_ n4_ n5_ n6_ n7_; clear hb hbox hg) | ((with_reducible refine gate_dst (N := 4) rfl ?_); refine bv (N := 4) (cs := #[.bool false, .int .u64 0, .int .u64 0]) (t := 62) ?_; intro gb244 hg w10 hbox hb; have n0_ := bb BK242 hb; have n1_ := bb BK243 hb; have n2_ := Aside0.mk (below_step (bz2 GE242 GE243) hb); have n3_ := Aside0.mk (hbox); have n4_ := Aside0.mk ((by rw [hg]; exact (below_size (bz2 GE242 GE243)) : w.heap.size ≤ gb244)); have n5_ := Aside0.mk ((by rw [hg]; exact (below_size (bz2 GE242 GE243)) : w.heap.size ≤ gb244)); have n6_ := Aside0.mk ((by rw [hg]; exact Nat.ne_of_lt (blk_lt (g := gb242) (o := .cells #[.bool a0_0, .int .u64 a0_1, .int .u64 a0_2] 62 (0, 0)) (bk BK242)) : gb242 ≠ gb244)); have n7_ := Aside0.mk ((by rw [hg]; exact Nat.ne_of_gt (blk_lt (g := gb242) (o := .cells #[.bool a0_0, .int .u64 a0_1, .int .u64 a0_2] 62 (0, 0)) (bk BK242)) : gb244 ≠ gb242)); have n8_ := Aside0.mk ((by rw [hg]; exact Nat.ne_of_lt (blk_lt (g := gb243) (o := .cells #[.bool a1_0, .int .u64 a1_1, .int .u64 a1_2] 62 (0, 0)) (bk BK243)) : gb243 ≠ gb244)); have n9_ := Aside0.mk ((by rw [hg]; exact Nat.ne_of_gt (blk_lt (g := gb243) (o := .cells #[.bool a1_0, .int .u64 a1_1, .int .u64 a1_2] 62 (0, 0)) (bk BK243)) : gb244 ≠ gb243)); have n10_ := Aside0.mk ((by rw [hg]; exact blk_lt (g := gb243) (o := .cells #[.bool a1_0, .int .u64 a1_1, .int .u64 a1_2] 62 (0, 0)) (bk BK243) : gb243 < gb244)); clear BK242; clear BK243; clear HB; have BK242 := n0_; have BK243 := n1_; have HB := n2_; have BK244 := n3_; have GW244 := n4_; have GE244 := n5_; have NB242_244 := n6_; have NB244_242 := n7_; have NB243_244 := n8_; have NB244_243 := n9_; have LT243_244 := n10_; clear n0_ n1_ n2_ n3_ n4_ n5_ n6_ n7_ n8_ n9_ n10_; clear hb hbox hg; have hlt11 := LT242_243.out; have hlt12 := LT243_244.out; have hcz13_0 : w10.cell? ⟨gb242, 0, none⟩ = some (.bool a0_0) := (blk_cell BK242.out 0).trans rfl; have hcz13_1 : w10.cell? ⟨gb242, 1, none⟩ = some (.int .u64 a0_1) := (blk_cell BK242.out 1).trans rfl; have hcz13_2 : w10.cell? ⟨gb242, 2, none⟩ = some (.int .u64 a0_2) := (blk_cell BK242.out 2).trans rfl; have hfz13_0 := blk_frozen BK242.out 0; have hfz13_1 := blk_frozen BK242.out 1; have hfz13_2 := blk_frozen BK242.out 2; have hcz14_0 : w10.cell? ⟨gb243, 0, none⟩ = some (.bool a1_0) := (blk_cell BK243.out 0).trans rfl; have hcz14_1 : w10.cell? ⟨gb243, 1, none⟩ = some (.int .u64 a1_1) := (blk_cell BK243.out 1).trans rfl; have hcz14_2 : w10.cell? ⟨gb243, 2, none⟩ = some (.int .u64 a1_2) := (blk_cell BK243.out 2).trans rfl; have hfz14_0 := blk_frozen BK243.out 0; have hfz14_1 := blk_frozen BK243.out 1; have hfz14_2 := blk_frozen BK243.out 2; have p4 : 0 ≤ (0 : Int) := (by omega); have q4 : 0 < (2 : Int) := (by omega); have hx4 : ∀ W_ : World, (callFunc 103 #[.int .u64 a0_2, .int .u64 a1_2, .int .u64 0]).run Try.prog W_ = .ok (.value (.tuple #[.int .u64 (add64l a0_2 a1_2 0), .int .u64 (add64c a0_2 a1_2 0)])) W_ := fun W_ => run_add64_103 a0_2 a1_2 0 p4 q4 W_; replace p4 := eq_true p4; replace q4 := eq_true q4; have p7 : 0 ≤ ((add64c a0_2 a1_2 0) : Int) := of_decide_eq_true am; have q7 : (add64c a0_2 a1_2 0) < (2 : Int) := of_decide_eq_true am; have hx7 : ∀ W_ : World, (callFunc 103 #[.int .u64 a0_1, .int .u64 a1_1, .int .u64 (add64c a0_2 a1_2 0)]).run Try.prog W_ = .ok (.value (.tuple #[.int .u64 (add64l a0_1 a1_1 (add64c a0_2 a1_2 0)), .int .u64 (add64c a0_1 a1_1 (add64c a0_2 a1_2 0))])) W_ := fun W_ => run_add64_103 a0_1 a1_1 (add64c a0_2 a1_2 0) p7 q7 W_; replace p7 := eq_true p7; replace q7 := eq_true q7; have hcz15_0 : w10.cell? ⟨gb244, 0, none⟩ = some (.bool false) := (blk_cell BK244.out 0).trans rfl; have hcz15_1 : w10.cell? ⟨gb244, 1, none⟩ = some (.int .u64 0) := (blk_cell BK244.out 1).trans rfl; have hcz15_2 : w10.cell? ⟨gb244, 2, none⟩ = some (.int .u64 0) := (blk_cell BK244.out 2).trans rfl; have hfz15_0 := blk_frozen BK244.out 0; have hfz15_1 := blk_frozen BK244.out 1; have hfz15_2 := blk_frozen BK244.out 2))
    refine bodyPost_ret (results_cell_row rfl _ _ gb244 62 #[.bool a0_0, .int .u64 (add64l a0_1 a1_1 (add64c a0_2 a1_2 0)), .int .u64 (add64l a0_2 a1_2 0)] (0, 0) _ rfl (by (with_reducible repeat (first | refine blk_drewN ?_ _ | refine blk_drew ?_ | refine blk_alloc ?_ _)); refine blk_put (cs := #[.bool a0_0, .int .u64 (add64l a0_1 a1_1 (add64c a0_2 a1_2 0)), .int .u64 0]) ?_ 2 _ rfl; (with_reducible repeat (first | refine blk_drewN ?_ _ | refine blk_drew ?_ | refine blk_alloc ?_ _)); refine blk_put (cs := #[.bool a0_0, .int .u64 0, .int .u64 0]) ?_ 1 _ rfl; (with_reducible repeat (first | refine blk_drewN ?_ _ | refine blk_drew ?_ | refine blk_alloc ?_ _)); refine blk_put (cs := #[.bool false, .int .u64 0, .int .u64 0]) ?_ 0 _ rfl; (with_reducible repeat (first | refine blk_drewN ?_ _ | refine blk_drew ?_ | refine blk_alloc ?_ _)); exact BK244.out) Try.underlying62 rfl kf) rfl ?_
    exact ⟨er, bz3 GE242 GE243 GE244⟩
   ·rw [if_neg c6] at H
    exact absurd H (by simp)
  ·rw [if_neg c5] at H
   exact absurd H (by simp)
 ·rw [if_neg c3] at H
  have c3b0 : (a0_0 == a1_0) = false := by simpa using c3
  (try (have c3b1 : decide (a0_0 = a1_0) = false := by simpa using c3))
  (try (have c3b2 : (a0_0 == a1_0) = false := by simpa using c3))
  (try (have c3b3 : ¬ (a0_0 = a1_0) := by simpa using c3))
  clear c3
  obtain ⟨t245, A16, H⟩ := bi H
  by_cases c17 : t245 < 0
  ·rw [if_pos c17] at H
   have c17b0 : decide (t245 < 0) = true := decide_eq_true c17
   clear c17
   by_cases c19 : 0 ≤ (sub64c a1_2 a0_2 0)
   ·rw [if_pos c19] at H
    have c19b0 : decide (0 ≤ (sub64c a1_2 a0_2 0)) = true := decide_eq_true c19
    clear c19
    by_cases c20 : (sub64c a1_2 a0_2 0) < 2
    ·rw [if_pos c20] at H
     have c20b0 : decide ((sub64c a1_2 a0_2 0) < 2) = true := decide_eq_true c20
     clear c20
     simp only [Option.some.injEq, Prod.mk.injEq] at H
     obtain ⟨rfl, rfl, rfl⟩ := H
     go_enter Try.func81, Try.ntmps81
     go_wp2_with (first | ((with_reducible refine gate_dst (N := 2) rfl ?_); refine bv (N := 2) (cs := #[.bool a0_0, .int .u64 a0_1, .int .u64 a0_2]) (t := 62) ?_; intro gb242 hg w22 hbox hb; have n0_ := Aside0.mk (below_step bz hb); have n1_ := Aside0.mk (hbox); have n2_ := (gz hg : Aside0 (w.heap.size ≤ _)); have n3_ := (gz hg : Aside0 (w.heap.size ≤ _)); clear HB; have HB := n0_; have BK242 := n1_; have GW242 := n2_; have GE242 := n3_; clear n0_ n1_ n2_ n3_; clear hb hbox hg) | ((with_reducible refine gate_dst (N := 3) rfl ?_); refine bv (N := 3) (cs := #[.bool a1_0, .int .u64 a1_1, .int .u64 a1_2]) (t := 62) ?_; intro gb243 hg w23 hbox hb; have n0_ := bb BK242 hb; have n1_ := Aside0.mk (below_step (bz1 GE242) hb); have n2_ := Aside0.mk (hbox); have n3_ := Aside0.mk ((by rw [hg]; exact (below_size (bz1 GE242)) : w.heap.size ≤ gb243)); have n4_ := Aside0.mk ((by rw [hg]; exact (below_size (bz1 GE242)) : w.heap.size ≤ gb243)); have n5_ := Aside0.mk ((by rw [hg]; exact Nat.ne_of_lt (blk_lt (g := gb242) (o := .cells #[.bool a0_0, .int .u64 a0_1, .int .u64 a0_2] 62 (0, 0)) (bk BK242)) : gb242 ≠ gb243)); have n6_ := Aside0.mk ((by rw [hg]; exact Nat.ne_of_gt (blk_lt (g := gb242) (o := .cells #[.bool a0_0, .int .u64 a0_1, .int .u64 a0_2] 62 (0, 0)) (bk BK242)) : gb243 ≠ gb242)); have n7_ := Aside0.mk ((by rw [hg]; exact blk_lt (g := gb242) (o := .cells #[.bool a0_0, .int .u64 a0_1, .int .u64 a0_2] 62 (0, 0)) (bk BK242) : gb242 < gb243)); clear BK242; clear HB; have BK242 := n0_; have HB := n1_; have BK243 := n2_; have GW243 := n3_; have GE243 := n4_; have NB242_243 := n5_; have NB243_242 := n6_; have LT242_243 := n7_; clear n0_ n1_ n2_ n3_ n4_ n5_ n6_ n7_; clear hb hbox hg) | ((with_reducible refine gate_dst (N := 4) rfl ?_); refine bv (N := 4) (cs := #[.bool false, .int .u64 0, .int .u64 0]) (t := 62) ?_; intro gb244 hg w24 hbox hb; have n0_ := bb BK242 hb; have n1_ := bb BK243 hb; have n2_ := Aside0.mk (below_step (bz2 GE242 GE243) hb); have n3_ := Aside0.mk (hbox); have n4_ := Aside0.mk ((by rw [hg]; exact (below_size (bz2 GE242 GE243)) : w.heap.size ≤ gb244)); have n5_ := Aside0.mk ((by rw [hg]; exact (below_size (bz2 GE242 GE243)) : w.heap.size ≤ gb244)); have n6_ := Aside0.mk ((by rw [hg]; exact Nat.ne_of_lt (blk_lt (g := gb242) (o := .cells #[.bool a0_0, .int .u64 a0_1, .int .u64 a0_2] 62 (0, 0)) (bk BK242)) : gb242 ≠ gb244)); have n7_ := Aside0.mk ((by rw [hg]; exact Nat.ne_of_gt (blk_lt (g := gb242) (o := .cells #[.bool a0_0, .int .u64 a0_1, .int .u64 a0_2] 62 (0, 0)) (bk BK242)) : gb244 ≠ gb242)); have n8_ := Aside0.mk ((by rw [hg]; exact Nat.ne_of_lt (blk_lt (g := gb243) (o := .cells #[.bool a1_0, .int .u64 a1_1, .int .u64 a1_2] 62 (0, 0)) (bk BK243)) : gb243 ≠ gb244)); have n9_ := Aside0.mk ((by rw [hg]; exact Nat.ne_of_gt (blk_lt (g := gb243) (o := .cells #[.bool a1_0, .int .u64 a1_1, .int .u64 a1_2] 62 (0, 0)) (bk BK243)) : gb244 ≠ gb243)); have n10_ := Aside0.mk ((by rw [hg]; exact blk_lt (g := gb243) (o := .cells #[.bool a1_0, .int .u64 a1_1, .int .u64 a1_2] 62 (0, 0)) (bk BK243) : gb243 < gb244)); clear BK242; clear BK243; clear HB; have BK242 := n0_; have BK243 := n1_; have HB := n2_; have BK244 := n3_; have GW244 := n4_; have GE244 := n5_; have NB242_244 := n6_; have NB244_242 := n7_; have NB243_244 := n8_; have NB244_243 := n9_; have LT243_244 := n10_; clear n0_ n1_ n2_ n3_ n4_ n5_ n6_ n7_ n8_ n9_ n10_; clear hb hbox hg; have hlt25 := LT242_243.out; have hlt26 := LT243_244.out; have hcz27_0 : w24.cell? ⟨gb242, 0, none⟩ = some (.bool a0_0) := (blk_cell BK242.out 0).trans rfl; have hcz27_1 : w24.cell? ⟨gb242, 1, none⟩ = some (.int .u64 a0_1) := (blk_cell BK242.out 1).trans rfl; have hcz27_2 : w24.cell? ⟨gb242, 2, none⟩ = some (.int .u64 a0_2) := (blk_cell BK242.out 2).trans rfl; have hfz27_0 := blk_frozen BK242.out 0; have hfz27_1 := blk_frozen BK242.out 1; have hfz27_2 := blk_frozen BK242.out 2; have hcz28_0 : w24.cell? ⟨gb243, 0, none⟩ = some (.bool a1_0) := (blk_cell BK243.out 0).trans rfl; have hcz28_1 : w24.cell? ⟨gb243, 1, none⟩ = some (.int .u64 a1_1) := (blk_cell BK243.out 1).trans rfl; have hcz28_2 : w24.cell? ⟨gb243, 2, none⟩ = some (.int .u64 a1_2) := (blk_cell BK243.out 2).trans rfl; have hfz28_0 := blk_frozen BK243.out 0; have hfz28_1 := blk_frozen BK243.out 1; have hfz28_2 := blk_frozen BK243.out 2) | ((with_reducible refine gate_callee (f := 104) rfl ?_); refine goesL_ (some 42) rfl rfl Try.func104 kf rfl #[.agg #[.bool a0_0, .int .u64 a0_1, .int .u64 a0_2], .agg #[.bool a1_0, .int .u64 a1_1, .int .u64 a1_2]] rfl sm ?_; (with_reducible refine (impl_compareSizes.calls k a0_0 a0_1 a0_2 a1_0 a1_1 a1_2 t245 _ A16.out).mono ?_); rintro e w29 ⟨rfl, hb⟩; refine ⟨_, rfl, ?_⟩; have n0_ := bb BK242 hb; have n1_ := bb BK243 hb; have n2_ := bb BK244 hb; have n3_ := Aside0.mk (below_step (bz3 GE242 GE243 GE244) hb); clear BK242; clear BK243; clear BK244; clear HB; have BK242 := n0_; have BK243 := n1_; have BK244 := n2_; have HB := n3_; clear n0_ n1_ n2_ n3_; (try clear hb); (try clear hb2); (try clear hk); (try clear hi); have hcz30_0 : w29.cell? ⟨gb243, 0, none⟩ = some (.bool a1_0) := (blk_cell BK243.out 0).trans rfl; have hcz30_1 : w29.cell? ⟨gb243, 1, none⟩ = some (.int .u64 a1_1) := (blk_cell BK243.out 1).trans rfl; have hcz30_2 : w29.cell? ⟨gb243, 2, none⟩ = some (.int .u64 a1_2) := (blk_cell BK243.out 2).trans rfl; have hfz30_0 := blk_frozen BK243.out 0; have hfz30_1 := blk_frozen BK243.out 1; have hfz30_2 := blk_frozen BK243.out 2; have hcz31_0 : w29.cell? ⟨gb242, 0, none⟩ = some (.bool a0_0) := (blk_cell BK242.out 0).trans rfl; have hcz31_1 : w29.cell? ⟨gb242, 1, none⟩ = some (.int .u64 a0_1) := (blk_cell BK242.out 1).trans rfl; have hcz31_2 : w29.cell? ⟨gb242, 2, none⟩ = some (.int .u64 a0_2) := (blk_cell BK242.out 2).trans rfl; have hfz31_0 := blk_frozen BK242.out 0; have hfz31_1 := blk_frozen BK242.out 1; have hfz31_2 := blk_frozen BK242.out 2; have p18 : 0 ≤ (0 : Int) := (by omega); have q18 : 0 < (2 : Int) := (by omega); have hx18 : ∀ W_ : World, (callFunc 105 #[.int .u64 a1_2, .int .u64 a0_2, .int .u64 0]).run Try.prog W_ = .ok (.value (.tuple #[.int .u64 (sub64l a1_2 a0_2 0), .int .u64 (sub64c a1_2 a0_2 0)])) W_ := fun W_ => run_sub64_105 a1_2 a0_2 0 p18 q18 W_; replace p18 := eq_true p18; replace q18 := eq_true q18; have p21 : 0 ≤ ((sub64c a1_2 a0_2 0) : Int) := of_decide_eq_true am; have q21 : (sub64c a1_2 a0_2 0) < (2 : Int) := of_decide_eq_true am; have hx21 : ∀ W_ : World, (callFunc 105 #[.int .u64 a1_1, .int .u64 a0_1, .int .u64 (sub64c a1_2 a0_2 0)]).run Try.prog W_ = .ok (.value (.tuple #[.int .u64 (sub64l a1_1 a0_1 (sub64c a1_2 a0_2 0)), .int .u64 (sub64c a1_1 a0_1 (sub64c a1_2 a0_2 0))])) W_ := fun W_ => run_sub64_105 a1_1 a0_1 (sub64c a1_2 a0_2 0) p21 q21 W_; replace p21 := eq_true p21; replace q21 := eq_true q21; have hcz32_0 : w29.cell? ⟨gb244, 0, none⟩ = some (.bool false) := (blk_cell BK244.out 0).trans rfl; have hcz32_1 : w29.cell? ⟨gb244, 1, none⟩ = some (.int .u64 0) := (blk_cell BK244.out 1).trans rfl; have hcz32_2 : w29.cell? ⟨gb244, 2, none⟩ = some (.int .u64 0) := (blk_cell BK244.out 2).trans rfl; have hfz32_0 := blk_frozen BK244.out 0; have hfz32_1 := blk_frozen BK244.out 1; have hfz32_2 := blk_frozen BK244.out 2))
     refine bodyPost_ret (results_cell_row rfl _ _ gb244 62 #[.bool a1_0, .int .u64 (sub64l a1_1 a0_1 (sub64c a1_2 a0_2 0)), .int .u64 (sub64l a1_2 a0_2 0)] (0, 0) _ rfl (by (with_reducible repeat (first | refine blk_drewN ?_ _ | refine blk_drew ?_ | refine blk_alloc ?_ _)); refine blk_put (cs := #[.bool a1_0, .int .u64 (sub64l a1_1 a0_1 (sub64c a1_2 a0_2 0)), .int .u64 0]) ?_ 2 _ rfl; (with_reducible repeat (first | refine blk_drewN ?_ _ | refine blk_drew ?_ | refine blk_alloc ?_ _)); refine blk_put (cs := #[.bool a1_0, .int .u64 0, .int .u64 0]) ?_ 1 _ rfl; (with_reducible repeat (first | refine blk_drewN ?_ _ | refine blk_drew ?_ | refine blk_alloc ?_ _)); refine blk_put (cs := #[.bool false, .int .u64 0, .int .u64 0]) ?_ 0 _ rfl; (with_reducible repeat (first | refine blk_drewN ?_ _ | refine blk_drew ?_ | refine blk_alloc ?_ _)); refine blk_far ?_ NB244_243.out _; (with_reducible repeat (first | refine blk_drewN ?_ _ | refine blk_drew ?_ | refine blk_alloc ?_ _)); refine blk_far ?_ NB244_243.out _; (with_reducible repeat (first | refine blk_drewN ?_ _ | refine blk_drew ?_ | refine blk_alloc ?_ _)); refine blk_far ?_ NB244_243.out _; (with_reducible repeat (first | refine blk_drewN ?_ _ | refine blk_drew ?_ | refine blk_alloc ?_ _)); refine blk_far ?_ NB244_242.out _; (with_reducible repeat (first | refine blk_drewN ?_ _ | refine blk_drew ?_ | refine blk_alloc ?_ _)); refine blk_far ?_ NB244_242.out _; (with_reducible repeat (first | refine blk_drewN ?_ _ | refine blk_drew ?_ | refine blk_alloc ?_ _)); refine blk_far ?_ NB244_242.out _; (with_reducible repeat (first | refine blk_drewN ?_ _ | refine blk_drew ?_ | refine blk_alloc ?_ _)); exact BK244.out) Try.underlying62 rfl kf) rfl ?_
     exact ⟨er, bz3 GE242 GE243 GE244⟩
    ·rw [if_neg c20] at H
     exact absurd H (by simp)
   ·rw [if_neg c19] at H
    exact absurd H (by simp)
  ·rw [if_neg c17] at H
   have c17b0 : decide (t245 < 0) = false := decide_eq_false c17
   clear c17
   by_cases c34 : 0 ≤ (sub64c a0_2 a1_2 0)
   ·rw [if_pos c34] at H
    have c34b0 : decide (0 ≤ (sub64c a0_2 a1_2 0)) = true := decide_eq_true c34
    clear c34
    by_cases c35 : (sub64c a0_2 a1_2 0) < 2
    ·rw [if_pos c35] at H
     have c35b0 : decide ((sub64c a0_2 a1_2 0) < 2) = true := decide_eq_true c35
     clear c35
     simp only [Option.some.injEq, Prod.mk.injEq] at H
     obtain ⟨rfl, rfl, rfl⟩ := H
     go_enter Try.func81, Try.ntmps81
     go_wp2_with (first | ((with_reducible refine gate_dst (N := 2) rfl ?_); refine bv (N := 2) (cs := #[.bool a0_0, .int .u64 a0_1, .int .u64 a0_2]) (t := 62) ?_; intro gb242 hg w37 hbox hb; have n0_ := Aside0.mk (below_step bz hb); have n1_ := Aside0.mk (hbox); have n2_ := (gz hg : Aside0 (w.heap.size ≤ _)); have n3_ := (gz hg : Aside0 (w.heap.size ≤ _)); clear HB; have HB := n0_; have BK242 := n1_; have GW242 := n2_; have GE242 := n3_; clear n0_ n1_ n2_ n3_; clear hb hbox hg) | ((with_reducible refine gate_dst (N := 3) rfl ?_); refine bv (N := 3) (cs := #[.bool a1_0, .int .u64 a1_1, .int .u64 a1_2]) (t := 62) ?_; intro gb243 hg w38 hbox hb; have n0_ := bb BK242 hb; have n1_ := Aside0.mk (below_step (bz1 GE242) hb); have n2_ := Aside0.mk (hbox); have n3_ := Aside0.mk ((by rw [hg]; exact (below_size (bz1 GE242)) : w.heap.size ≤ gb243)); have n4_ := Aside0.mk ((by rw [hg]; exact (below_size (bz1 GE242)) : w.heap.size ≤ gb243)); have n5_ := Aside0.mk ((by rw [hg]; exact Nat.ne_of_lt (blk_lt (g := gb242) (o := .cells #[.bool a0_0, .int .u64 a0_1, .int .u64 a0_2] 62 (0, 0)) (bk BK242)) : gb242 ≠ gb243)); have n6_ := Aside0.mk ((by rw [hg]; exact Nat.ne_of_gt (blk_lt (g := gb242) (o := .cells #[.bool a0_0, .int .u64 a0_1, .int .u64 a0_2] 62 (0, 0)) (bk BK242)) : gb243 ≠ gb242)); have n7_ := Aside0.mk ((by rw [hg]; exact blk_lt (g := gb242) (o := .cells #[.bool a0_0, .int .u64 a0_1, .int .u64 a0_2] 62 (0, 0)) (bk BK242) : gb242 < gb243)); clear BK242; clear HB; have BK242 := n0_; have HB := n1_; have BK243 := n2_; have GW243 := n3_; have GE243 := n4_; have NB242_243 := n5_; have NB243_242 := n6_; have LT242_243 := n7_; clear n0_ n1_ n2_ n3_ n4_ n5_ n6_ n7_; clear hb hbox hg) | ((with_reducible refine gate_dst (N := 4) rfl ?_); refine bv (N := 4) (cs := #[.bool false, .int .u64 0, .int .u64 0]) (t := 62) ?_; intro gb244 hg w39 hbox hb; have n0_ := bb BK242 hb; have n1_ := bb BK243 hb; have n2_ := Aside0.mk (below_step (bz2 GE242 GE243) hb); have n3_ := Aside0.mk (hbox); have n4_ := Aside0.mk ((by rw [hg]; exact (below_size (bz2 GE242 GE243)) : w.heap.size ≤ gb244)); have n5_ := Aside0.mk ((by rw [hg]; exact (below_size (bz2 GE242 GE243)) : w.heap.size ≤ gb244)); have n6_ := Aside0.mk ((by rw [hg]; exact Nat.ne_of_lt (blk_lt (g := gb242) (o := .cells #[.bool a0_0, .int .u64 a0_1, .int .u64 a0_2] 62 (0, 0)) (bk BK242)) : gb242 ≠ gb244)); have n7_ := Aside0.mk ((by rw [hg]; exact Nat.ne_of_gt (blk_lt (g := gb242) (o := .cells #[.bool a0_0, .int .u64 a0_1, .int .u64 a0_2] 62 (0, 0)) (bk BK242)) : gb244 ≠ gb242)); have n8_ := Aside0.mk ((by rw [hg]; exact Nat.ne_of_lt (blk_lt (g := gb243) (o := .cells #[.bool a1_0, .int .u64 a1_1, .int .u64 a1_2] 62 (0, 0)) (bk BK243)) : gb243 ≠ gb244)); have n9_ := Aside0.mk ((by rw [hg]; exact Nat.ne_of_gt (blk_lt (g := gb243) (o := .cells #[.bool a1_0, .int .u64 a1_1, .int .u64 a1_2] 62 (0, 0)) (bk BK243)) : gb244 ≠ gb243)); have n10_ := Aside0.mk ((by rw [hg]; exact blk_lt (g := gb243) (o := .cells #[.bool a1_0, .int .u64 a1_1, .int .u64 a1_2] 62 (0, 0)) (bk BK243) : gb243 < gb244)); clear BK242; clear BK243; clear HB; have BK242 := n0_; have BK243 := n1_; have HB := n2_; have BK244 := n3_; have GW244 := n4_; have GE244 := n5_; have NB242_244 := n6_; have NB244_242 := n7_; have NB243_244 := n8_; have NB244_243 := n9_; have LT243_244 := n10_; clear n0_ n1_ n2_ n3_ n4_ n5_ n6_ n7_ n8_ n9_ n10_; clear hb hbox hg; have hlt40 := LT242_243.out; have hlt41 := LT243_244.out; have hcz42_0 : w39.cell? ⟨gb242, 0, none⟩ = some (.bool a0_0) := (blk_cell BK242.out 0).trans rfl; have hcz42_1 : w39.cell? ⟨gb242, 1, none⟩ = some (.int .u64 a0_1) := (blk_cell BK242.out 1).trans rfl; have hcz42_2 : w39.cell? ⟨gb242, 2, none⟩ = some (.int .u64 a0_2) := (blk_cell BK242.out 2).trans rfl; have hfz42_0 := blk_frozen BK242.out 0; have hfz42_1 := blk_frozen BK242.out 1; have hfz42_2 := blk_frozen BK242.out 2; have hcz43_0 : w39.cell? ⟨gb243, 0, none⟩ = some (.bool a1_0) := (blk_cell BK243.out 0).trans rfl; have hcz43_1 : w39.cell? ⟨gb243, 1, none⟩ = some (.int .u64 a1_1) := (blk_cell BK243.out 1).trans rfl; have hcz43_2 : w39.cell? ⟨gb243, 2, none⟩ = some (.int .u64 a1_2) := (blk_cell BK243.out 2).trans rfl; have hfz43_0 := blk_frozen BK243.out 0; have hfz43_1 := blk_frozen BK243.out 1; have hfz43_2 := blk_frozen BK243.out 2) | ((with_reducible refine gate_callee (f := 104) rfl ?_); refine goesL_ (some 42) rfl rfl Try.func104 kf rfl #[.agg #[.bool a0_0, .int .u64 a0_1, .int .u64 a0_2], .agg #[.bool a1_0, .int .u64 a1_1, .int .u64 a1_2]] rfl sm ?_; (with_reducible refine (impl_compareSizes.calls k a0_0 a0_1 a0_2 a1_0 a1_1 a1_2 t245 _ A16.out).mono ?_); rintro e w44 ⟨rfl, hb⟩; refine ⟨_, rfl, ?_⟩; have n0_ := bb BK242 hb; have n1_ := bb BK243 hb; have n2_ := bb BK244 hb; have n3_ := Aside0.mk (below_step (bz3 GE242 GE243 GE244) hb); clear BK242; clear BK243; clear BK244; clear HB; have BK242 := n0_; have BK243 := n1_; have BK244 := n2_; have HB := n3_; clear n0_ n1_ n2_ n3_; (try clear hb); (try clear hb2); (try clear hk); (try clear hi); have hcz45_0 : w44.cell? ⟨gb242, 0, none⟩ = some (.bool a0_0) := (blk_cell BK242.out 0).trans rfl; have hcz45_1 : w44.cell? ⟨gb242, 1, none⟩ = some (.int .u64 a0_1) := (blk_cell BK242.out 1).trans rfl; have hcz45_2 : w44.cell? ⟨gb242, 2, none⟩ = some (.int .u64 a0_2) := (blk_cell BK242.out 2).trans rfl; have hfz45_0 := blk_frozen BK242.out 0; have hfz45_1 := blk_frozen BK242.out 1; have hfz45_2 := blk_frozen BK242.out 2; have hcz46_0 : w44.cell? ⟨gb243, 0, none⟩ = some (.bool a1_0) := (blk_cell BK243.out 0).trans rfl; have hcz46_1 : w44.cell? ⟨gb243, 1, none⟩ = some (.int .u64 a1_1) := (blk_cell BK243.out 1).trans rfl; have hcz46_2 : w44.cell? ⟨gb243, 2, none⟩ = some (.int .u64 a1_2) := (blk_cell BK243.out 2).trans rfl; have hfz46_0 := blk_frozen BK243.out 0; have hfz46_1 := blk_frozen BK243.out 1; have hfz46_2 := blk_frozen BK243.out 2; have p33 : 0 ≤ (0 : Int) := (by omega); have q33 : 0 < (2 : Int) := (by omega); have hx33 : ∀ W_ : World, (callFunc 105 #[.int .u64 a0_2, .int .u64 a1_2, .int .u64 0]).run Try.prog W_ = .ok (.value (.tuple #[.int .u64 (sub64l a0_2 a1_2 0), .int .u64 (sub64c a0_2 a1_2 0)])) W_ := fun W_ => run_sub64_105 a0_2 a1_2 0 p33 q33 W_; replace p33 := eq_true p33; replace q33 := eq_true q33; have p36 : 0 ≤ ((sub64c a0_2 a1_2 0) : Int) := of_decide_eq_true am; have q36 : (sub64c a0_2 a1_2 0) < (2 : Int) := of_decide_eq_true am; have hx36 : ∀ W_ : World, (callFunc 105 #[.int .u64 a0_1, .int .u64 a1_1, .int .u64 (sub64c a0_2 a1_2 0)]).run Try.prog W_ = .ok (.value (.tuple #[.int .u64 (sub64l a0_1 a1_1 (sub64c a0_2 a1_2 0)), .int .u64 (sub64c a0_1 a1_1 (sub64c a0_2 a1_2 0))])) W_ := fun W_ => run_sub64_105 a0_1 a1_1 (sub64c a0_2 a1_2 0) p36 q36 W_; replace p36 := eq_true p36; replace q36 := eq_true q36; have hcz47_0 : w44.cell? ⟨gb244, 0, none⟩ = some (.bool false) := (blk_cell BK244.out 0).trans rfl; have hcz47_1 : w44.cell? ⟨gb244, 1, none⟩ = some (.int .u64 0) := (blk_cell BK244.out 1).trans rfl; have hcz47_2 : w44.cell? ⟨gb244, 2, none⟩ = some (.int .u64 0) := (blk_cell BK244.out 2).trans rfl; have hfz47_0 := blk_frozen BK244.out 0; have hfz47_1 := blk_frozen BK244.out 1; have hfz47_2 := blk_frozen BK244.out 2))
     refine bodyPost_ret (results_cell_row rfl _ _ gb244 62 #[.bool a0_0, .int .u64 (sub64l a0_1 a1_1 (sub64c a0_2 a1_2 0)), .int .u64 (sub64l a0_2 a1_2 0)] (0, 0) _ rfl (by (with_reducible repeat (first | refine blk_drewN ?_ _ | refine blk_drew ?_ | refine blk_alloc ?_ _)); refine blk_put (cs := #[.bool a0_0, .int .u64 (sub64l a0_1 a1_1 (sub64c a0_2 a1_2 0)), .int .u64 0]) ?_ 2 _ rfl; (with_reducible repeat (first | refine blk_drewN ?_ _ | refine blk_drew ?_ | refine blk_alloc ?_ _)); refine blk_put (cs := #[.bool a0_0, .int .u64 0, .int .u64 0]) ?_ 1 _ rfl; (with_reducible repeat (first | refine blk_drewN ?_ _ | refine blk_drew ?_ | refine blk_alloc ?_ _)); refine blk_put (cs := #[.bool false, .int .u64 0, .int .u64 0]) ?_ 0 _ rfl; (with_reducible repeat (first | refine blk_drewN ?_ _ | refine blk_drew ?_ | refine blk_alloc ?_ _)); exact BK244.out) Try.underlying62 rfl kf) rfl ?_
     exact ⟨er, bz3 GE242 GE243 GE244⟩
    ·rw [if_neg c35] at H
     exact absurd H (by simp)
   ·rw [if_neg c34] at H
    exact absurd H (by simp)
def impl_sumOf.f (k : Nat) (a0_0 : Int) (a0_1 : Int) (a1_0 : Int) (a1_1 : Int) : Option (Int × Int × Bool) := (impl_wideOf.f a0_0).bind fun bt249 => ((impl_wide_shift.f bt249.1 bt249.2.1 bt249.2.2 (wrap64 ((mx a0_1 a1_1) - a0_1))).bind fun bt252 => ((impl_wideOf.f a1_0).bind fun bt255 => ((impl_wide_shift.f bt255.1 bt255.2.1 bt255.2.2 (wrap64 ((mx a0_1 a1_1) - a1_1))).bind fun bt258 => ((impl_wide_add.f k bt252.1 bt252.2.1 bt252.2.2 bt258.1 bt258.2.1 bt258.2.2).bind fun bt261 => ((impl_wide_fit.f k bt261.1 bt261.2.1 bt261.2.2 (mx a0_1 a1_1)).bind fun bt264 => (some (bt264.1, bt264.2.1, bt264.2.2)))))))
def impl_sumOf.T2 : Bool × List (List Nat × List Nat) := (true, [([], []), ([0], [0]), ([1], [1]), ([], []), ([], []), ([4], [4]), ([3, 5], [3, 5]), ([2, 6, 2], [2, 6]), ([], []), ([8], [8]), ([9, 7], [9]), ([], []), ([], []), ([12], [12]), ([11, 13], [11, 13]), ([10, 14, 10], [10, 14]), ([7, 15, 15], [7, 15]), ([], []), ([16, 17, 16], [16, 17]), ([18], [18]), ([18], [18]), ([19, 18, 0, 1, 2, 3, 4, 5, 6, 7, 8, 9, 10, 11, 12, 13, 14, 15, 16, 17, 18, 19, 20], [19]), ([20, 21, 0, 1, 2, 3, 4, 5, 6, 7, 8, 9, 10, 11, 12, 13, 14, 15, 16, 17, 18, 19, 20, 21], [20])])
def impl_sumOf.B2 : List Nat := [0, 1, 3, 0, 0, 16, 56, 127, 0, 256, 1023, 0, 0, 4096, 14336, 32767, 65535, 0, 262143, 524287, 524287, 2097151, 4194303]
theorem impl_sumOf.tab2 : rtab .any (opsOf Try.f43 2) = impl_sumOf.T2 := by kernel_rfl
theorem impl_sumOf.bits2 : waitsOk impl_sumOf.T2.2 impl_sumOf.B2 = true := by kernel_rfl
set_option maxHeartbeats 8000000 in
set_option maxRecDepth 100000 in
theorem impl_sumOf.calls (k : Nat) (a0_0 : Int) (a0_1 : Int) (a1_0 : Int) (a1_1 : Int) (r1 : Int) (r2 : Int) (r3 : Bool) (w : World) (h : impl_sumOf.f k a0_0 a0_1 a1_0 a1_1 = some (r1, r2, r3)) :
 Calls Try.prog 43 #[.agg #[.int .i64 a0_0, .int .i64 a0_1], .agg #[.int .i64 a1_0, .int .i64 a1_1]] w fun e w' => e = .returned (.tuple #[.agg #[.int .i64 r1, .int .i64 r2], .bool r3]) ∧ Below w.heap.size w w' := by
 have hu25 := Try.underlying25
 have HB := Aside0.mk (Below.refl w.heap.size w)
 have H : ((impl_wideOf.f a0_0).bind fun bt249 => ((impl_wide_shift.f bt249.1 bt249.2.1 bt249.2.2 (wrap64 ((mx a0_1 a1_1) - a0_1))).bind fun bt252 => ((impl_wideOf.f a1_0).bind fun bt255 => ((impl_wide_shift.f bt255.1 bt255.2.1 bt255.2.2 (wrap64 ((mx a0_1 a1_1) - a1_1))).bind fun bt258 => ((impl_wide_add.f k bt252.1 bt252.2.1 bt252.2.2 bt258.1 bt258.2.1 bt258.2.2).bind fun bt261 => ((impl_wide_fit.f k bt261.1 bt261.2.1 bt261.2.2 (mx a0_1 a1_1)).bind fun bt264 => (some (bt264.1, bt264.2.1, bt264.2.2)))))))) = some (r1, r2, r3) := h
 clear h
 obtain ⟨ji3, hji3⟩ : ∃ j_ : Int, (mx a0_1 a1_1) = j_ := ⟨_, rfl⟩
 first | rw [hji3] at H | simp only [hji3] at H
 have hji3_ : (if a0_1 < a1_1 then a1_1 else a0_1) = ji3 := hji3
 obtain ⟨⟨t249, t250, t251⟩, A4, H⟩ := bi H
 try dsimp only at H
 obtain ⟨⟨t252, t253, t254⟩, A5, H⟩ := bi H
 try dsimp only at H
 obtain ⟨⟨t255, t256, t257⟩, A6, H⟩ := bi H
 try dsimp only at H
 obtain ⟨⟨t258, t259, t260⟩, A7, H⟩ := bi H
 try dsimp only at H
 obtain ⟨⟨t261, t262, t263⟩, A8, H⟩ := bi H
 try dsimp only at H
 obtain ⟨⟨t264, t265, t266⟩, A9, H⟩ := bi H
 try dsimp only at H
 simp only [Option.some.injEq, Prod.mk.injEq] at H
 obtain ⟨rfl, rfl, rfl⟩ := H
 go_enter Try.func43, Try.ntmps43
 try go_wp2_with (first | ((with_reducible refine gate_dst (N := 2) rfl ?_); refine bv (N := 2) (cs := #[.int .i64 a0_0, .int .i64 a0_1]) (t := 25) ?_; intro gb246 hg w10 hbox hb; have n0_ := Aside0.mk (below_step bz hb); have n1_ := Aside0.mk (hbox); have n2_ := (gz hg : Aside0 (w.heap.size ≤ _)); have n3_ := (gz hg : Aside0 (w.heap.size ≤ _)); clear HB; have HB := n0_; have BK246 := n1_; have GW246 := n2_; have GE246 := n3_; clear n0_ n1_ n2_ n3_; clear hb hbox hg) | ((with_reducible refine gate_dst (N := 3) rfl ?_); refine bv (N := 3) (cs := #[.int .i64 a1_0, .int .i64 a1_1]) (t := 25) ?_; intro gb247 hg w11 hbox hb; have n0_ := bb BK246 hb; have n1_ := Aside0.mk (below_step (bz1 GE246) hb); have n2_ := Aside0.mk (hbox); have n3_ := Aside0.mk ((by rw [hg]; exact (below_size (bz1 GE246)) : w.heap.size ≤ gb247)); have n4_ := Aside0.mk ((by rw [hg]; exact (below_size (bz1 GE246)) : w.heap.size ≤ gb247)); have n5_ := Aside0.mk ((by rw [hg]; exact Nat.ne_of_lt (blk_lt (g := gb246) (o := .cells #[.int .i64 a0_0, .int .i64 a0_1] 25 (0, 0)) (bk BK246)) : gb246 ≠ gb247)); have n6_ := Aside0.mk ((by rw [hg]; exact Nat.ne_of_gt (blk_lt (g := gb246) (o := .cells #[.int .i64 a0_0, .int .i64 a0_1] 25 (0, 0)) (bk BK246)) : gb247 ≠ gb246)); have n7_ := Aside0.mk ((by rw [hg]; exact blk_lt (g := gb246) (o := .cells #[.int .i64 a0_0, .int .i64 a0_1] 25 (0, 0)) (bk BK246) : gb246 < gb247)); clear BK246; clear HB; have BK246 := n0_; have HB := n1_; have BK247 := n2_; have GW247 := n3_; have GE247 := n4_; have NB246_247 := n5_; have NB247_246 := n6_; have LT246_247 := n7_; clear n0_ n1_ n2_ n3_ n4_ n5_ n6_ n7_; clear hb hbox hg) | ((with_reducible refine gate_dst (N := 4) rfl ?_); refine bv (N := 4) (cs := #[.int .i64 0, .int .i64 0]) (t := 25) ?_; intro gb248 hg w12 hbox hb; have n0_ := bb BK246 hb; have n1_ := bb BK247 hb; have n2_ := Aside0.mk (below_step (bz2 GE246 GE247) hb); have n3_ := Aside0.mk (hbox); have n4_ := Aside0.mk ((by rw [hg]; exact (below_size (bz2 GE246 GE247)) : w.heap.size ≤ gb248)); have n5_ := Aside0.mk ((by rw [hg]; exact (below_size (bz2 GE246 GE247)) : w.heap.size ≤ gb248)); have n6_ := Aside0.mk ((by rw [hg]; exact Nat.ne_of_lt (blk_lt (g := gb246) (o := .cells #[.int .i64 a0_0, .int .i64 a0_1] 25 (0, 0)) (bk BK246)) : gb246 ≠ gb248)); have n7_ := Aside0.mk ((by rw [hg]; exact Nat.ne_of_gt (blk_lt (g := gb246) (o := .cells #[.int .i64 a0_0, .int .i64 a0_1] 25 (0, 0)) (bk BK246)) : gb248 ≠ gb246)); have n8_ := Aside0.mk ((by rw [hg]; exact Nat.ne_of_lt (blk_lt (g := gb247) (o := .cells #[.int .i64 a1_0, .int .i64 a1_1] 25 (0, 0)) (bk BK247)) : gb247 ≠ gb248)); have n9_ := Aside0.mk ((by rw [hg]; exact Nat.ne_of_gt (blk_lt (g := gb247) (o := .cells #[.int .i64 a1_0, .int .i64 a1_1] 25 (0, 0)) (bk BK247)) : gb248 ≠ gb247)); have n10_ := Aside0.mk ((by rw [hg]; exact blk_lt (g := gb247) (o := .cells #[.int .i64 a1_0, .int .i64 a1_1] 25 (0, 0)) (bk BK247) : gb247 < gb248)); clear BK246; clear BK247; clear HB; have BK246 := n0_; have BK247 := n1_; have HB := n2_; have BK248 := n3_; have GW248 := n4_; have GE248 := n5_; have NB246_248 := n6_; have NB248_246 := n7_; have NB247_248 := n8_; have NB248_247 := n9_; have LT247_248 := n10_; clear n0_ n1_ n2_ n3_ n4_ n5_ n6_ n7_ n8_ n9_ n10_; clear hb hbox hg; have hlt13 := LT246_247.out; have hlt14 := LT247_248.out; have hcz15_0 : w12.cell? ⟨gb246, 0, none⟩ = some (.int .i64 a0_0) := (blk_cell BK246.out 0).trans rfl; have hcz15_1 : w12.cell? ⟨gb246, 1, none⟩ = some (.int .i64 a0_1) := (blk_cell BK246.out 1).trans rfl; have hfz15_0 := blk_frozen BK246.out 0; have hfz15_1 := blk_frozen BK246.out 1; have hcz16_0 : w12.cell? ⟨gb247, 0, none⟩ = some (.int .i64 a1_0) := (blk_cell BK247.out 0).trans rfl; have hcz16_1 : w12.cell? ⟨gb247, 1, none⟩ = some (.int .i64 a1_1) := (blk_cell BK247.out 1).trans rfl; have hfz16_0 := blk_frozen BK247.out 0; have hfz16_1 := blk_frozen BK247.out 1))
 have n0_ := Aside0.mk (blk_drew BK246.out)
 have n1_ := Aside0.mk (blk_drew BK247.out)
 have n2_ := Aside0.mk (blk_drew BK248.out)
 have n3_ := Aside0.mk (below_drew1 HB.out)
 clear BK246 BK247 BK248 HB
 have BK246 := n0_
 have BK247 := n1_
 have BK248 := n2_
 have HB := n3_
 clear n0_ n1_ n2_ n3_
 refine start_ (n := 23) (S := fun w' => w'.cell? ⟨gb246, 0, none⟩ = some (.int .i64 a0_0) ∧ w'.cell? ⟨gb246, 1, none⟩ = some (.int .i64 a0_1) ∧ w'.cell? ⟨gb247, 0, none⟩ = some (.int .i64 a1_0) ∧ w'.cell? ⟨gb247, 1, none⟩ = some (.int .i64 a1_1)) (ds := []) #[fF, fF, fF, fF, fF, fF, fF, fF, fF, fF, fF, fF, fF, fF, fF, fF, fF, fF, fF, fF, fF, fF, fF] kf rfl rfl ⟨(blk_cell BK246.out 0).trans rfl, (blk_cell BK246.out 1).trans rfl, (blk_cell BK247.out 0).trans rfl, (blk_cell BK247.out 1).trans rfl⟩ (fun hHeld => ?_); refine with_tabW impl_sumOf.tab2 impl_sumOf.bits2 (fun HT_ HW_ => ?_)
 generalize w12.drew = w17 at BK246 BK247 BK248 HB hHeld ⊢
 refine pq (i := 0) (N := some 12) #[tT, fF, fF, fF, fF, fF, fF, fF, fF, fF, fF, fF, fF, fF, fF, fF, fF, fF, fF, fF, fF, fF, fF] rfl rfl HT_.out ?_
 refine pq (i := 3) (N := some 15) #[tT, fF, fF, tT, fF, fF, fF, fF, fF, fF, fF, fF, fF, fF, fF, fF, fF, fF, fF, fF, fF, fF, fF] rfl rfl HT_.out ?_
 refine pq (i := 4) (N := some 16) #[tT, fF, fF, tT, tT, fF, fF, fF, fF, fF, fF, fF, fF, fF, fF, fF, fF, fF, fF, fF, fF, fF, fF] rfl rfl HT_.out ?_
 refine pq (i := 8) (N := some 20) #[tT, fF, fF, tT, tT, fF, fF, fF, tT, fF, fF, fF, fF, fF, fF, fF, fF, fF, fF, fF, fF, fF, fF] rfl rfl HT_.out ?_
 refine pq (i := 11) (N := some 23) #[tT, fF, fF, tT, tT, fF, fF, fF, tT, fF, fF, tT, fF, fF, fF, fF, fF, fF, fF, fF, fF, fF, fF] rfl rfl HT_.out ?_
 refine pq (i := 12) (N := some 24) #[tT, fF, fF, tT, tT, fF, fF, fF, tT, fF, fF, tT, tT, fF, fF, fF, fF, fF, fF, fF, fF, fF, fF] rfl rfl HT_.out ?_
 refine pq (i := 17) (N := some 29) #[tT, fF, fF, tT, tT, fF, fF, fF, tT, fF, fF, tT, tT, fF, fF, fF, fF, tT, fF, fF, fF, fF, fF] rfl rfl HT_.out ?_
 refine tq4 (i := 1) (N := some 13) #[tT, tT, fF, tT, tT, fF, fF, fF, tT, fF, fF, tT, tT, fF, fF, fF, fF, tT, fF, fF, fF, fF, fF] rfl rfl HT_.out HW_.out hHeld ?_
 refine tq4 (i := 5) (N := some 17) #[tT, tT, fF, tT, tT, tT, fF, fF, tT, fF, fF, tT, tT, fF, fF, fF, fF, tT, fF, fF, fF, fF, fF] rfl rfl HT_.out HW_.out hHeld ?_
 refine pq (i := 6) (N := some 18) #[tT, tT, fF, tT, tT, tT, tT, fF, tT, fF, fF, tT, tT, fF, fF, fF, fF, tT, fF, fF, fF, fF, fF] rfl rfl HT_.out ?_
 refine tq4 (i := 9) (N := some 21) #[tT, tT, fF, tT, tT, tT, tT, fF, tT, tT, fF, tT, tT, fF, fF, fF, fF, tT, fF, fF, fF, fF, fF] rfl rfl HT_.out HW_.out hHeld ?_
 refine tq4 (i := 13) (N := some 25) #[tT, tT, fF, tT, tT, tT, tT, fF, tT, tT, fF, tT, tT, tT, fF, fF, fF, tT, fF, fF, fF, fF, fF] rfl rfl HT_.out HW_.out hHeld ?_
 refine pq (i := 14) (N := some 26) #[tT, tT, fF, tT, tT, tT, tT, fF, tT, tT, fF, tT, tT, tT, tT, fF, fF, tT, fF, fF, fF, fF, fF] rfl rfl HT_.out ?_
 refine one_ (i := 2) (N := some 14) #[tT, tT, tT, tT, tT, tT, tT, fF, tT, tT, fF, tT, tT, tT, tT, fF, fF, tT, fF, fF, fF, fF, fF] rfl rfl (one_of HT_.out kf) (by decide) (fun K hK => ?_)
 refine goes_ Try.func57 kf rfl #[.int .i64 a0_0] (by rfl) rfl rfl sm ?_
 with_reducible refine (impl_wideOf.calls a0_0 t249 t250 t251 _ A4.out).mono ?_
 rintro e w18 ⟨rfl, hb⟩
 refine ⟨_, rfl, ?_⟩
 have n0_ := bb BK246 hb
 have n1_ := bb BK247 hb
 have n2_ := bb BK248 hb
 have n3_ := Aside0.mk (below_step (bz3 GE246 GE247 GE248) hb)
 clear BK246 BK247 BK248 HB
 have BK246 := n0_
 have BK247 := n1_
 have BK248 := n2_
 have HB := n3_
 clear n0_ n1_ n2_ n3_
 (try clear hb)
 (try clear hb2)
 (try clear hk)
 (try clear hi)
 refine hK.out _ _ ⟨(blk_cell BK246.out 0).trans rfl, (blk_cell BK246.out 1).trans rfl, (blk_cell BK247.out 0).trans rfl, (blk_cell BK247.out 1).trans rfl⟩ (fun hHeld => ?_)
 clear hK K
 refine norm_ (a' := ?_) ?_ ?_
 rotate_left
 ·show Act.put _ (some 14) _ = _
  simp only [Act.put, List.setIfInBounds_toArray, List.set_cons_zero, List.set_cons_succ, i64_w, i32_w]
  rfl
 refine one_ (i := 7) (N := some 19) #[tT, tT, tT, tT, tT, tT, tT, tT, tT, tT, fF, tT, tT, tT, tT, fF, fF, tT, fF, fF, fF, fF, fF] rfl rfl (one_of HT_.out kf) (by decide) (fun K hK => ?_)
 refine goes_ Try.func80 kf rfl #[.agg #[.bool t249, .int .u64 t250, .int .u64 t251], .int .i64 (wrap64 ((ji3) - a0_1))] (by rfl) rfl rfl (by (try simp only [List.map_toArray, List.map_cons, List.map_nil]); first | done | (simp only [hji3]; rfl) | rfl | (simp only [List.length_drop, List.length_take]; rfl)) ?_
 with_reducible refine (impl_wide_shift.calls t249 t250 t251 (wrap64 ((ji3) - a0_1)) t252 t253 t254 _ A5.out).mono ?_
 rintro e w19 ⟨rfl, hb⟩
 refine ⟨_, rfl, ?_⟩
 have n0_ := bb BK246 hb
 have n1_ := bb BK247 hb
 have n2_ := bb BK248 hb
 have n3_ := Aside0.mk (below_step (bz3 GE246 GE247 GE248) hb)
 clear BK246 BK247 BK248 HB
 have BK246 := n0_
 have BK247 := n1_
 have BK248 := n2_
 have HB := n3_
 clear n0_ n1_ n2_ n3_
 (try clear hb)
 (try clear hb2)
 (try clear hk)
 (try clear hi)
 refine hK.out _ _ ⟨(blk_cell BK246.out 0).trans rfl, (blk_cell BK246.out 1).trans rfl, (blk_cell BK247.out 0).trans rfl, (blk_cell BK247.out 1).trans rfl⟩ (fun hHeld => ?_)
 clear hK K
 refine norm_ (a' := ?_) ?_ ?_
 rotate_left
 ·show Act.put _ (some 19) _ = _
  simp only [Act.put, List.setIfInBounds_toArray, List.set_cons_zero, List.set_cons_succ, i64_w, i32_w]
  rfl
 refine one_ (i := 10) (N := some 22) #[tT, tT, tT, tT, tT, tT, tT, tT, tT, tT, tT, tT, tT, tT, tT, fF, fF, tT, fF, fF, fF, fF, fF] rfl rfl (one_of HT_.out kf) (by decide) (fun K hK => ?_)
 refine goes_ Try.func57 kf rfl #[.int .i64 a1_0] (by rfl) rfl rfl sm ?_
 with_reducible refine (impl_wideOf.calls a1_0 t255 t256 t257 _ A6.out).mono ?_
 rintro e w20 ⟨rfl, hb⟩
 refine ⟨_, rfl, ?_⟩
 have n0_ := bb BK246 hb
 have n1_ := bb BK247 hb
 have n2_ := bb BK248 hb
 have n3_ := Aside0.mk (below_step (bz3 GE246 GE247 GE248) hb)
 clear BK246 BK247 BK248 HB
 have BK246 := n0_
 have BK247 := n1_
 have BK248 := n2_
 have HB := n3_
 clear n0_ n1_ n2_ n3_
 (try clear hb)
 (try clear hb2)
 (try clear hk)
 (try clear hi)
 refine hK.out _ _ ⟨(blk_cell BK246.out 0).trans rfl, (blk_cell BK246.out 1).trans rfl, (blk_cell BK247.out 0).trans rfl, (blk_cell BK247.out 1).trans rfl⟩ (fun hHeld => ?_)
 clear hK K
 refine norm_ (a' := ?_) ?_ ?_
 rotate_left
 ·show Act.put _ (some 22) _ = _
  simp only [Act.put, List.setIfInBounds_toArray, List.set_cons_zero, List.set_cons_succ, i64_w, i32_w]
  rfl
 refine one_ (i := 15) (N := some 27) #[tT, tT, tT, tT, tT, tT, tT, tT, tT, tT, tT, tT, tT, tT, tT, tT, fF, tT, fF, fF, fF, fF, fF] rfl rfl (one_of HT_.out kf) (by decide) (fun K hK => ?_)
 refine goes_ Try.func80 kf rfl #[.agg #[.bool t255, .int .u64 t256, .int .u64 t257], .int .i64 (wrap64 ((ji3) - a1_1))] (by rfl) rfl rfl (by (try simp only [List.map_toArray, List.map_cons, List.map_nil]); first | done | (simp only [hji3]; rfl) | rfl | (simp only [List.length_drop, List.length_take]; rfl)) ?_
 with_reducible refine (impl_wide_shift.calls t255 t256 t257 (wrap64 ((ji3) - a1_1)) t258 t259 t260 _ A7.out).mono ?_
 rintro e w21 ⟨rfl, hb⟩
 refine ⟨_, rfl, ?_⟩
 have n0_ := bb BK246 hb
 have n1_ := bb BK247 hb
 have n2_ := bb BK248 hb
 have n3_ := Aside0.mk (below_step (bz3 GE246 GE247 GE248) hb)
 clear BK246 BK247 BK248 HB
 have BK246 := n0_
 have BK247 := n1_
 have BK248 := n2_
 have HB := n3_
 clear n0_ n1_ n2_ n3_
 (try clear hb)
 (try clear hb2)
 (try clear hk)
 (try clear hi)
 refine hK.out _ _ ⟨(blk_cell BK246.out 0).trans rfl, (blk_cell BK246.out 1).trans rfl, (blk_cell BK247.out 0).trans rfl, (blk_cell BK247.out 1).trans rfl⟩ (fun hHeld => ?_)
 clear hK K
 refine norm_ (a' := ?_) ?_ ?_
 rotate_left
 ·show Act.put _ (some 27) _ = _
  simp only [Act.put, List.setIfInBounds_toArray, List.set_cons_zero, List.set_cons_succ, i64_w, i32_w]
  rfl
 refine one_ (i := 16) (N := some 28) #[tT, tT, tT, tT, tT, tT, tT, tT, tT, tT, tT, tT, tT, tT, tT, tT, tT, tT, fF, fF, fF, fF, fF] rfl rfl (one_of HT_.out kf) (by decide) (fun K hK => ?_)
 refine goes_ Try.func81 kf rfl #[.agg #[.bool t252, .int .u64 t253, .int .u64 t254], .agg #[.bool t258, .int .u64 t259, .int .u64 t260]] (by rfl) rfl rfl sm ?_
 with_reducible refine (impl_wide_add.calls k t252 t253 t254 t258 t259 t260 t261 t262 t263 _ A8.out).mono ?_
 rintro e w22 ⟨rfl, hb⟩
 refine ⟨_, rfl, ?_⟩
 have n0_ := bb BK246 hb
 have n1_ := bb BK247 hb
 have n2_ := bb BK248 hb
 have n3_ := Aside0.mk (below_step (bz3 GE246 GE247 GE248) hb)
 clear BK246 BK247 BK248 HB
 have BK246 := n0_
 have BK247 := n1_
 have BK248 := n2_
 have HB := n3_
 clear n0_ n1_ n2_ n3_
 (try clear hb)
 (try clear hb2)
 (try clear hk)
 (try clear hi)
 refine hK.out _ _ ⟨(blk_cell BK246.out 0).trans rfl, (blk_cell BK246.out 1).trans rfl, (blk_cell BK247.out 0).trans rfl, (blk_cell BK247.out 1).trans rfl⟩ (fun hHeld => ?_)
 clear hK K
 refine norm_ (a' := ?_) ?_ ?_
 rotate_left
 ·show Act.put _ (some 28) _ = _
  simp only [Act.put, List.setIfInBounds_toArray, List.set_cons_zero, List.set_cons_succ, i64_w, i32_w]
  rfl
 refine one_ (i := 18) (N := some 30) #[tT, tT, tT, tT, tT, tT, tT, tT, tT, tT, tT, tT, tT, tT, tT, tT, tT, tT, tT, fF, fF, fF, fF] rfl rfl (one_of HT_.out kf) (by decide) (fun K hK => ?_)
 refine goes_ Try.func58 kf rfl #[.agg #[.bool t261, .int .u64 t262, .int .u64 t263], .int .i64 ji3] (by rfl) rfl rfl (by (try simp only [List.map_toArray, List.map_cons, List.map_nil]); first | done | (simp only [hji3]; rfl) | rfl | (simp only [List.length_drop, List.length_take]; rfl)) ?_
 with_reducible refine (impl_wide_fit.calls k t261 t262 t263 ji3 t264 t265 t266 _ A9.out).mono ?_
 rintro e w23 ⟨rfl, hb⟩
 refine ⟨_, rfl, ?_⟩
 have n0_ := bb BK246 hb
 have n1_ := bb BK247 hb
 have n2_ := bb BK248 hb
 have n3_ := Aside0.mk (below_step (bz3 GE246 GE247 GE248) hb)
 clear BK246 BK247 BK248 HB
 have BK246 := n0_
 have BK247 := n1_
 have BK248 := n2_
 have HB := n3_
 clear n0_ n1_ n2_ n3_
 (try clear hb)
 (try clear hb2)
 (try clear hk)
 (try clear hi)
 refine hK.out _ _ ⟨(blk_cell BK246.out 0).trans rfl, (blk_cell BK246.out 1).trans rfl, (blk_cell BK247.out 0).trans rfl, (blk_cell BK247.out 1).trans rfl⟩ (fun hHeld => ?_)
 clear hK K
 refine norm_ (a' := ?_) ?_ ?_
 rotate_left
 ·show Act.put _ (some 30) _ = _
  simp only [Act.put, List.setIfInBounds_toArray, List.set_cons_zero, List.set_cons_succ, i64_w, i32_w]
  rfl
 refine pq (i := 19) (N := some 31) #[tT, tT, tT, tT, tT, tT, tT, tT, tT, tT, tT, tT, tT, tT, tT, tT, tT, tT, tT, tT, fF, fF, fF] rfl rfl HT_.out ?_
 refine pq (i := 20) (N := some 32) #[tT, tT, tT, tT, tT, tT, tT, tT, tT, tT, tT, tT, tT, tT, tT, tT, tT, tT, tT, tT, tT, fF, fF] rfl rfl HT_.out ?_
 refine one_ (i := 21) (N := none) #[tT, tT, tT, tT, tT, tT, tT, tT, tT, tT, tT, tT, tT, tT, tT, tT, tT, tT, tT, tT, tT, tT, fF] rfl rfl (one_of HT_.out kf) (by decide) (fun K hK => ?_)
 have hs24 : w23.cell? ⟨gb248, 0, none⟩ = some (.int .i64 0) := (blk_cell BK248.out 0).trans rfl
 have hfs24 := blk_frozen BK248.out 0
 have hns24_0 := LT246_247.out
 have hns24_1 := LT247_248.out
 have hs25 : w23.cell? ⟨gb248, 1, none⟩ = some (.int .i64 0) := (blk_cell BK248.out 1).trans rfl
 have hfs25 := blk_frozen BK248.out 1
 have hns25_0 := LT246_247.out
 have hns25_1 := LT247_248.out
 refine skip_ (w1 := ?_) (by rfl) rfl ?_ ?_
 rotate_left
 ·go_simp
  rfl
 refine hK.out _ _ ⟨((cell_far (p := ⟨gb248, _, none⟩) NB246_248.out _).trans (((cell_far (p := ⟨gb248, _, none⟩) NB246_248.out _).trans (hHeld.1)))), ((cell_far (p := ⟨gb248, _, none⟩) NB246_248.out _).trans (((cell_far (p := ⟨gb248, _, none⟩) NB246_248.out _).trans (hHeld.2.1)))), ((cell_far (p := ⟨gb248, _, none⟩) NB247_248.out _).trans (((cell_far (p := ⟨gb248, _, none⟩) NB247_248.out _).trans (hHeld.2.2.1)))), ((cell_far (p := ⟨gb248, _, none⟩) NB247_248.out _).trans (((cell_far (p := ⟨gb248, _, none⟩) NB247_248.out _).trans (hHeld.2.2.2))))⟩ (fun hHeld => ?_)
 clear hK K
 refine pq (i := 22) (N := some 5) #[tT, tT, tT, tT, tT, tT, tT, tT, tT, tT, tT, tT, tT, tT, tT, tT, tT, tT, tT, tT, tT, tT, tT] rfl rfl HT_.out ?_
 refine done_ (done_of HT_.out kf) ?_
 try go_wp2
 refine bodyPost_ret (results_ct rfl _ _ gb248 25 #[.int .i64 t264, .int .i64 t265] (0, 0) _ rfl (by (with_reducible repeat (first | refine blk_drewN ?_ _ | refine blk_drew ?_ | refine blk_alloc ?_ _)); refine blk_put (cs := #[.int .i64 t264, .int .i64 0]) ?_ 1 _ rfl; (with_reducible repeat (first | refine blk_drewN ?_ _ | refine blk_drew ?_ | refine blk_alloc ?_ _)); refine blk_put (cs := #[.int .i64 0, .int .i64 0]) ?_ 0 _ rfl; (with_reducible repeat (first | refine blk_drewN ?_ _ | refine blk_drew ?_ | refine blk_alloc ?_ _)); exact BK248.out) Try.underlying25 rfl kf) rfl ?_
 exact ⟨by first | rfl | (simp [errW_none, errW_some] <;> rfl) | (simp only [← hji3]; first | rfl | (simp [errW_none, errW_some] <;> rfl)) | (simp [*, errW_none, errW_some] <;> rfl), bz3 GE246 GE247 GE248⟩
def impl_AddDyadic.f (k : Nat) (a0_0 : Int) (a0_1 : Int) (a1_0 : Int) (a1_1 : Int) : Option (Int × Int × Bool) := (impl_isDyadic.f a0_0 a0_1).bind fun t270 => (if t270 = true then ((impl_isDyadic.f a1_0 a1_1).bind fun t271 => (if t271 = true then ((impl_sumOf.f k a0_0 a0_1 a1_0 a1_1).bind fun bt272 => (some (bt272.1, bt272.2.1, bt272.2.2))) else (some (0, 0, false)))) else (some (0, 0, false)))
set_option maxHeartbeats 8000000 in
set_option maxRecDepth 100000 in
theorem impl_AddDyadic.calls (k : Nat) (a0_0 : Int) (a0_1 : Int) (a1_0 : Int) (a1_1 : Int) (r1 : Int) (r2 : Int) (r3 : Bool) (w : World) (h : impl_AddDyadic.f k a0_0 a0_1 a1_0 a1_1 = some (r1, r2, r3)) :
 Calls Try.prog 7 #[.agg #[.int .i64 a0_0, .int .i64 a0_1], .agg #[.int .i64 a1_0, .int .i64 a1_1]] w fun e w' => e = .returned (.tuple #[.agg #[.int .i64 r1, .int .i64 r2], .bool r3]) ∧ Below w.heap.size w w' := by
 have hu25 := Try.underlying25
 have HB := Aside0.mk (Below.refl w.heap.size w)
 have H : ((impl_isDyadic.f a0_0 a0_1).bind fun t270 => (if t270 = true then ((impl_isDyadic.f a1_0 a1_1).bind fun t271 => (if t271 = true then ((impl_sumOf.f k a0_0 a0_1 a1_0 a1_1).bind fun bt272 => (some (bt272.1, bt272.2.1, bt272.2.2))) else (some (0, 0, false)))) else (some (0, 0, false)))) = some (r1, r2, r3) := h
 clear h
 obtain ⟨t270, A3, H⟩ := bi H
 by_cases c4 : t270 = true
 ·subst c4
  rw [if_pos rfl] at H
  obtain ⟨t271, A5, H⟩ := bi H
  by_cases c6 : t271 = true
  ·subst c6
   rw [if_pos rfl] at H
   obtain ⟨⟨t272, t273, t274⟩, A7, H⟩ := bi H
   try dsimp only at H
   simp only [Option.some.injEq, Prod.mk.injEq] at H
   obtain ⟨rfl, rfl, rfl⟩ := H
   go_enter Try.func7, Try.ntmps7
   go_wp2_with (first | ((with_reducible refine gate_dst (N := 2) rfl ?_); refine bv (N := 2) (cs := #[.int .i64 a0_0, .int .i64 a0_1]) (t := 25) ?_; intro gb267 hg w8 hbox hb; have n0_ := Aside0.mk (below_step bz hb); have n1_ := Aside0.mk (hbox); have n2_ := (gz hg : Aside0 (w.heap.size ≤ _)); have n3_ := (gz hg : Aside0 (w.heap.size ≤ _)); clear HB; have HB := n0_; have BK267 := n1_; have GW267 := n2_; have GE267 := n3_; clear n0_ n1_ n2_ n3_; clear hb hbox hg) | ((with_reducible refine gate_dst (N := 3) rfl ?_); refine bv (N := 3) (cs := #[.int .i64 a1_0, .int .i64 a1_1]) (t := 25) ?_; intro gb268 hg w9 hbox hb; have n0_ := bb BK267 hb; have n1_ := Aside0.mk (below_step (bz1 GE267) hb); have n2_ := Aside0.mk (hbox); have n3_ := Aside0.mk ((by rw [hg]; exact (below_size (bz1 GE267)) : w.heap.size ≤ gb268)); have n4_ := Aside0.mk ((by rw [hg]; exact (below_size (bz1 GE267)) : w.heap.size ≤ gb268)); have n5_ := Aside0.mk ((by rw [hg]; exact Nat.ne_of_lt (blk_lt (g := gb267) (o := .cells #[.int .i64 a0_0, .int .i64 a0_1] 25 (0, 0)) (bk BK267)) : gb267 ≠ gb268)); have n6_ := Aside0.mk ((by rw [hg]; exact Nat.ne_of_gt (blk_lt (g := gb267) (o := .cells #[.int .i64 a0_0, .int .i64 a0_1] 25 (0, 0)) (bk BK267)) : gb268 ≠ gb267)); have n7_ := Aside0.mk ((by rw [hg]; exact blk_lt (g := gb267) (o := .cells #[.int .i64 a0_0, .int .i64 a0_1] 25 (0, 0)) (bk BK267) : gb267 < gb268)); clear BK267; clear HB; have BK267 := n0_; have HB := n1_; have BK268 := n2_; have GW268 := n3_; have GE268 := n4_; have NB267_268 := n5_; have NB268_267 := n6_; have LT267_268 := n7_; clear n0_ n1_ n2_ n3_ n4_ n5_ n6_ n7_; clear hb hbox hg) | ((with_reducible refine gate_dst (N := 4) rfl ?_); refine bv (N := 4) (cs := #[.int .i64 0, .int .i64 0]) (t := 25) ?_; intro gb269 hg w10 hbox hb; have n0_ := bb BK267 hb; have n1_ := bb BK268 hb; have n2_ := Aside0.mk (below_step (bz2 GE267 GE268) hb); have n3_ := Aside0.mk (hbox); have n4_ := Aside0.mk ((by rw [hg]; exact (below_size (bz2 GE267 GE268)) : w.heap.size ≤ gb269)); have n5_ := Aside0.mk ((by rw [hg]; exact (below_size (bz2 GE267 GE268)) : w.heap.size ≤ gb269)); have n6_ := Aside0.mk ((by rw [hg]; exact Nat.ne_of_lt (blk_lt (g := gb267) (o := .cells #[.int .i64 a0_0, .int .i64 a0_1] 25 (0, 0)) (bk BK267)) : gb267 ≠ gb269)); have n7_ := Aside0.mk ((by rw [hg]; exact Nat.ne_of_gt (blk_lt (g := gb267) (o := .cells #[.int .i64 a0_0, .int .i64 a0_1] 25 (0, 0)) (bk BK267)) : gb269 ≠ gb267)); have n8_ := Aside0.mk ((by rw [hg]; exact Nat.ne_of_lt (blk_lt (g := gb268) (o := .cells #[.int .i64 a1_0, .int .i64 a1_1] 25 (0, 0)) (bk BK268)) : gb268 ≠ gb269)); have n9_ := Aside0.mk ((by rw [hg]; exact Nat.ne_of_gt (blk_lt (g := gb268) (o := .cells #[.int .i64 a1_0, .int .i64 a1_1] 25 (0, 0)) (bk BK268)) : gb269 ≠ gb268)); have n10_ := Aside0.mk ((by rw [hg]; exact blk_lt (g := gb268) (o := .cells #[.int .i64 a1_0, .int .i64 a1_1] 25 (0, 0)) (bk BK268) : gb268 < gb269)); clear BK267; clear BK268; clear HB; have BK267 := n0_; have BK268 := n1_; have HB := n2_; have BK269 := n3_; have GW269 := n4_; have GE269 := n5_; have NB267_269 := n6_; have NB269_267 := n7_; have NB268_269 := n8_; have NB269_268 := n9_; have LT268_269 := n10_; clear n0_ n1_ n2_ n3_ n4_ n5_ n6_ n7_ n8_ n9_ n10_; clear hb hbox hg; have hlt11 := LT267_268.out; have hlt12 := LT268_269.out; have hcz13_0 : w10.cell? ⟨gb267, 0, none⟩ = some (.int .i64 a0_0) := (blk_cell BK267.out 0).trans rfl; have hcz13_1 : w10.cell? ⟨gb267, 1, none⟩ = some (.int .i64 a0_1) := (blk_cell BK267.out 1).trans rfl; have hfz13_0 := blk_frozen BK267.out 0; have hfz13_1 := blk_frozen BK267.out 1) | ((with_reducible refine gate_callee (f := 42) rfl ?_); refine goesL_ (some 7) rfl rfl Try.func42 kf rfl #[.agg #[.int .i64 a0_0, .int .i64 a0_1]] rfl sm ?_; (with_reducible refine (impl_isDyadic.calls a0_0 a0_1 true _ A3.out).mono ?_); rintro e w14 ⟨rfl, hb⟩; refine ⟨_, rfl, ?_⟩; have n0_ := bb BK267 hb; have n1_ := bb BK268 hb; have n2_ := bb BK269 hb; have n3_ := Aside0.mk (below_step (bz3 GE267 GE268 GE269) hb); clear BK267; clear BK268; clear BK269; clear HB; have BK267 := n0_; have BK268 := n1_; have BK269 := n2_; have HB := n3_; clear n0_ n1_ n2_ n3_; (try clear hb); (try clear hb2); (try clear hk); (try clear hi); have hcz15_0 : w14.cell? ⟨gb268, 0, none⟩ = some (.int .i64 a1_0) := (blk_cell BK268.out 0).trans rfl; have hcz15_1 : w14.cell? ⟨gb268, 1, none⟩ = some (.int .i64 a1_1) := (blk_cell BK268.out 1).trans rfl; have hfz15_0 := blk_frozen BK268.out 0; have hfz15_1 := blk_frozen BK268.out 1) | (go_at_call 42; (with_reducible refine (impl_isDyadic.calls a1_0 a1_1 true _ A5.out).mono ?_); rintro e w16 ⟨rfl, hb⟩; have n0_ := bb BK267 hb; have n1_ := bb BK268 hb; have n2_ := bb BK269 hb; have n3_ := Aside0.mk (below_step (bz3 GE267 GE268 GE269) hb); clear BK267; clear BK268; clear BK269; clear HB; have BK267 := n0_; have BK268 := n1_; have BK269 := n2_; have HB := n3_; clear n0_ n1_ n2_ n3_; (try clear hb); (try clear hb2); (try clear hk); (try clear hi); have hcz17_0 : w16.cell? ⟨gb267, 0, none⟩ = some (.int .i64 a0_0) := (blk_cell BK267.out 0).trans rfl; have hcz17_1 : w16.cell? ⟨gb267, 1, none⟩ = some (.int .i64 a0_1) := (blk_cell BK267.out 1).trans rfl; have hfz17_0 := blk_frozen BK267.out 0; have hfz17_1 := blk_frozen BK267.out 1; have hcz18_0 : w16.cell? ⟨gb268, 0, none⟩ = some (.int .i64 a1_0) := (blk_cell BK268.out 0).trans rfl; have hcz18_1 : w16.cell? ⟨gb268, 1, none⟩ = some (.int .i64 a1_1) := (blk_cell BK268.out 1).trans rfl; have hfz18_0 := blk_frozen BK268.out 0; have hfz18_1 := blk_frozen BK268.out 1) | ((with_reducible refine gate_callee (f := 43) rfl ?_); refine goesL_ (some 17) rfl rfl Try.func43 kf rfl #[.agg #[.int .i64 a0_0, .int .i64 a0_1], .agg #[.int .i64 a1_0, .int .i64 a1_1]] rfl sm ?_; (with_reducible refine (impl_sumOf.calls k a0_0 a0_1 a1_0 a1_1 t272 t273 t274 _ A7.out).mono ?_); rintro e w19 ⟨rfl, hb⟩; refine ⟨_, rfl, ?_⟩; have n0_ := bb BK267 hb; have n1_ := bb BK268 hb; have n2_ := bb BK269 hb; have n3_ := Aside0.mk (below_step (bz3 GE267 GE268 GE269) hb); clear BK267; clear BK268; clear BK269; clear HB; have BK267 := n0_; have BK268 := n1_; have BK269 := n2_; have HB := n3_; clear n0_ n1_ n2_ n3_; (try clear hb); (try clear hb2); (try clear hk); (try clear hi); have hcz20_0 : w19.cell? ⟨gb269, 0, none⟩ = some (.int .i64 0) := (blk_cell BK269.out 0).trans rfl; have hcz20_1 : w19.cell? ⟨gb269, 1, none⟩ = some (.int .i64 0) := (blk_cell BK269.out 1).trans rfl; have hfz20_0 := blk_frozen BK269.out 0; have hfz20_1 := blk_frozen BK269.out 1))
   refine bodyPost_ret (results_ct rfl _ _ gb269 25 #[.int .i64 t272, .int .i64 t273] (0, 0) _ rfl (by (with_reducible repeat (first | refine blk_drewN ?_ _ | refine blk_drew ?_ | refine blk_alloc ?_ _)); refine blk_put (cs := #[.int .i64 t272, .int .i64 0]) ?_ 1 _ rfl; (with_reducible repeat (first | refine blk_drewN ?_ _ | refine blk_drew ?_ | refine blk_alloc ?_ _)); refine blk_put (cs := #[.int .i64 0, .int .i64 0]) ?_ 0 _ rfl; (with_reducible repeat (first | refine blk_drewN ?_ _ | refine blk_drew ?_ | refine blk_alloc ?_ _)); exact BK269.out) Try.underlying25 rfl kf) rfl ?_
   exact ⟨er, bz3 GE267 GE268 GE269⟩
  ·replace c6 := Bool.eq_false_iff.mpr c6
   subst c6
   rw [if_neg (show ¬ (false = true) by decide)] at H
   simp only [Option.some.injEq, Prod.mk.injEq] at H
   obtain ⟨rfl, rfl, rfl⟩ := H
   go_enter Try.func7, Try.ntmps7
   go_wp2_with (first | ((with_reducible refine gate_dst (N := 2) rfl ?_); refine bv (N := 2) (cs := #[.int .i64 a0_0, .int .i64 a0_1]) (t := 25) ?_; intro gb267 hg w21 hbox hb; have n0_ := Aside0.mk (below_step bz hb); have n1_ := Aside0.mk (hbox); have n2_ := (gz hg : Aside0 (w.heap.size ≤ _)); have n3_ := (gz hg : Aside0 (w.heap.size ≤ _)); clear HB; have HB := n0_; have BK267 := n1_; have GW267 := n2_; have GE267 := n3_; clear n0_ n1_ n2_ n3_; clear hb hbox hg) | ((with_reducible refine gate_dst (N := 3) rfl ?_); refine bv (N := 3) (cs := #[.int .i64 a1_0, .int .i64 a1_1]) (t := 25) ?_; intro gb268 hg w22 hbox hb; have n0_ := bb BK267 hb; have n1_ := Aside0.mk (below_step (bz1 GE267) hb); have n2_ := Aside0.mk (hbox); have n3_ := Aside0.mk ((by rw [hg]; exact (below_size (bz1 GE267)) : w.heap.size ≤ gb268)); have n4_ := Aside0.mk ((by rw [hg]; exact (below_size (bz1 GE267)) : w.heap.size ≤ gb268)); have n5_ := Aside0.mk ((by rw [hg]; exact Nat.ne_of_lt (blk_lt (g := gb267) (o := .cells #[.int .i64 a0_0, .int .i64 a0_1] 25 (0, 0)) (bk BK267)) : gb267 ≠ gb268)); have n6_ := Aside0.mk ((by rw [hg]; exact Nat.ne_of_gt (blk_lt (g := gb267) (o := .cells #[.int .i64 a0_0, .int .i64 a0_1] 25 (0, 0)) (bk BK267)) : gb268 ≠ gb267)); have n7_ := Aside0.mk ((by rw [hg]; exact blk_lt (g := gb267) (o := .cells #[.int .i64 a0_0, .int .i64 a0_1] 25 (0, 0)) (bk BK267) : gb267 < gb268)); clear BK267; clear HB; have BK267 := n0_; have HB := n1_; have BK268 := n2_; have GW268 := n3_; have GE268 := n4_; have NB267_268 := n5_; have NB268_267 := n6_; have LT267_268 := n7_; clear n0_ n1_ n2_ n3_ n4_ n5_ n6_ n7_; clear hb hbox hg) | ((with_reducible refine gate_dst (N := 4) rfl ?_); refine bv (N := 4) (cs := #[.int .i64 0, .int .i64 0]) (t := 25) ?_; intro gb269 hg w23 hbox hb; have n0_ := bb BK267 hb; have n1_ := bb BK268 hb; have n2_ := Aside0.mk (below_step (bz2 GE267 GE268) hb); have n3_ := Aside0.mk (hbox); have n4_ := Aside0.mk ((by rw [hg]; exact (below_size (bz2 GE267 GE268)) : w.heap.size ≤ gb269)); have n5_ := Aside0.mk ((by rw [hg]; exact (below_size (bz2 GE267 GE268)) : w.heap.size ≤ gb269)); have n6_ := Aside0.mk ((by rw [hg]; exact Nat.ne_of_lt (blk_lt (g := gb267) (o := .cells #[.int .i64 a0_0, .int .i64 a0_1] 25 (0, 0)) (bk BK267)) : gb267 ≠ gb269)); have n7_ := Aside0.mk ((by rw [hg]; exact Nat.ne_of_gt (blk_lt (g := gb267) (o := .cells #[.int .i64 a0_0, .int .i64 a0_1] 25 (0, 0)) (bk BK267)) : gb269 ≠ gb267)); have n8_ := Aside0.mk ((by rw [hg]; exact Nat.ne_of_lt (blk_lt (g := gb268) (o := .cells #[.int .i64 a1_0, .int .i64 a1_1] 25 (0, 0)) (bk BK268)) : gb268 ≠ gb269)); have n9_ := Aside0.mk ((by rw [hg]; exact Nat.ne_of_gt (blk_lt (g := gb268) (o := .cells #[.int .i64 a1_0, .int .i64 a1_1] 25 (0, 0)) (bk BK268)) : gb269 ≠ gb268)); have n10_ := Aside0.mk ((by rw [hg]; exact blk_lt (g := gb268) (o := .cells #[.int .i64 a1_0, .int .i64 a1_1] 25 (0, 0)) (bk BK268) : gb268 < gb269)); clear BK267; clear BK268; clear HB; have BK267 := n0_; have BK268 := n1_; have HB := n2_; have BK269 := n3_; have GW269 := n4_; have GE269 := n5_; have NB267_269 := n6_; have NB269_267 := n7_; have NB268_269 := n8_; have NB269_268 := n9_; have LT268_269 := n10_; clear n0_ n1_ n2_ n3_ n4_ n5_ n6_ n7_ n8_ n9_ n10_; clear hb hbox hg; have hlt24 := LT267_268.out; have hlt25 := LT268_269.out; have hcz26_0 : w23.cell? ⟨gb267, 0, none⟩ = some (.int .i64 a0_0) := (blk_cell BK267.out 0).trans rfl; have hcz26_1 : w23.cell? ⟨gb267, 1, none⟩ = some (.int .i64 a0_1) := (blk_cell BK267.out 1).trans rfl; have hfz26_0 := blk_frozen BK267.out 0; have hfz26_1 := blk_frozen BK267.out 1) | ((with_reducible refine gate_callee (f := 42) rfl ?_); refine goesL_ (some 7) rfl rfl Try.func42 kf rfl #[.agg #[.int .i64 a0_0, .int .i64 a0_1]] rfl sm ?_; (with_reducible refine (impl_isDyadic.calls a0_0 a0_1 true _ A3.out).mono ?_); rintro e w27 ⟨rfl, hb⟩; refine ⟨_, rfl, ?_⟩; have n0_ := bb BK267 hb; have n1_ := bb BK268 hb; have n2_ := bb BK269 hb; have n3_ := Aside0.mk (below_step (bz3 GE267 GE268 GE269) hb); clear BK267; clear BK268; clear BK269; clear HB; have BK267 := n0_; have BK268 := n1_; have BK269 := n2_; have HB := n3_; clear n0_ n1_ n2_ n3_; (try clear hb); (try clear hb2); (try clear hk); (try clear hi); have hcz28_0 : w27.cell? ⟨gb268, 0, none⟩ = some (.int .i64 a1_0) := (blk_cell BK268.out 0).trans rfl; have hcz28_1 : w27.cell? ⟨gb268, 1, none⟩ = some (.int .i64 a1_1) := (blk_cell BK268.out 1).trans rfl; have hfz28_0 := blk_frozen BK268.out 0; have hfz28_1 := blk_frozen BK268.out 1) | (go_at_call 42; (with_reducible refine (impl_isDyadic.calls a1_0 a1_1 false _ A5.out).mono ?_); rintro e w29 ⟨rfl, hb⟩; have n0_ := bb BK267 hb; have n1_ := bb BK268 hb; have n2_ := bb BK269 hb; have n3_ := Aside0.mk (below_step (bz3 GE267 GE268 GE269) hb); clear BK267; clear BK268; clear BK269; clear HB; have BK267 := n0_; have BK268 := n1_; have BK269 := n2_; have HB := n3_; clear n0_ n1_ n2_ n3_; (try clear hb); (try clear hb2); (try clear hk); (try clear hi); have hcz30_0 : w29.cell? ⟨gb269, 0, none⟩ = some (.int .i64 0) := (blk_cell BK269.out 0).trans rfl; have hcz30_1 : w29.cell? ⟨gb269, 1, none⟩ = some (.int .i64 0) := (blk_cell BK269.out 1).trans rfl; have hfz30_0 := blk_frozen BK269.out 0; have hfz30_1 := blk_frozen BK269.out 1))
   refine bodyPost_ret (results_ct rfl _ _ gb269 25 #[.int .i64 0, .int .i64 0] (0, 0) _ rfl (by (with_reducible repeat (first | refine blk_drewN ?_ _ | refine blk_drew ?_ | refine blk_alloc ?_ _)); refine blk_put (cs := #[.int .i64 0, .int .i64 0]) ?_ 1 _ rfl; (with_reducible repeat (first | refine blk_drewN ?_ _ | refine blk_drew ?_ | refine blk_alloc ?_ _)); refine blk_put (cs := #[.int .i64 0, .int .i64 0]) ?_ 0 _ rfl; (with_reducible repeat (first | refine blk_drewN ?_ _ | refine blk_drew ?_ | refine blk_alloc ?_ _)); exact BK269.out) Try.underlying25 rfl kf) rfl ?_
   exact ⟨er, bz3 GE267 GE268 GE269⟩
 ·replace c4 := Bool.eq_false_iff.mpr c4
  subst c4
  rw [if_neg (show ¬ (false = true) by decide)] at H
  simp only [Option.some.injEq, Prod.mk.injEq] at H
  obtain ⟨rfl, rfl, rfl⟩ := H
  go_enter Try.func7, Try.ntmps7
  go_wp2_with (first | ((with_reducible refine gate_dst (N := 2) rfl ?_); refine bv (N := 2) (cs := #[.int .i64 a0_0, .int .i64 a0_1]) (t := 25) ?_; intro gb267 hg w31 hbox hb; have n0_ := Aside0.mk (below_step bz hb); have n1_ := Aside0.mk (hbox); have n2_ := (gz hg : Aside0 (w.heap.size ≤ _)); have n3_ := (gz hg : Aside0 (w.heap.size ≤ _)); clear HB; have HB := n0_; have BK267 := n1_; have GW267 := n2_; have GE267 := n3_; clear n0_ n1_ n2_ n3_; clear hb hbox hg) | ((with_reducible refine gate_dst (N := 3) rfl ?_); refine bv (N := 3) (cs := #[.int .i64 a1_0, .int .i64 a1_1]) (t := 25) ?_; intro gb268 hg w32 hbox hb; have n0_ := bb BK267 hb; have n1_ := Aside0.mk (below_step (bz1 GE267) hb); have n2_ := Aside0.mk (hbox); have n3_ := Aside0.mk ((by rw [hg]; exact (below_size (bz1 GE267)) : w.heap.size ≤ gb268)); have n4_ := Aside0.mk ((by rw [hg]; exact (below_size (bz1 GE267)) : w.heap.size ≤ gb268)); have n5_ := Aside0.mk ((by rw [hg]; exact Nat.ne_of_lt (blk_lt (g := gb267) (o := .cells #[.int .i64 a0_0, .int .i64 a0_1] 25 (0, 0)) (bk BK267)) : gb267 ≠ gb268)); have n6_ := Aside0.mk ((by rw [hg]; exact Nat.ne_of_gt (blk_lt (g := gb267) (o := .cells #[.int .i64 a0_0, .int .i64 a0_1] 25 (0, 0)) (bk BK267)) : gb268 ≠ gb267)); have n7_ := Aside0.mk ((by rw [hg]; exact blk_lt (g := gb267) (o := .cells #[.int .i64 a0_0, .int .i64 a0_1] 25 (0, 0)) (bk BK267) : gb267 < gb268)); clear BK267; clear HB; have BK267 := n0_; have HB := n1_; have BK268 := n2_; have GW268 := n3_; have GE268 := n4_; have NB267_268 := n5_; have NB268_267 := n6_; have LT267_268 := n7_; clear n0_ n1_ n2_ n3_ n4_ n5_ n6_ n7_; clear hb hbox hg) | ((with_reducible refine gate_dst (N := 4) rfl ?_); refine bv (N := 4) (cs := #[.int .i64 0, .int .i64 0]) (t := 25) ?_; intro gb269 hg w33 hbox hb; have n0_ := bb BK267 hb; have n1_ := bb BK268 hb; have n2_ := Aside0.mk (below_step (bz2 GE267 GE268) hb); have n3_ := Aside0.mk (hbox); have n4_ := Aside0.mk ((by rw [hg]; exact (below_size (bz2 GE267 GE268)) : w.heap.size ≤ gb269)); have n5_ := Aside0.mk ((by rw [hg]; exact (below_size (bz2 GE267 GE268)) : w.heap.size ≤ gb269)); have n6_ := Aside0.mk ((by rw [hg]; exact Nat.ne_of_lt (blk_lt (g := gb267) (o := .cells #[.int .i64 a0_0, .int .i64 a0_1] 25 (0, 0)) (bk BK267)) : gb267 ≠ gb269)); have n7_ := Aside0.mk ((by rw [hg]; exact Nat.ne_of_gt (blk_lt (g := gb267) (o := .cells #[.int .i64 a0_0, .int .i64 a0_1] 25 (0, 0)) (bk BK267)) : gb269 ≠ gb267)); have n8_ := Aside0.mk ((by rw [hg]; exact Nat.ne_of_lt (blk_lt (g := gb268) (o := .cells #[.int .i64 a1_0, .int .i64 a1_1] 25 (0, 0)) (bk BK268)) : gb268 ≠ gb269)); have n9_ := Aside0.mk ((by rw [hg]; exact Nat.ne_of_gt (blk_lt (g := gb268) (o := .cells #[.int .i64 a1_0, .int .i64 a1_1] 25 (0, 0)) (bk BK268)) : gb269 ≠ gb268)); have n10_ := Aside0.mk ((by rw [hg]; exact blk_lt (g := gb268) (o := .cells #[.int .i64 a1_0, .int .i64 a1_1] 25 (0, 0)) (bk BK268) : gb268 < gb269)); clear BK267; clear BK268; clear HB; have BK267 := n0_; have BK268 := n1_; have HB := n2_; have BK269 := n3_; have GW269 := n4_; have GE269 := n5_; have NB267_269 := n6_; have NB269_267 := n7_; have NB268_269 := n8_; have NB269_268 := n9_; have LT268_269 := n10_; clear n0_ n1_ n2_ n3_ n4_ n5_ n6_ n7_ n8_ n9_ n10_; clear hb hbox hg; have hlt34 := LT267_268.out; have hlt35 := LT268_269.out; have hcz36_0 : w33.cell? ⟨gb267, 0, none⟩ = some (.int .i64 a0_0) := (blk_cell BK267.out 0).trans rfl; have hcz36_1 : w33.cell? ⟨gb267, 1, none⟩ = some (.int .i64 a0_1) := (blk_cell BK267.out 1).trans rfl; have hfz36_0 := blk_frozen BK267.out 0; have hfz36_1 := blk_frozen BK267.out 1) | ((with_reducible refine gate_callee (f := 42) rfl ?_); refine goesL_ (some 7) rfl rfl Try.func42 kf rfl #[.agg #[.int .i64 a0_0, .int .i64 a0_1]] rfl sm ?_; (with_reducible refine (impl_isDyadic.calls a0_0 a0_1 false _ A3.out).mono ?_); rintro e w37 ⟨rfl, hb⟩; refine ⟨_, rfl, ?_⟩; have n0_ := bb BK267 hb; have n1_ := bb BK268 hb; have n2_ := bb BK269 hb; have n3_ := Aside0.mk (below_step (bz3 GE267 GE268 GE269) hb); clear BK267; clear BK268; clear BK269; clear HB; have BK267 := n0_; have BK268 := n1_; have BK269 := n2_; have HB := n3_; clear n0_ n1_ n2_ n3_; (try clear hb); (try clear hb2); (try clear hk); (try clear hi); have hcz38_0 : w37.cell? ⟨gb269, 0, none⟩ = some (.int .i64 0) := (blk_cell BK269.out 0).trans rfl; have hcz38_1 : w37.cell? ⟨gb269, 1, none⟩ = some (.int .i64 0) := (blk_cell BK269.out 1).trans rfl; have hfz38_0 := blk_frozen BK269.out 0; have hfz38_1 := blk_frozen BK269.out 1))
  refine bodyPost_ret (results_ct rfl _ _ gb269 25 #[.int .i64 0, .int .i64 0] (0, 0) _ rfl (by (with_reducible repeat (first | refine blk_drewN ?_ _ | refine blk_drew ?_ | refine blk_alloc ?_ _)); refine blk_put (cs := #[.int .i64 0, .int .i64 0]) ?_ 1 _ rfl; (with_reducible repeat (first | refine blk_drewN ?_ _ | refine blk_drew ?_ | refine blk_alloc ?_ _)); refine blk_put (cs := #[.int .i64 0, .int .i64 0]) ?_ 0 _ rfl; (with_reducible repeat (first | refine blk_drewN ?_ _ | refine blk_drew ?_ | refine blk_alloc ?_ _)); exact BK269.out) Try.underlying25 rfl kf) rfl ?_
  exact ⟨er, bz3 GE267 GE268 GE269⟩
def spec_dyTwo.f (a0_0 : Int) (a0_1 : Int) (a1_0 : Int) (a1_1 : Int) : Option (Bool) := (spec_dyGood.f a0_0 a0_1).bind fun t277 => (if t277 = true then ((spec_dyGood.f a1_0 a1_1).bind fun t278 => (some t278)) else (some false))
set_option maxHeartbeats 8000000 in
set_option maxRecDepth 100000 in
theorem spec_dyTwo.calls (a0_0 : Int) (a0_1 : Int) (a1_0 : Int) (a1_1 : Int) (r : Bool) (w : World) (h : spec_dyTwo.f a0_0 a0_1 a1_0 a1_1 = some r) :
 Calls Try.prog 44 #[.agg #[.int .i64 a0_0, .int .i64 a0_1], .agg #[.int .i64 a1_0, .int .i64 a1_1]] w fun e w' => e = .returned (.bool r) ∧ Below w.heap.size w w' := by
 have hu25 := Try.underlying25
 have HB := Aside0.mk (Below.refl w.heap.size w)
 have H : ((spec_dyGood.f a0_0 a0_1).bind fun t277 => (if t277 = true then ((spec_dyGood.f a1_0 a1_1).bind fun t278 => (some t278)) else (some false))) = some r := h
 clear h
 obtain ⟨t277, A3, H⟩ := bi H
 by_cases c4 : t277 = true
 ·subst c4
  rw [if_pos rfl] at H
  obtain ⟨t278, A5, H⟩ := bi H
  obtain rfl := Option.some.inj H
  go_enter Try.func44, Try.ntmps44
  go_wp2_with (first | ((with_reducible refine gate_dst (N := 2) rfl ?_); refine bv (N := 2) (cs := #[.int .i64 a0_0, .int .i64 a0_1]) (t := 25) ?_; intro gb275 hg w6 hbox hb; have n0_ := Aside0.mk (below_step bz hb); have n1_ := Aside0.mk (hbox); have n2_ := (gz hg : Aside0 (w.heap.size ≤ _)); have n3_ := (gz hg : Aside0 (w.heap.size ≤ _)); clear HB; have HB := n0_; have BK275 := n1_; have GW275 := n2_; have GE275 := n3_; clear n0_ n1_ n2_ n3_; clear hb hbox hg) | ((with_reducible refine gate_dst (N := 3) rfl ?_); refine bv (N := 3) (cs := #[.int .i64 a1_0, .int .i64 a1_1]) (t := 25) ?_; intro gb276 hg w7 hbox hb; have n0_ := bb BK275 hb; have n1_ := Aside0.mk (below_step (bz1 GE275) hb); have n2_ := Aside0.mk (hbox); have n3_ := Aside0.mk ((by rw [hg]; exact (below_size (bz1 GE275)) : w.heap.size ≤ gb276)); have n4_ := Aside0.mk ((by rw [hg]; exact (below_size (bz1 GE275)) : w.heap.size ≤ gb276)); have n5_ := Aside0.mk ((by rw [hg]; exact Nat.ne_of_lt (blk_lt (g := gb275) (o := .cells #[.int .i64 a0_0, .int .i64 a0_1] 25 (0, 0)) (bk BK275)) : gb275 ≠ gb276)); have n6_ := Aside0.mk ((by rw [hg]; exact Nat.ne_of_gt (blk_lt (g := gb275) (o := .cells #[.int .i64 a0_0, .int .i64 a0_1] 25 (0, 0)) (bk BK275)) : gb276 ≠ gb275)); have n7_ := Aside0.mk ((by rw [hg]; exact blk_lt (g := gb275) (o := .cells #[.int .i64 a0_0, .int .i64 a0_1] 25 (0, 0)) (bk BK275) : gb275 < gb276)); clear BK275; clear HB; have BK275 := n0_; have HB := n1_; have BK276 := n2_; have GW276 := n3_; have GE276 := n4_; have NB275_276 := n5_; have NB276_275 := n6_; have LT275_276 := n7_; clear n0_ n1_ n2_ n3_ n4_ n5_ n6_ n7_; clear hb hbox hg; have hlt8 := LT275_276.out; have hcz9_0 : w7.cell? ⟨gb275, 0, none⟩ = some (.int .i64 a0_0) := (blk_cell BK275.out 0).trans rfl; have hcz9_1 : w7.cell? ⟨gb275, 1, none⟩ = some (.int .i64 a0_1) := (blk_cell BK275.out 1).trans rfl; have hfz9_0 := blk_frozen BK275.out 0; have hfz9_1 := blk_frozen BK275.out 1) | ((with_reducible refine gate_callee (f := 40) rfl ?_); refine goesL_ (some 6) rfl rfl Try.func40 kf rfl #[.agg #[.int .i64 a0_0, .int .i64 a0_1]] rfl sm ?_; (with_reducible refine (spec_dyGood.calls a0_0 a0_1 true _ A3.out).mono ?_); rintro e w10 ⟨rfl, hb⟩; refine ⟨_, rfl, ?_⟩; have n0_ := bb BK275 hb; have n1_ := bb BK276 hb; have n2_ := Aside0.mk (below_step (bz2 GE275 GE276) hb); clear BK275; clear BK276; clear HB; have BK275 := n0_; have BK276 := n1_; have HB := n2_; clear n0_ n1_ n2_; (try clear hb); (try clear hb2); (try clear hk); (try clear hi); have hcz11_0 : w10.cell? ⟨gb276, 0, none⟩ = some (.int .i64 a1_0) := (blk_cell BK276.out 0).trans rfl; have hcz11_1 : w10.cell? ⟨gb276, 1, none⟩ = some (.int .i64 a1_1) := (blk_cell BK276.out 1).trans rfl; have hfz11_0 := blk_frozen BK276.out 0; have hfz11_1 := blk_frozen BK276.out 1) | (go_at_call 40; (with_reducible refine (spec_dyGood.calls a1_0 a1_1 t278 _ A5.out).mono ?_); rintro e w12 ⟨rfl, hb⟩; have n0_ := bb BK275 hb; have n1_ := bb BK276 hb; have n2_ := Aside0.mk (below_step (bz2 GE275 GE276) hb); clear BK275; clear BK276; clear HB; have BK275 := n0_; have BK276 := n1_; have HB := n2_; clear n0_ n1_ n2_; (try clear hb); (try clear hb2); (try clear hk); (try clear hi)))
  go_ret
  exact ⟨er, bz2 GE275 GE276⟩
 ·replace c4 := Bool.eq_false_iff.mpr c4
  subst c4
  rw [if_neg (show ¬ (false = true) by decide)] at H
  obtain rfl := Option.some.inj H
  go_enter Try.func44, Try.ntmps44
  go_wp2_with (first | ((with_reducible refine gate_dst (N := 2) rfl ?_); refine bv (N := 2) (cs := #[.int .i64 a0_0, .int .i64 a0_1]) (t := 25) ?_; intro gb275 hg w13 hbox hb; have n0_ := Aside0.mk (below_step bz hb); have n1_ := Aside0.mk (hbox); have n2_ := (gz hg : Aside0 (w.heap.size ≤ _)); have n3_ := (gz hg : Aside0 (w.heap.size ≤ _)); clear HB; have HB := n0_; have BK275 := n1_; have GW275 := n2_; have GE275 := n3_; clear n0_ n1_ n2_ n3_; clear hb hbox hg) | ((with_reducible refine gate_dst (N := 3) rfl ?_); refine bv (N := 3) (cs := #[.int .i64 a1_0, .int .i64 a1_1]) (t := 25) ?_; intro gb276 hg w14 hbox hb; have n0_ := bb BK275 hb; have n1_ := Aside0.mk (below_step (bz1 GE275) hb); have n2_ := Aside0.mk (hbox); have n3_ := Aside0.mk ((by rw [hg]; exact (below_size (bz1 GE275)) : w.heap.size ≤ gb276)); have n4_ := Aside0.mk ((by rw [hg]; exact (below_size (bz1 GE275)) : w.heap.size ≤ gb276)); have n5_ := Aside0.mk ((by rw [hg]; exact Nat.ne_of_lt (blk_lt (g := gb275) (o := .cells #[.int .i64 a0_0, .int .i64 a0_1] 25 (0, 0)) (bk BK275)) : gb275 ≠ gb276)); have n6_ := Aside0.mk ((by rw [hg]; exact Nat.ne_of_gt (blk_lt (g := gb275) (o := .cells #[.int .i64 a0_0, .int .i64 a0_1] 25 (0, 0)) (bk BK275)) : gb276 ≠ gb275)); have n7_ := Aside0.mk ((by rw [hg]; exact blk_lt (g := gb275) (o := .cells #[.int .i64 a0_0, .int .i64 a0_1] 25 (0, 0)) (bk BK275) : gb275 < gb276)); clear BK275; clear HB; have BK275 := n0_; have HB := n1_; have BK276 := n2_; have GW276 := n3_; have GE276 := n4_; have NB275_276 := n5_; have NB276_275 := n6_; have LT275_276 := n7_; clear n0_ n1_ n2_ n3_ n4_ n5_ n6_ n7_; clear hb hbox hg; have hlt15 := LT275_276.out; have hcz16_0 : w14.cell? ⟨gb275, 0, none⟩ = some (.int .i64 a0_0) := (blk_cell BK275.out 0).trans rfl; have hcz16_1 : w14.cell? ⟨gb275, 1, none⟩ = some (.int .i64 a0_1) := (blk_cell BK275.out 1).trans rfl; have hfz16_0 := blk_frozen BK275.out 0; have hfz16_1 := blk_frozen BK275.out 1) | ((with_reducible refine gate_callee (f := 40) rfl ?_); refine goesL_ (some 6) rfl rfl Try.func40 kf rfl #[.agg #[.int .i64 a0_0, .int .i64 a0_1]] rfl sm ?_; (with_reducible refine (spec_dyGood.calls a0_0 a0_1 false _ A3.out).mono ?_); rintro e w17 ⟨rfl, hb⟩; refine ⟨_, rfl, ?_⟩; have n0_ := bb BK275 hb; have n1_ := bb BK276 hb; have n2_ := Aside0.mk (below_step (bz2 GE275 GE276) hb); clear BK275; clear BK276; clear HB; have BK275 := n0_; have BK276 := n1_; have HB := n2_; clear n0_ n1_ n2_; (try clear hb); (try clear hb2); (try clear hk); (try clear hi)))
  go_ret
  exact ⟨er, bz2 GE275 GE276⟩
def spec_l1Most.f (a0 : Int) (a1 : Int) : Option (Int) := if a0 > a1 then (some a0) else (some a1)
set_option maxHeartbeats 8000000 in
set_option maxRecDepth 100000 in
theorem spec_l1Most.calls (a0 : Int) (a1 : Int) (r : Int) (w : World) (h : spec_l1Most.f a0 a1 = some r) :
 Calls Try.prog 82 #[.int .i64 a0, .int .i64 a1] w fun e w' => e = .returned (.int .i64 r) ∧ Drawn0 w w' := by
 have H : (if a0 > a1 then (some a0) else (some a1)) = some r := h
 clear h
 by_cases c3 : a0 > a1
 ·rw [if_pos c3] at H
  have c3b0 : decide (a1 < a0) = true := decide_eq_true c3
  clear c3
  obtain rfl := Option.some.inj H
  go_enter Try.func82, Try.ntmps82
  go_wp2
  go_ret
  exact ⟨sr, dz⟩
 ·rw [if_neg c3] at H
  have c3b0 : decide (a1 < a0) = false := decide_eq_false c3
  clear c3
  obtain rfl := Option.some.inj H
  go_enter Try.func82, Try.ntmps82
  go_wp2
  go_ret
  exact ⟨sr, dz⟩
def spec_dyPower.f (a0 : Int) : Option (Int) := if 0 ≤ (IntKind.u64.wrap (a0)) then (some (shl .i64 1 (IntKind.u64.wrap (a0)))) else (none)
set_option maxHeartbeats 8000000 in
set_option maxRecDepth 100000 in
theorem spec_dyPower.calls (a0 : Int) (r : Int) (w : World) (h : spec_dyPower.f a0 = some r) :
 Calls Try.prog 89 #[.int .i64 a0] w fun e w' => e = .returned (.int .i64 r) ∧ Drawn0 w w' := by
 have H : (if 0 ≤ (IntKind.u64.wrap (a0)) then (some (shl .i64 1 (IntKind.u64.wrap (a0)))) else (none)) = some r := h
 clear h
 obtain ⟨ji2, hji2⟩ : ∃ j_ : Int, (IntKind.u64.wrap (a0)) = j_ := ⟨_, rfl⟩
 first | rw [hji2] at H | simp only [hji2] at H
 by_cases c3 : 0 ≤ (ji2)
 ·rw [if_pos c3] at H
  have c3b0 := eq_true c3
  have c3b1 : decide (0 ≤ (ji2)) = true := decide_eq_true c3
  clear c3
  obtain ⟨ji4, hji4⟩ : ∃ j_ : Int, (shl .i64 1 (ji2)) = j_ := ⟨_, rfl⟩
  first | rw [hji4] at H | simp only [hji4] at H
  have hji4_ : (IntKind.i64.wrap (1 * 2 ^ min (ji2).toNat 64)) = ji4 := hji4
  have hji4z : (ji2) ≤ 64 → (IntKind.i64.wrap (1 * 2 ^ (ji2).toNat)) = ji4 := shl_small hji4
  have hji4u : (IntKind.i64.wrap (2 ^ min (ji2).toNat 64)) = ji4 := by have h_ := hji4_; rw [Int.one_mul] at h_; exact h_
  have hji4v : (ji2) ≤ 64 → (IntKind.i64.wrap (2 ^ (ji2).toNat)) = ji4 := fun hle_ => by have h_ := hji4z hle_; rw [Int.one_mul] at h_; exact h_
  have hji4y : (wrap64 (1 * 2 ^ min (ji2).toNat 64)) = ji4 := (i64_w _).symm.trans hji4_
  have hji4x : (ji2) ≤ 64 → (wrap64 (1 * 2 ^ (ji2).toNat)) = ji4 := fun h_ => (i64_w _).symm.trans (hji4z h_)
  obtain rfl := Option.some.inj H
  go_enter Try.func89, Try.ntmps89
  go_wp2
  go_ret
  exact ⟨by first | rfl | (simp; done) | (simp only [← hji2, ← hji4] <;> (first | rfl | simp)) | (simp [*]; done), dz⟩
 ·rw [if_neg c3] at H
  exact absurd H (by simp)
def spec_dyAt.l0 : Nat → Int → Int → Int → Int → Option (Int × Bool)
 | 0, _, _, _, _ => none
 | k + 1, x1, x6, x280000, x280001 => if x6 < x1 then ((spec_dyPower.f 60).bind fun t280 => ((spec_l1In.f x280000 (wrap64 (-t280)) t280).bind fun t281 => (if t281 = true then (spec_dyAt.l0 k x1 (wrap64 (x6 + 1)) (wrap64 (x280000 * 2)) x280001) else (some (0, false))))) else (some (x280000, true))
def spec_dyAt.f (k : Nat) (a0_0 : Int) (a0_1 : Int) (a1 : Int) : Option (Int × Bool) := if a0_0 = 0 then (some (0, true)) else (spec_dyAt.l0 k a1 a0_1 a0_0 a0_1)
set_option maxHeartbeats 8000000 in
set_option maxRecDepth 100000 in
theorem spec_dyAt.calls (k : Nat) (a0_0 : Int) (a0_1 : Int) (a1 : Int) (r1 : Int) (r2 : Bool) (w : World) (h : spec_dyAt.f k a0_0 a0_1 a1 = some (r1, r2)) :
 Calls Try.prog 83 #[.agg #[.int .i64 a0_0, .int .i64 a0_1], .int .i64 a1] w fun e w' => e = .returned (.tuple #[.int .i64 r1, .bool r2]) ∧ Below w.heap.size w w' := by
 have hu25 := Try.underlying25
 have HB := Aside0.mk (Below.refl w.heap.size w)
 have H : (if a0_0 = 0 then (some (0, true)) else (spec_dyAt.l0 k a1 a0_1 a0_0 a0_1)) = some (r1, r2) := h
 clear h
 by_cases c3 : a0_0 = 0
 ·rw [if_pos c3] at H
  have c3b0 : (a0_0 == 0) = true := beq_iff_eq.mpr c3
  have c3b1 : (a0_0 != 0) = false := bne_eq_false_iff_eq.mpr c3
  clear c3
  simp only [Option.some.injEq, Prod.mk.injEq] at H
  obtain ⟨rfl, rfl⟩ := H
  go_enter Try.func83, Try.ntmps83
  go_wp2_with (first | ((with_reducible refine gate_dst (N := 2) rfl ?_); refine bv (N := 2) (cs := #[.int .i64 a0_0, .int .i64 a0_1]) (t := 25) ?_; intro gb279 hg w4 hbox hb; have n0_ := Aside0.mk (below_step bz hb); have n1_ := Aside0.mk (hbox); have n2_ := (gz hg : Aside0 (w.heap.size ≤ _)); have n3_ := (gz hg : Aside0 (w.heap.size ≤ _)); clear HB; have HB := n0_; have BK279 := n1_; have GW279 := n2_; have GE279 := n3_; clear n0_ n1_ n2_ n3_; clear hb hbox hg; have hcz5_0 : w4.cell? ⟨gb279, 0, none⟩ = some (.int .i64 a0_0) := (blk_cell BK279.out 0).trans rfl; have hcz5_1 : w4.cell? ⟨gb279, 1, none⟩ = some (.int .i64 a0_1) := (blk_cell BK279.out 1).trans rfl; have hfz5_0 := blk_frozen BK279.out 0; have hfz5_1 := blk_frozen BK279.out 1))
  repeat (go_quiet (first | ((with_reducible refine gate_dst (N := 2) rfl ?_); refine bv (N := 2) (cs := #[.int .i64 a0_0, .int .i64 a0_1]) (t := 25) ?_; intro gb279 hg w4 hbox hb; have n0_ := Aside0.mk (below_step bz hb); have n1_ := Aside0.mk (hbox); have n2_ := (gz hg : Aside0 (w.heap.size ≤ _)); have n3_ := (gz hg : Aside0 (w.heap.size ≤ _)); clear HB; have HB := n0_; have BK279 := n1_; have GW279 := n2_; have GE279 := n3_; clear n0_ n1_ n2_ n3_; clear hb hbox hg; have hcz5_0 : w4.cell? ⟨gb279, 0, none⟩ = some (.int .i64 a0_0) := (blk_cell BK279.out 0).trans rfl; have hcz5_1 : w4.cell? ⟨gb279, 1, none⟩ = some (.int .i64 a0_1) := (blk_cell BK279.out 1).trans rfl; have hfz5_0 := blk_frozen BK279.out 0; have hfz5_1 := blk_frozen BK279.out 1)); try go_wp2_with (first | ((with_reducible refine gate_dst (N := 2) rfl ?_); refine bv (N := 2) (cs := #[.int .i64 a0_0, .int .i64 a0_1]) (t := 25) ?_; intro gb279 hg w4 hbox hb; have n0_ := Aside0.mk (below_step bz hb); have n1_ := Aside0.mk (hbox); have n2_ := (gz hg : Aside0 (w.heap.size ≤ _)); have n3_ := (gz hg : Aside0 (w.heap.size ≤ _)); clear HB; have HB := n0_; have BK279 := n1_; have GW279 := n2_; have GE279 := n3_; clear n0_ n1_ n2_ n3_; clear hb hbox hg; have hcz5_0 : w4.cell? ⟨gb279, 0, none⟩ = some (.int .i64 a0_0) := (blk_cell BK279.out 0).trans rfl; have hcz5_1 : w4.cell? ⟨gb279, 1, none⟩ = some (.int .i64 a0_1) := (blk_cell BK279.out 1).trans rfl; have hfz5_0 := blk_frozen BK279.out 0; have hfz5_1 := blk_frozen BK279.out 1)))
  go_ret2
  exact ⟨er, bz1 GE279⟩
 ·rw [if_neg c3] at H
  have c3b0 : (a0_0 == 0) = false := beq_eq_false_iff_ne.mpr c3
  have c3b1 : (a0_0 != 0) = true := bne_iff_ne.mpr c3
  have H' := Aside0.mk H
  clear H
  go_enter Try.func83, Try.ntmps83
  go_wp2_with (first | ((with_reducible refine gate_dst (N := 2) rfl ?_); refine bv (N := 2) (cs := #[.int .i64 a0_0, .int .i64 a0_1]) (t := 25) ?_; intro gb279 hg w6 hbox hb; have n0_ := Aside0.mk (below_step bz hb); have n1_ := Aside0.mk (hbox); have n2_ := (gz hg : Aside0 (w.heap.size ≤ _)); have n3_ := (gz hg : Aside0 (w.heap.size ≤ _)); clear HB; have HB := n0_; have BK279 := n1_; have GW279 := n2_; have GE279 := n3_; clear n0_ n1_ n2_ n3_; clear hb hbox hg; have hcz7_0 : w6.cell? ⟨gb279, 0, none⟩ = some (.int .i64 a0_0) := (blk_cell BK279.out 0).trans rfl; have hcz7_1 : w6.cell? ⟨gb279, 1, none⟩ = some (.int .i64 a0_1) := (blk_cell BK279.out 1).trans rfl; have hfz7_0 := blk_frozen BK279.out 0; have hfz7_1 := blk_frozen BK279.out 1))
  repeat (go_quiet (first | ((with_reducible refine gate_dst (N := 2) rfl ?_); refine bv (N := 2) (cs := #[.int .i64 a0_0, .int .i64 a0_1]) (t := 25) ?_; intro gb279 hg w6 hbox hb; have n0_ := Aside0.mk (below_step bz hb); have n1_ := Aside0.mk (hbox); have n2_ := (gz hg : Aside0 (w.heap.size ≤ _)); have n3_ := (gz hg : Aside0 (w.heap.size ≤ _)); clear HB; have HB := n0_; have BK279 := n1_; have GW279 := n2_; have GE279 := n3_; clear n0_ n1_ n2_ n3_; clear hb hbox hg; have hcz7_0 : w6.cell? ⟨gb279, 0, none⟩ = some (.int .i64 a0_0) := (blk_cell BK279.out 0).trans rfl; have hcz7_1 : w6.cell? ⟨gb279, 1, none⟩ = some (.int .i64 a0_1) := (blk_cell BK279.out 1).trans rfl; have hfz7_0 := blk_frozen BK279.out 0; have hfz7_1 := blk_frozen BK279.out 1)); try go_wp2_with (first | ((with_reducible refine gate_dst (N := 2) rfl ?_); refine bv (N := 2) (cs := #[.int .i64 a0_0, .int .i64 a0_1]) (t := 25) ?_; intro gb279 hg w6 hbox hb; have n0_ := Aside0.mk (below_step bz hb); have n1_ := Aside0.mk (hbox); have n2_ := (gz hg : Aside0 (w.heap.size ≤ _)); have n3_ := (gz hg : Aside0 (w.heap.size ≤ _)); clear HB; have HB := n0_; have BK279 := n1_; have GW279 := n2_; have GE279 := n3_; clear n0_ n1_ n2_ n3_; clear hb hbox hg; have hcz7_0 : w6.cell? ⟨gb279, 0, none⟩ = some (.int .i64 a0_0) := (blk_cell BK279.out 0).trans rfl; have hcz7_1 : w6.cell? ⟨gb279, 1, none⟩ = some (.int .i64 a0_1) := (blk_cell BK279.out 1).trans rfl; have hfz7_0 := blk_frozen BK279.out 0; have hfz7_1 := blk_frozen BK279.out 1)))
  go_loopg [6] k (fun kq v6 w' => ∃ (x6_1 : Int) (x280000_1 : Int), v6 = .int .i64 x6_1 ∧ Aside0 (spec_dyAt.l0 kq a1 x6_1 x280000_1 a0_1 = some (r1, r2)) ∧ Aside0 (kq ≤ k) ∧ Aside0 (w'.heap[gb279]? = some (.cells #[.int .i64 x280000_1, .int .i64 a0_1] 25 (0, 0))) ∧ Aside0 (Below w.heap.size w w'))
  case atStart => exact ⟨(a0_1), (a0_0), sr, H', ⟨Nat.le_refl _⟩, ⟨bk BK279⟩, ⟨bz1 GE279⟩⟩
  case round =>
   clear H'
   try clear p2; try clear c3; try clear c3b0; try clear c3b1; try clear hcz5_0; try clear hcz5_1; try clear hcz7_0; try clear hcz7_1; try clear hfz5_0; try clear hfz5_1; try clear hfz7_0; try clear hfz7_1
   obtain ⟨x6_1, x280000_1, rfl, HA, HK1, BK279, HB⟩ := hrel
   cases gk with
   | zero => exact absurd HA.out (by simp [spec_dyAt.l0])
   | succ k1 =>
    have H := HA.out
    clear HA
    simp only [spec_dyAt.l0] at H
    by_cases c8 : x6_1 < a1
    ·rw [if_pos c8] at H
     have c8b0 : decide (x6_1 < a1) = true := decide_eq_true c8
     clear c8
     obtain ⟨t280, A9, H⟩ := bi H
     obtain ⟨t281, A10, H⟩ := bi H
     by_cases c11 : t281 = true
     ·subst c11
      rw [if_pos rfl] at H
      have H' := Aside0.mk H
      clear H
      have hcz12_0 : wr.cell? ⟨gb279, 0, none⟩ = some (.int .i64 x280000_1) := (blk_cell BK279.out 0).trans rfl
      have hcz12_1 : wr.cell? ⟨gb279, 1, none⟩ = some (.int .i64 a0_1) := (blk_cell BK279.out 1).trans rfl
      have hfz12_0 := blk_frozen BK279.out 0
      have hfz12_1 := blk_frozen BK279.out 1
      go_wp2_with (first | (go_at_call 89; (with_reducible refine (spec_dyPower.calls 60 t280 _ A9.out).mono ?_); rintro e w' ⟨rfl, ⟨nd, rfl⟩⟩; (try first | exact ⟨rfl, _, World.drewN_drewN _ _ _⟩ | exact ⟨rfl, _, Eq.trans (World.drewN_drewN _ _ _) (congrArg (World.drewN _) (Nat.add_assoc _ _ _))⟩)) | (go_at_call 59; (with_reducible refine (spec_l1In.calls x280000_1 (wrap64 (-t280)) t280 true _ A10.out).mono ?_); rintro e w' ⟨rfl, ⟨nd, rfl⟩⟩; (try first | exact ⟨rfl, _, World.drewN_drewN _ _ _⟩ | exact ⟨rfl, _, Eq.trans (World.drewN_drewN _ _ _) (congrArg (World.drewN _) (Nat.add_assoc _ _ _))⟩)))
      repeat (go_quiet (first | (go_at_call 89; (with_reducible refine (spec_dyPower.calls 60 t280 _ A9.out).mono ?_); rintro e w' ⟨rfl, ⟨nd, rfl⟩⟩; (try first | exact ⟨rfl, _, World.drewN_drewN _ _ _⟩ | exact ⟨rfl, _, Eq.trans (World.drewN_drewN _ _ _) (congrArg (World.drewN _) (Nat.add_assoc _ _ _))⟩)) | (go_at_call 59; (with_reducible refine (spec_l1In.calls x280000_1 (wrap64 (-t280)) t280 true _ A10.out).mono ?_); rintro e w' ⟨rfl, ⟨nd, rfl⟩⟩; (try first | exact ⟨rfl, _, World.drewN_drewN _ _ _⟩ | exact ⟨rfl, _, Eq.trans (World.drewN_drewN _ _ _) (congrArg (World.drewN _) (Nat.add_assoc _ _ _))⟩))); try go_wp2_with (first | (go_at_call 89; (with_reducible refine (spec_dyPower.calls 60 t280 _ A9.out).mono ?_); rintro e w' ⟨rfl, ⟨nd, rfl⟩⟩; (try first | exact ⟨rfl, _, World.drewN_drewN _ _ _⟩ | exact ⟨rfl, _, Eq.trans (World.drewN_drewN _ _ _) (congrArg (World.drewN _) (Nat.add_assoc _ _ _))⟩)) | (go_at_call 59; (with_reducible refine (spec_l1In.calls x280000_1 (wrap64 (-t280)) t280 true _ A10.out).mono ?_); rintro e w' ⟨rfl, ⟨nd, rfl⟩⟩; (try first | exact ⟨rfl, _, World.drewN_drewN _ _ _⟩ | exact ⟨rfl, _, Eq.trans (World.drewN_drewN _ _ _) (congrArg (World.drewN _) (Nat.add_assoc _ _ _))⟩))))
      go_roundg k1
      case measure => have := HK1.out; omega
      case rel => exact ⟨(wrap64 (x6_1 + 1)), (wrap64 (x280000_1 * 2)), sr, H', ⟨by have := HK1.out; omega⟩, ⟨by (with_reducible repeat (first | refine blk_drewN ?_ _ | refine blk_drew ?_ | refine blk_alloc ?_ _)); refine blk_put (cs := #[.int .i64 x280000_1, .int .i64 a0_1]) ?_ 0 _ rfl; (with_reducible repeat (first | refine blk_drewN ?_ _ | refine blk_drew ?_ | refine blk_alloc ?_ _)); exact BK279.out⟩, ⟨bz1 GE279⟩⟩
     ·replace c11 := Bool.eq_false_iff.mpr c11
      subst c11
      rw [if_neg (show ¬ (false = true) by decide)] at H
      simp only [Option.some.injEq, Prod.mk.injEq] at H
      obtain ⟨rfl, rfl⟩ := H
      have hcz13_0 : wr.cell? ⟨gb279, 0, none⟩ = some (.int .i64 x280000_1) := (blk_cell BK279.out 0).trans rfl
      have hcz13_1 : wr.cell? ⟨gb279, 1, none⟩ = some (.int .i64 a0_1) := (blk_cell BK279.out 1).trans rfl
      have hfz13_0 := blk_frozen BK279.out 0
      have hfz13_1 := blk_frozen BK279.out 1
      go_wp2_with (first | (go_at_call 89; (with_reducible refine (spec_dyPower.calls 60 t280 _ A9.out).mono ?_); rintro e w' ⟨rfl, ⟨nd, rfl⟩⟩; (try first | exact ⟨rfl, _, World.drewN_drewN _ _ _⟩ | exact ⟨rfl, _, Eq.trans (World.drewN_drewN _ _ _) (congrArg (World.drewN _) (Nat.add_assoc _ _ _))⟩)) | (go_at_call 59; (with_reducible refine (spec_l1In.calls x280000_1 (wrap64 (-t280)) t280 false _ A10.out).mono ?_); rintro e w' ⟨rfl, ⟨nd, rfl⟩⟩; (try first | exact ⟨rfl, _, World.drewN_drewN _ _ _⟩ | exact ⟨rfl, _, Eq.trans (World.drewN_drewN _ _ _) (congrArg (World.drewN _) (Nat.add_assoc _ _ _))⟩)))
      repeat (go_quiet (first | (go_at_call 89; (with_reducible refine (spec_dyPower.calls 60 t280 _ A9.out).mono ?_); rintro e w' ⟨rfl, ⟨nd, rfl⟩⟩; (try first | exact ⟨rfl, _, World.drewN_drewN _ _ _⟩ | exact ⟨rfl, _, Eq.trans (World.drewN_drewN _ _ _) (congrArg (World.drewN _) (Nat.add_assoc _ _ _))⟩)) | (go_at_call 59; (with_reducible refine (spec_l1In.calls x280000_1 (wrap64 (-t280)) t280 false _ A10.out).mono ?_); rintro e w' ⟨rfl, ⟨nd, rfl⟩⟩; (try first | exact ⟨rfl, _, World.drewN_drewN _ _ _⟩ | exact ⟨rfl, _, Eq.trans (World.drewN_drewN _ _ _) (congrArg (World.drewN _) (Nat.add_assoc _ _ _))⟩))); try go_wp2_with (first | (go_at_call 89; (with_reducible refine (spec_dyPower.calls 60 t280 _ A9.out).mono ?_); rintro e w' ⟨rfl, ⟨nd, rfl⟩⟩; (try first | exact ⟨rfl, _, World.drewN_drewN _ _ _⟩ | exact ⟨rfl, _, Eq.trans (World.drewN_drewN _ _ _) (congrArg (World.drewN _) (Nat.add_assoc _ _ _))⟩)) | (go_at_call 59; (with_reducible refine (spec_l1In.calls x280000_1 (wrap64 (-t280)) t280 false _ A10.out).mono ?_); rintro e w' ⟨rfl, ⟨nd, rfl⟩⟩; (try first | exact ⟨rfl, _, World.drewN_drewN _ _ _⟩ | exact ⟨rfl, _, Eq.trans (World.drewN_drewN _ _ _) (congrArg (World.drewN _) (Nat.add_assoc _ _ _))⟩))))
      go_ret2
      exact ⟨er, bz1 GE279⟩
    ·rw [if_neg c8] at H
     have c8b0 : decide (x6_1 < a1) = false := decide_eq_false c8
     clear c8
     simp only [Option.some.injEq, Prod.mk.injEq] at H
     obtain ⟨rfl, rfl⟩ := H
     have hcz14_0 : wr.cell? ⟨gb279, 0, none⟩ = some (.int .i64 x280000_1) := (blk_cell BK279.out 0).trans rfl
     have hcz14_1 : wr.cell? ⟨gb279, 1, none⟩ = some (.int .i64 a0_1) := (blk_cell BK279.out 1).trans rfl
     have hfz14_0 := blk_frozen BK279.out 0
     have hfz14_1 := blk_frozen BK279.out 1
     go_wp2
     repeat (go_quiet (fail); try go_wp2)
     go_ret2
     exact ⟨er, bz1 GE279⟩
end Go.Proofs.Ytneceomekgophaa.QDys
