import Derived.Test.YtneceomekgophaaZFnDyadicsSq
import Derived.Test.YtneceomekgophaaZFnDyadicsQDysx1
namespace Go.Proofs.Ytneceomekgophaa.QDys
open Go.RowKit Go.Proofs.YtneceomekgophaaW.PrintWords Go.Proofs.YtneceomekgophaaW.PrintLast Go.Proofs.YtneceomekgophaaW.PrintMore
attribute [local go_sem] max2_int min2_int max_two min_two max_three min_three max_four min_four
set_option linter.unusedVariables false
set_option linter.unusedSimpArgs false
def impl_wide_shift.f (a0_0 : Bool) (a0_1 : Int) (a0_2 : Int) (a1 : Int) : Option (Bool × Int × Int) := if a1 ≥ 0 then (if a1 ≥ 64 then (if 0 ≤ (wrap64 (a1 - 64)) then (some (a0_0, shl .u64 a0_2 (wrap64 (a1 - 64)), 0)) else (none)) else (if 0 ≤ a1 then (if 0 ≤ (wrap64 (64 - a1)) then (some (a0_0, Go.bits .or .u64 (shl .u64 a0_1 a1) (shr .u64 a0_2 (wrap64 (64 - a1))), shl .u64 a0_2 a1)) else (none)) else (none))) else (if (wrap64 (-a1)) ≥ 64 then (if 0 ≤ (wrap64 ((wrap64 (-a1)) - 64)) then (some (a0_0, 0, shr .u64 a0_1 (wrap64 ((wrap64 (-a1)) - 64)))) else (none)) else (if 0 ≤ (wrap64 (-a1)) then (if 0 ≤ (wrap64 (64 - (wrap64 (-a1)))) then (some (a0_0, shr .u64 a0_1 (wrap64 (-a1)), Go.bits .or .u64 (shr .u64 a0_2 (wrap64 (-a1))) (shl .u64 a0_1 (wrap64 (64 - (wrap64 (-a1))))))) else (none)) else (none)))
def impl_wide_shift.T3 : Bool × List (List Nat × List Nat) := (true, [([], []), ([0], [0]), ([], []), ([2], [2]), ([], []), ([4], [4]), ([3, 5], [3, 5]), ([1, 6], [1, 6]), ([7, 0, 1, 2, 3, 4, 5, 6, 7], [7])])
def impl_wide_shift.B3 : List Nat := [0, 1, 0, 4, 0, 16, 60, 127, 255]
theorem impl_wide_shift.tab3 : rtab .any (opsOf Try.f80 3) = impl_wide_shift.T3 := by kernel_rfl
theorem impl_wide_shift.bits3 : waitsOk impl_wide_shift.T3.2 impl_wide_shift.B3 = true := by kernel_rfl
def impl_wide_shift.T4 : Bool × List (List Nat × List Nat) := (true, [([], []), ([0], [0]), ([], []), ([2], [2]), ([], []), ([3, 4], [3, 4]), ([], []), ([6], [6]), ([], []), ([8], [8]), ([7, 9], [7, 9]), ([5, 10], [5, 10]), ([], []), ([12], [12]), ([], []), ([13, 14], [13, 14]), ([1, 11, 15], [1, 11, 15]), ([16, 0, 1, 2, 3, 4, 5, 6, 7, 8, 9, 10, 11, 12, 13, 14, 15, 16], [16])])
def impl_wide_shift.B4 : List Nat := [0, 1, 0, 4, 0, 28, 0, 64, 0, 256, 960, 2044, 0, 4096, 0, 28672, 65535, 131071]
theorem impl_wide_shift.tab4 : rtab .any (opsOf Try.f80 4) = impl_wide_shift.T4 := by kernel_rfl
theorem impl_wide_shift.bits4 : waitsOk impl_wide_shift.T4.2 impl_wide_shift.B4 = true := by kernel_rfl
def impl_wide_shift.T7 : Bool × List (List Nat × List Nat) := (true, [([], []), ([0], [0]), ([], []), ([2], [2]), ([], []), ([4], [4]), ([3, 5], [3, 5]), ([1, 6], [1, 6]), ([7, 0, 1, 2, 3, 4, 5, 6, 7], [7])])
def impl_wide_shift.B7 : List Nat := [0, 1, 0, 4, 0, 16, 60, 127, 255]
theorem impl_wide_shift.tab7 : rtab .any (opsOf Try.f80 7) = impl_wide_shift.T7 := by kernel_rfl
theorem impl_wide_shift.bits7 : waitsOk impl_wide_shift.T7.2 impl_wide_shift.B7 = true := by kernel_rfl
def impl_wide_shift.T8 : Bool × List (List Nat × List Nat) := (true, [([], []), ([0], [0]), ([], []), ([2], [2]), ([], []), ([3, 4], [3, 4]), ([], []), ([6], [6]), ([], []), ([7, 8], [7, 8]), ([], []), ([10], [10]), ([], []), ([12], [12]), ([11, 13], [11, 13]), ([9, 14], [9, 14]), ([1, 5, 15], [1, 5, 15]), ([16, 0, 1, 2, 3, 4, 5, 6, 7, 8, 9, 10, 11, 12, 13, 14, 15, 16], [16])])
def impl_wide_shift.B8 : List Nat := [0, 1, 0, 4, 0, 28, 0, 64, 0, 448, 0, 1024, 0, 4096, 15360, 32704, 65535, 131071]
theorem impl_wide_shift.tab8 : rtab .any (opsOf Try.f80 8) = impl_wide_shift.T8 := by kernel_rfl
theorem impl_wide_shift.bits8 : waitsOk impl_wide_shift.T8.2 impl_wide_shift.B8 = true := by kernel_rfl
set_option maxHeartbeats 8000000 in
set_option maxRecDepth 100000 in
theorem impl_wide_shift.calls (a0_0 : Bool) (a0_1 : Int) (a0_2 : Int) (a1 : Int) (r1 : Bool) (r2 : Int) (r3 : Int) (w : World) (h : impl_wide_shift.f a0_0 a0_1 a0_2 a1 = some (r1, r2, r3)) :
 Calls Try.prog 80 #[.agg #[.bool a0_0, .int .u64 a0_1, .int .u64 a0_2], .int .i64 a1] w fun e w' => e = .returned (.agg #[.bool r1, .int .u64 r2, .int .u64 r3]) ∧ Below w.heap.size w w' := by
 have hu62 := Try.underlying62
 have HB := Aside0.mk (Below.refl w.heap.size w)
 have H : (if a1 ≥ 0 then (if a1 ≥ 64 then (if 0 ≤ (wrap64 (a1 - 64)) then (some (a0_0, shl .u64 a0_2 (wrap64 (a1 - 64)), 0)) else (none)) else (if 0 ≤ a1 then (if 0 ≤ (wrap64 (64 - a1)) then (some (a0_0, Go.bits .or .u64 (shl .u64 a0_1 a1) (shr .u64 a0_2 (wrap64 (64 - a1))), shl .u64 a0_2 a1)) else (none)) else (none))) else (if (wrap64 (-a1)) ≥ 64 then (if 0 ≤ (wrap64 ((wrap64 (-a1)) - 64)) then (some (a0_0, 0, shr .u64 a0_1 (wrap64 ((wrap64 (-a1)) - 64)))) else (none)) else (if 0 ≤ (wrap64 (-a1)) then (if 0 ≤ (wrap64 (64 - (wrap64 (-a1)))) then (some (a0_0, shr .u64 a0_1 (wrap64 (-a1)), Go.bits .or .u64 (shr .u64 a0_2 (wrap64 (-a1))) (shl .u64 a0_1 (wrap64 (64 - (wrap64 (-a1))))))) else (none)) else (none)))) = some (r1, r2, r3) := h
 clear h
 by_cases c3 : a1 ≥ 0
 ·rw [if_pos c3] at H
  have c3b0 : decide (0 ≤ a1) = true := decide_eq_true c3
  clear c3
  by_cases c4 : a1 ≥ 64
  ·rw [if_pos c4] at H
   have c4b0 : decide (64 ≤ a1) = true := decide_eq_true c4
   clear c4
   obtain ⟨ji5, hji5⟩ : ∃ j_ : Int, (wrap64 (a1 - 64)) = j_ := ⟨_, rfl⟩
   first | rw [hji5] at H | simp only [hji5] at H
   have hji5w : (IntKind.i64.wrap (a1 - 64)) = ji5 := (i64_w _).trans hji5
   by_cases c6 : 0 ≤ (ji5)
   ·rw [if_pos c6] at H
    have c6b0 := eq_true c6
    have c6b1 : decide (0 ≤ (ji5)) = true := decide_eq_true c6
    clear c6
    obtain ⟨ji7, hji7⟩ : ∃ j_ : Int, (shl .u64 a0_2 (ji5)) = j_ := ⟨_, rfl⟩
    first | rw [hji7] at H | simp only [hji7] at H
    have hji7_ : (IntKind.u64.wrap (a0_2 * 2 ^ min (ji5).toNat 64)) = ji7 := hji7
    have hji7z : (ji5) ≤ 64 → (IntKind.u64.wrap (a0_2 * 2 ^ (ji5).toNat)) = ji7 := shl_small hji7
    simp only [Option.some.injEq, Prod.mk.injEq] at H
    obtain ⟨rfl, rfl, rfl⟩ := H
    go_enter Try.func80, Try.ntmps80
    try go_wp2_with (first | ((with_reducible refine gate_dst (N := 2) rfl ?_); refine bv (N := 2) (cs := #[.bool a0_0, .int .u64 a0_1, .int .u64 a0_2]) (t := 62) ?_; intro gb222 hg w8 hbox hb; have n0_ := Aside0.mk (below_step bz hb); have n1_ := Aside0.mk (hbox); have n2_ := (gz hg : Aside0 (w.heap.size ≤ _)); have n3_ := (gz hg : Aside0 (w.heap.size ≤ _)); clear HB; have HB := n0_; have BK222 := n1_; have GW222 := n2_; have GE222 := n3_; clear n0_ n1_ n2_ n3_; clear hb hbox hg) | ((with_reducible refine gate_dst (N := 4) rfl ?_); refine bv (N := 4) (cs := #[.bool false, .int .u64 0, .int .u64 0]) (t := 62) ?_; intro gb223 hg w9 hbox hb; have n0_ := bb BK222 hb; have n1_ := Aside0.mk (below_step (bz1 GE222) hb); have n2_ := Aside0.mk (hbox); have n3_ := Aside0.mk ((by rw [hg]; exact (below_size (bz1 GE222)) : w.heap.size ≤ gb223)); have n4_ := Aside0.mk ((by rw [hg]; exact (below_size (bz1 GE222)) : w.heap.size ≤ gb223)); have n5_ := Aside0.mk ((by rw [hg]; exact Nat.ne_of_lt (blk_lt (g := gb222) (o := .cells #[.bool a0_0, .int .u64 a0_1, .int .u64 a0_2] 62 (0, 0)) (bk BK222)) : gb222 ≠ gb223)); have n6_ := Aside0.mk ((by rw [hg]; exact Nat.ne_of_gt (blk_lt (g := gb222) (o := .cells #[.bool a0_0, .int .u64 a0_1, .int .u64 a0_2] 62 (0, 0)) (bk BK222)) : gb223 ≠ gb222)); have n7_ := Aside0.mk ((by rw [hg]; exact blk_lt (g := gb222) (o := .cells #[.bool a0_0, .int .u64 a0_1, .int .u64 a0_2] 62 (0, 0)) (bk BK222) : gb222 < gb223)); clear BK222; clear HB; have BK222 := n0_; have HB := n1_; have BK223 := n2_; have GW223 := n3_; have GE223 := n4_; have NB222_223 := n5_; have NB223_222 := n6_; have LT222_223 := n7_; clear n0_ n1_ n2_ n3_ n4_ n5_ n6_ n7_; clear hb hbox hg))
    have n0_ := Aside0.mk (blk_drew BK222.out)
    have n1_ := Aside0.mk (blk_drew BK223.out)
    have n2_ := Aside0.mk (below_drew1 HB.out)
    clear BK222 BK223 HB
    have BK222 := n0_
    have BK223 := n1_
    have HB := n2_
    clear n0_ n1_ n2_
    refine start_ (n := 9) (S := fun w' => w'.cell? ⟨gb222, 0, none⟩ = some (.bool a0_0) ∧ w'.cell? ⟨gb222, 1, none⟩ = some (.int .u64 a0_1) ∧ w'.cell? ⟨gb222, 2, none⟩ = some (.int .u64 a0_2)) (ds := []) #[fF, fF, fF, fF, fF, fF, fF, fF, fF] kf rfl rfl ⟨(blk_cell BK222.out 0).trans rfl, (blk_cell BK222.out 1).trans rfl, (blk_cell BK222.out 2).trans rfl⟩ (fun hHeld => ?_); refine with_tabW impl_wide_shift.tab3 impl_wide_shift.bits3 (fun HT_ HW_ => ?_)
    generalize w9.drew = w10 at BK222 BK223 HB hHeld ⊢
    refine pq (i := 0) (N := some 9) #[tT, fF, fF, fF, fF, fF, fF, fF, fF] rfl rfl HT_.out ?_
    refine pq (i := 2) (N := some 11) #[tT, fF, tT, fF, fF, fF, fF, fF, fF] rfl rfl HT_.out ?_
    refine pq (i := 4) (N := some 13) #[tT, fF, tT, fF, tT, fF, fF, fF, fF] rfl rfl HT_.out ?_
    refine pq (i := 5) (N := some 14) #[tT, fF, tT, fF, tT, tT, fF, fF, fF] rfl rfl HT_.out ?_
    refine tq3 (i := 1) (N := some 10) #[tT, tT, tT, fF, tT, tT, fF, fF, fF] rfl rfl HT_.out HW_.out hHeld ?_
    refine tq3 (i := 3) (N := some 12) #[tT, tT, tT, tT, tT, tT, fF, fF, fF] rfl rfl HT_.out HW_.out hHeld ?_
    refine pq (i := 6) (N := some 15) #[tT, tT, tT, tT, tT, tT, tT, fF, fF] rfl rfl HT_.out ?_
    refine pq (i := 7) (N := some 16) #[tT, tT, tT, tT, tT, tT, tT, tT, fF] rfl rfl HT_.out ?_
    refine one_ (i := 8) (N := none) #[tT, tT, tT, tT, tT, tT, tT, tT, tT] rfl rfl (one_of HT_.out kf) (by decide) (fun K hK => ?_)
    have hs11 : w10.cell? ⟨gb223, 0, none⟩ = some (.bool false) := (blk_cell BK223.out 0).trans rfl
    have hfs11 := blk_frozen BK223.out 0
    have hns11_0 := LT222_223.out
    have hs12 : w10.cell? ⟨gb223, 1, none⟩ = some (.int .u64 0) := (blk_cell BK223.out 1).trans rfl
    have hfs12 := blk_frozen BK223.out 1
    have hns12_0 := LT222_223.out
    have hs13 : w10.cell? ⟨gb223, 2, none⟩ = some (.int .u64 0) := (blk_cell BK223.out 2).trans rfl
    have hfs13 := blk_frozen BK223.out 2
    have hns13_0 := LT222_223.out
    refine skip_ (w1 := ?_) (by rfl) rfl ?_ ?_
    rotate_left
    ·go_simp
     rfl
    refine hK.out _ _ ⟨((cell_far (p := ⟨gb223, _, none⟩) NB222_223.out _).trans (((cell_far (p := ⟨gb223, _, none⟩) NB222_223.out _).trans (((cell_far (p := ⟨gb223, _, none⟩) NB222_223.out _).trans (hHeld.1)))))), ((cell_far (p := ⟨gb223, _, none⟩) NB222_223.out _).trans (((cell_far (p := ⟨gb223, _, none⟩) NB222_223.out _).trans (((cell_far (p := ⟨gb223, _, none⟩) NB222_223.out _).trans (hHeld.2.1)))))), ((cell_far (p := ⟨gb223, _, none⟩) NB222_223.out _).trans (((cell_far (p := ⟨gb223, _, none⟩) NB222_223.out _).trans (((cell_far (p := ⟨gb223, _, none⟩) NB222_223.out _).trans (hHeld.2.2))))))⟩ (fun hHeld => ?_)
    clear hK K
    refine done_ (done_of HT_.out kf) ?_
    try go_wp2
    refine bodyPost_ret (results_cell_row rfl _ _ gb223 62 #[.bool a0_0, .int .u64 ji7, .int .u64 0] (0, 0) _ rfl (by (with_reducible repeat (first | refine blk_drewN ?_ _ | refine blk_drew ?_ | refine blk_alloc ?_ _)); refine blk_put (cs := #[.bool a0_0, .int .u64 ji7, .int .u64 0]) ?_ 2 _ rfl; (with_reducible repeat (first | refine blk_drewN ?_ _ | refine blk_drew ?_ | refine blk_alloc ?_ _)); refine blk_put (cs := #[.bool a0_0, .int .u64 0, .int .u64 0]) ?_ 1 _ rfl; (with_reducible repeat (first | refine blk_drewN ?_ _ | refine blk_drew ?_ | refine blk_alloc ?_ _)); refine blk_put (cs := #[.bool false, .int .u64 0, .int .u64 0]) ?_ 0 _ rfl; (with_reducible repeat (first | refine blk_drewN ?_ _ | refine blk_drew ?_ | refine blk_alloc ?_ _)); exact BK223.out) Try.underlying62 rfl kf) rfl ?_
    exact ⟨by first | rfl | (simp [errW_none, errW_some] <;> rfl) | (simp only [← hji5, ← hji7]; first | rfl | (simp [errW_none, errW_some] <;> rfl)) | (simp [*, errW_none, errW_some] <;> rfl), bz2 GE222 GE223⟩
   ·rw [if_neg c6] at H
    exact absurd H (by simp)
  ·rw [if_neg c4] at H
   have c4b0 : decide (64 ≤ a1) = false := decide_eq_false c4
   clear c4
   by_cases c14 : 0 ≤ a1
   ·rw [if_pos c14] at H
    have c14b0 := eq_true c14
    have c14b1 : decide (0 ≤ a1) = true := decide_eq_true c14
    clear c14
    obtain ⟨ji15, hji15⟩ : ∃ j_ : Int, (shl .u64 a0_1 a1) = j_ := ⟨_, rfl⟩
    first | rw [hji15] at H | simp only [hji15] at H
    have hji15_ : (IntKind.u64.wrap (a0_1 * 2 ^ min a1.toNat 64)) = ji15 := hji15
    have hji15z : a1 ≤ 64 → (IntKind.u64.wrap (a0_1 * 2 ^ a1.toNat)) = ji15 := shl_small hji15
    obtain ⟨ji16, hji16⟩ : ∃ j_ : Int, (wrap64 (64 - a1)) = j_ := ⟨_, rfl⟩
    first | rw [hji16] at H | simp only [hji16] at H
    have hji16w : (IntKind.i64.wrap (64 - a1)) = ji16 := (i64_w _).trans hji16
    by_cases c17 : 0 ≤ (ji16)
    ·rw [if_pos c17] at H
     have c17b0 := eq_true c17
     have c17b1 : decide (0 ≤ (ji16)) = true := decide_eq_true c17
     clear c17
     obtain ⟨ji18, hji18⟩ : ∃ j_ : Int, (shr .u64 a0_2 (ji16)) = j_ := ⟨_, rfl⟩
     first | rw [hji18] at H | simp only [hji18] at H
     have hji18_ : (a0_2 / 2 ^ min (ji16).toNat 64) = ji18 := hji18
     have hji18z : (ji16) ≤ 64 → (a0_2 / 2 ^ (ji16).toNat) = ji18 := shr_small hji18
     have c19b0 := eq_true (of_decide_eq_true am : 0 ≤ a1)
     obtain ⟨ji20, hji20⟩ : ∃ j_ : Int, (shl .u64 a0_2 a1) = j_ := ⟨_, rfl⟩
     first | rw [hji20] at H | simp only [hji20] at H
     have hji20_ : (IntKind.u64.wrap (a0_2 * 2 ^ min a1.toNat 64)) = ji20 := hji20
     have hji20z : a1 ≤ 64 → (IntKind.u64.wrap (a0_2 * 2 ^ a1.toNat)) = ji20 := shl_small hji20
     simp only [Option.some.injEq, Prod.mk.injEq] at H
     obtain ⟨rfl, rfl, rfl⟩ := H
     go_enter Try.func80, Try.ntmps80
     try go_wp2_with (first | ((with_reducible refine gate_dst (N := 2) rfl ?_); refine bv (N := 2) (cs := #[.bool a0_0, .int .u64 a0_1, .int .u64 a0_2]) (t := 62) ?_; intro gb222 hg w21 hbox hb; have n0_ := Aside0.mk (below_step bz hb); have n1_ := Aside0.mk (hbox); have n2_ := (gz hg : Aside0 (w.heap.size ≤ _)); have n3_ := (gz hg : Aside0 (w.heap.size ≤ _)); clear HB; have HB := n0_; have BK222 := n1_; have GW222 := n2_; have GE222 := n3_; clear n0_ n1_ n2_ n3_; clear hb hbox hg) | ((with_reducible refine gate_dst (N := 4) rfl ?_); refine bv (N := 4) (cs := #[.bool false, .int .u64 0, .int .u64 0]) (t := 62) ?_; intro gb223 hg w22 hbox hb; have n0_ := bb BK222 hb; have n1_ := Aside0.mk (below_step (bz1 GE222) hb); have n2_ := Aside0.mk (hbox); have n3_ := Aside0.mk ((by rw [hg]; exact (below_size (bz1 GE222)) : w.heap.size ≤ gb223)); have n4_ := Aside0.mk ((by rw [hg]; exact (below_size (bz1 GE222)) : w.heap.size ≤ gb223)); have n5_ := Aside0.mk ((by rw [hg]; exact Nat.ne_of_lt (blk_lt (g := gb222) (o := .cells #[.bool a0_0, .int .u64 a0_1, .int .u64 a0_2] 62 (0, 0)) (bk BK222)) : gb222 ≠ gb223)); have n6_ := Aside0.mk ((by rw [hg]; exact Nat.ne_of_gt (blk_lt (g := gb222) (o := .cells #[.bool a0_0, .int .u64 a0_1, .int .u64 a0_2] 62 (0, 0)) (bk BK222)) : gb223 ≠ gb222)); have n7_ := Aside0.mk ((by rw [hg]; exact blk_lt (g := gb222) (o := .cells #[.bool a0_0, .int .u64 a0_1, .int .u64 a0_2] 62 (0, 0)) (bk BK222) : gb222 < gb223)); clear BK222; clear HB; have BK222 := n0_; have HB := n1_; have BK223 := n2_; have GW223 := n3_; have GE223 := n4_; have NB222_223 := n5_; have NB223_222 := n6_; have LT222_223 := n7_; clear n0_ n1_ n2_ n3_ n4_ n5_ n6_ n7_; clear hb hbox hg))
     have n0_ := Aside0.mk (blk_drew BK222.out)
     have n1_ := Aside0.mk (blk_drew BK223.out)
     have n2_ := Aside0.mk (below_drew1 HB.out)
     clear BK222 BK223 HB
     have BK222 := n0_
     have BK223 := n1_
     have HB := n2_
     clear n0_ n1_ n2_
     refine start_ (n := 18) (S := fun w' => w'.cell? ⟨gb222, 0, none⟩ = some (.bool a0_0) ∧ w'.cell? ⟨gb222, 1, none⟩ = some (.int .u64 a0_1) ∧ w'.cell? ⟨gb222, 2, none⟩ = some (.int .u64 a0_2)) (ds := []) #[fF, fF, fF, fF, fF, fF, fF, fF, fF, fF, fF, fF, fF, fF, fF, fF, fF, fF] kf rfl rfl ⟨(blk_cell BK222.out 0).trans rfl, (blk_cell BK222.out 1).trans rfl, (blk_cell BK222.out 2).trans rfl⟩ (fun hHeld => ?_); refine with_tabW impl_wide_shift.tab4 impl_wide_shift.bits4 (fun HT_ HW_ => ?_)
     generalize w22.drew = w23 at BK222 BK223 HB hHeld ⊢
     refine pq (i := 0) (N := some 17) #[tT, fF, fF, fF, fF, fF, fF, fF, fF, fF, fF, fF, fF, fF, fF, fF, fF, fF] rfl rfl HT_.out ?_
     refine pq (i := 2) (N := some 19) #[tT, fF, tT, fF, fF, fF, fF, fF, fF, fF, fF, fF, fF, fF, fF, fF, fF, fF] rfl rfl HT_.out ?_
     refine pq (i := 4) (N := some 21) #[tT, fF, tT, fF, tT, fF, fF, fF, fF, fF, fF, fF, fF, fF, fF, fF, fF, fF] rfl rfl HT_.out ?_
     refine pq (i := 6) (N := some 23) #[tT, fF, tT, fF, tT, fF, tT, fF, fF, fF, fF, fF, fF, fF, fF, fF, fF, fF] rfl rfl HT_.out ?_
     refine pq (i := 8) (N := some 25) #[tT, fF, tT, fF, tT, fF, tT, fF, tT, fF, fF, fF, fF, fF, fF, fF, fF, fF] rfl rfl HT_.out ?_
     refine pq (i := 9) (N := some 26) #[tT, fF, tT, fF, tT, fF, tT, fF, tT, tT, fF, fF, fF, fF, fF, fF, fF, fF] rfl rfl HT_.out ?_
     refine pq (i := 12) (N := some 29) #[tT, fF, tT, fF, tT, fF, tT, fF, tT, tT, fF, fF, tT, fF, fF, fF, fF, fF] rfl rfl HT_.out ?_
     refine pq (i := 14) (N := some 31) #[tT, fF, tT, fF, tT, fF, tT, fF, tT, tT, fF, fF, tT, fF, tT, fF, fF, fF] rfl rfl HT_.out ?_
     refine tq3 (i := 1) (N := some 18) #[tT, tT, tT, fF, tT, fF, tT, fF, tT, tT, fF, fF, tT, fF, tT, fF, fF, fF] rfl rfl HT_.out HW_.out hHeld ?_
     refine tq3 (i := 3) (N := some 20) #[tT, tT, tT, tT, tT, fF, tT, fF, tT, tT, fF, fF, tT, fF, tT, fF, fF, fF] rfl rfl HT_.out HW_.out hHeld ?_
     refine pq (i := 5) (N := some 22) #[tT, tT, tT, tT, tT, tT, tT, fF, tT, tT, fF, fF, tT, fF, tT, fF, fF, fF] rfl rfl HT_.out ?_
     refine tq3 (i := 7) (N := some 24) #[tT, tT, tT, tT, tT, tT, tT, tT, tT, tT, fF, fF, tT, fF, tT, fF, fF, fF] rfl rfl HT_.out HW_.out hHeld ?_
     refine pq (i := 10) (N := some 27) #[tT, tT, tT, tT, tT, tT, tT, tT, tT, tT, tT, fF, tT, fF, tT, fF, fF, fF] rfl rfl HT_.out ?_
     refine pq (i := 11) (N := some 28) #[tT, tT, tT, tT, tT, tT, tT, tT, tT, tT, tT, tT, tT, fF, tT, fF, fF, fF] rfl rfl HT_.out ?_
     refine tq3 (i := 13) (N := some 30) #[tT, tT, tT, tT, tT, tT, tT, tT, tT, tT, tT, tT, tT, tT, tT, fF, fF, fF] rfl rfl HT_.out HW_.out hHeld ?_
     refine pq (i := 15) (N := some 32) #[tT, tT, tT, tT, tT, tT, tT, tT, tT, tT, tT, tT, tT, tT, tT, tT, fF, fF] rfl rfl HT_.out ?_
     refine pq (i := 16) (N := some 33) #[tT, tT, tT, tT, tT, tT, tT, tT, tT, tT, tT, tT, tT, tT, tT, tT, tT, fF] rfl rfl HT_.out ?_
     refine one_ (i := 17) (N := none) #[tT, tT, tT, tT, tT, tT, tT, tT, tT, tT, tT, tT, tT, tT, tT, tT, tT, tT] rfl rfl (one_of HT_.out kf) (by decide) (fun K hK => ?_)
     have hs24 : w23.cell? ⟨gb223, 0, none⟩ = some (.bool false) := (blk_cell BK223.out 0).trans rfl
     have hfs24 := blk_frozen BK223.out 0
     have hns24_0 := LT222_223.out
     have hs25 : w23.cell? ⟨gb223, 1, none⟩ = some (.int .u64 0) := (blk_cell BK223.out 1).trans rfl
     have hfs25 := blk_frozen BK223.out 1
     have hns25_0 := LT222_223.out
     have hs26 : w23.cell? ⟨gb223, 2, none⟩ = some (.int .u64 0) := (blk_cell BK223.out 2).trans rfl
     have hfs26 := blk_frozen BK223.out 2
     have hns26_0 := LT222_223.out
     refine skip_ (w1 := ?_) (by rfl) rfl ?_ ?_
     rotate_left
     ·go_simp
      rfl
     refine hK.out _ _ ⟨((cell_far (p := ⟨gb223, _, none⟩) NB222_223.out _).trans (((cell_far (p := ⟨gb223, _, none⟩) NB222_223.out _).trans (((cell_far (p := ⟨gb223, _, none⟩) NB222_223.out _).trans (hHeld.1)))))), ((cell_far (p := ⟨gb223, _, none⟩) NB222_223.out _).trans (((cell_far (p := ⟨gb223, _, none⟩) NB222_223.out _).trans (((cell_far (p := ⟨gb223, _, none⟩) NB222_223.out _).trans (hHeld.2.1)))))), ((cell_far (p := ⟨gb223, _, none⟩) NB222_223.out _).trans (((cell_far (p := ⟨gb223, _, none⟩) NB222_223.out _).trans (((cell_far (p := ⟨gb223, _, none⟩) NB222_223.out _).trans (hHeld.2.2))))))⟩ (fun hHeld => ?_)
     clear hK K
     refine done_ (done_of HT_.out kf) ?_
     try go_wp2
     refine bodyPost_ret (results_cell_row rfl _ _ gb223 62 #[.bool a0_0, .int .u64 (Go.bits .or .u64 (ji15) (ji18)), .int .u64 ji20] (0, 0) _ rfl (by (with_reducible repeat (first | refine blk_drewN ?_ _ | refine blk_drew ?_ | refine blk_alloc ?_ _)); refine blk_put (cs := #[.bool a0_0, .int .u64 (Go.bits .or .u64 (ji15) (ji18)), .int .u64 0]) ?_ 2 _ rfl; (with_reducible repeat (first | refine blk_drewN ?_ _ | refine blk_drew ?_ | refine blk_alloc ?_ _)); refine blk_put (cs := #[.bool a0_0, .int .u64 0, .int .u64 0]) ?_ 1 _ rfl; (with_reducible repeat (first | refine blk_drewN ?_ _ | refine blk_drew ?_ | refine blk_alloc ?_ _)); refine blk_put (cs := #[.bool false, .int .u64 0, .int .u64 0]) ?_ 0 _ rfl; (with_reducible repeat (first | refine blk_drewN ?_ _ | refine blk_drew ?_ | refine blk_alloc ?_ _)); exact BK223.out) Try.underlying62 rfl kf) rfl ?_
     exact ⟨by first | rfl | (simp [errW_none, errW_some] <;> rfl) | (simp only [← hji15, ← hji16, ← hji18, ← hji20]; first | rfl | (simp [errW_none, errW_some] <;> rfl)) | (simp [*, errW_none, errW_some] <;> rfl), bz2 GE222 GE223⟩
    ·rw [if_neg c17] at H
     exact absurd H (by simp)
   ·rw [if_neg c14] at H
    exact absurd H (by simp)
 ·rw [if_neg c3] at H
  have c3b0 : decide (0 ≤ a1) = false := decide_eq_false c3
  clear c3
  by_cases c27 : (wrap64 (-a1)) ≥ 64
  ·rw [if_pos c27] at H
   have c27b0 : decide (64 ≤ (wrap64 (-a1))) = true := decide_eq_true c27
   (try (have c27b0w : decide (64 ≤ (IntKind.i64.wrap (-a1))) = true := by simp only [i64_w]; exact c27b0))
   clear c27
   obtain ⟨ji28, hji28⟩ : ∃ j_ : Int, (wrap64 ((wrap64 (-a1)) - 64)) = j_ := ⟨_, rfl⟩
   first | rw [hji28] at H | simp only [hji28] at H
   have hji28w : (IntKind.i64.wrap ((wrap64 (-a1)) - 64)) = ji28 := (i64_w _).trans hji28
   by_cases c29 : 0 ≤ (ji28)
   ·rw [if_pos c29] at H
    have c29b0 := eq_true c29
    have c29b1 : decide (0 ≤ (ji28)) = true := decide_eq_true c29
    clear c29
    obtain ⟨ji30, hji30⟩ : ∃ j_ : Int, (shr .u64 a0_1 (ji28)) = j_ := ⟨_, rfl⟩
    first | rw [hji30] at H | simp only [hji30] at H
    have hji30_ : (a0_1 / 2 ^ min (ji28).toNat 64) = ji30 := hji30
    have hji30z : (ji28) ≤ 64 → (a0_1 / 2 ^ (ji28).toNat) = ji30 := shr_small hji30
    simp only [Option.some.injEq, Prod.mk.injEq] at H
    obtain ⟨rfl, rfl, rfl⟩ := H
    go_enter Try.func80, Try.ntmps80
    try go_wp2_with (first | ((with_reducible refine gate_dst (N := 2) rfl ?_); refine bv (N := 2) (cs := #[.bool a0_0, .int .u64 a0_1, .int .u64 a0_2]) (t := 62) ?_; intro gb222 hg w31 hbox hb; have n0_ := Aside0.mk (below_step bz hb); have n1_ := Aside0.mk (hbox); have n2_ := (gz hg : Aside0 (w.heap.size ≤ _)); have n3_ := (gz hg : Aside0 (w.heap.size ≤ _)); clear HB; have HB := n0_; have BK222 := n1_; have GW222 := n2_; have GE222 := n3_; clear n0_ n1_ n2_ n3_; clear hb hbox hg) | ((with_reducible refine gate_dst (N := 4) rfl ?_); refine bv (N := 4) (cs := #[.bool false, .int .u64 0, .int .u64 0]) (t := 62) ?_; intro gb223 hg w32 hbox hb; have n0_ := bb BK222 hb; have n1_ := Aside0.mk (below_step (bz1 GE222) hb); have n2_ := Aside0.mk (hbox); have n3_ := Aside0.mk ((by rw [hg]; exact (below_size (bz1 GE222)) : w.heap.size ≤ gb223)); have n4_ := Aside0.mk ((by rw [hg]; exact (below_size (bz1 GE222)) : w.heap.size ≤ gb223)); have n5_ := Aside0.mk ((by rw [hg]; exact Nat.ne_of_lt (blk_lt (g := gb222) (o := .cells #[.bool a0_0, .int .u64 a0_1, .int .u64 a0_2] 62 (0, 0)) (bk BK222)) : gb222 ≠ gb223)); have n6_ := Aside0.mk ((by rw [hg]; exact Nat.ne_of_gt (blk_lt (g := gb222) (o := .cells #[.bool a0_0, .int .u64 a0_1, .int .u64 a0_2] 62 (0, 0)) (bk BK222)) : gb223 ≠ gb222)); have n7_ := Aside0.mk ((by rw [hg]; exact blk_lt (g := gb222) (o := .cells #[.bool a0_0, .int .u64 a0_1, .int .u64 a0_2] 62 (0, 0)) (bk BK222) : gb222 < gb223)); clear BK222; clear HB; have BK222 := n0_; have HB := n1_; have BK223 := n2_; have GW223 := n3_; have GE223 := n4_; have NB222_223 := n5_; have NB223_222 := n6_; have LT222_223 := n7_; clear n0_ n1_ n2_ n3_ n4_ n5_ n6_ n7_; clear hb hbox hg))
    have n0_ := Aside0.mk (blk_drew BK222.out)
    have n1_ := Aside0.mk (blk_drew BK223.out)
    have n2_ := Aside0.mk (below_drew1 HB.out)
    clear BK222 BK223 HB
    have BK222 := n0_
    have BK223 := n1_
    have HB := n2_
    clear n0_ n1_ n2_
    refine start_ (n := 9) (S := fun w' => w'.cell? ⟨gb222, 0, none⟩ = some (.bool a0_0) ∧ w'.cell? ⟨gb222, 1, none⟩ = some (.int .u64 a0_1) ∧ w'.cell? ⟨gb222, 2, none⟩ = some (.int .u64 a0_2)) (ds := []) #[fF, fF, fF, fF, fF, fF, fF, fF, fF] kf rfl rfl ⟨(blk_cell BK222.out 0).trans rfl, (blk_cell BK222.out 1).trans rfl, (blk_cell BK222.out 2).trans rfl⟩ (fun hHeld => ?_); refine with_tabW impl_wide_shift.tab7 impl_wide_shift.bits7 (fun HT_ HW_ => ?_)
    generalize w32.drew = w33 at BK222 BK223 HB hHeld ⊢
    refine pq (i := 0) (N := some 38) #[tT, fF, fF, fF, fF, fF, fF, fF, fF] rfl rfl HT_.out ?_
    refine pq (i := 2) (N := some 40) #[tT, fF, tT, fF, fF, fF, fF, fF, fF] rfl rfl HT_.out ?_
    refine pq (i := 4) (N := some 42) #[tT, fF, tT, fF, tT, fF, fF, fF, fF] rfl rfl HT_.out ?_
    refine pq (i := 5) (N := some 43) #[tT, fF, tT, fF, tT, tT, fF, fF, fF] rfl rfl HT_.out ?_
    refine tq3 (i := 1) (N := some 39) #[tT, tT, tT, fF, tT, tT, fF, fF, fF] rfl rfl HT_.out HW_.out hHeld ?_
    refine tq3 (i := 3) (N := some 41) #[tT, tT, tT, tT, tT, tT, fF, fF, fF] rfl rfl HT_.out HW_.out hHeld ?_
    refine pq (i := 6) (N := some 44) #[tT, tT, tT, tT, tT, tT, tT, fF, fF] rfl rfl HT_.out ?_
    refine pq (i := 7) (N := some 45) #[tT, tT, tT, tT, tT, tT, tT, tT, fF] rfl rfl HT_.out ?_
    refine one_ (i := 8) (N := none) #[tT, tT, tT, tT, tT, tT, tT, tT, tT] rfl rfl (one_of HT_.out kf) (by decide) (fun K hK => ?_)
    have hs34 : w33.cell? ⟨gb223, 0, none⟩ = some (.bool false) := (blk_cell BK223.out 0).trans rfl
    have hfs34 := blk_frozen BK223.out 0
    have hns34_0 := LT222_223.out
    have hs35 : w33.cell? ⟨gb223, 1, none⟩ = some (.int .u64 0) := (blk_cell BK223.out 1).trans rfl
    have hfs35 := blk_frozen BK223.out 1
    have hns35_0 := LT222_223.out
    have hs36 : w33.cell? ⟨gb223, 2, none⟩ = some (.int .u64 0) := (blk_cell BK223.out 2).trans rfl
    have hfs36 := blk_frozen BK223.out 2
    have hns36_0 := LT222_223.out
    refine skip_ (w1 := ?_) (by rfl) rfl ?_ ?_
    rotate_left
    ·go_simp
     rfl
    refine hK.out _ _ ⟨((cell_far (p := ⟨gb223, _, none⟩) NB222_223.out _).trans (((cell_far (p := ⟨gb223, _, none⟩) NB222_223.out _).trans (((cell_far (p := ⟨gb223, _, none⟩) NB222_223.out _).trans (hHeld.1)))))), ((cell_far (p := ⟨gb223, _, none⟩) NB222_223.out _).trans (((cell_far (p := ⟨gb223, _, none⟩) NB222_223.out _).trans (((cell_far (p := ⟨gb223, _, none⟩) NB222_223.out _).trans (hHeld.2.1)))))), ((cell_far (p := ⟨gb223, _, none⟩) NB222_223.out _).trans (((cell_far (p := ⟨gb223, _, none⟩) NB222_223.out _).trans (((cell_far (p := ⟨gb223, _, none⟩) NB222_223.out _).trans (hHeld.2.2))))))⟩ (fun hHeld => ?_)
    clear hK K
    refine done_ (done_of HT_.out kf) ?_
    try go_wp2
    refine bodyPost_ret (results_cell_row rfl _ _ gb223 62 #[.bool a0_0, .int .u64 0, .int .u64 ji30] (0, 0) _ rfl (by (with_reducible repeat (first | refine blk_drewN ?_ _ | refine blk_drew ?_ | refine blk_alloc ?_ _)); refine blk_put (cs := #[.bool a0_0, .int .u64 0, .int .u64 0]) ?_ 2 _ rfl; (with_reducible repeat (first | refine blk_drewN ?_ _ | refine blk_drew ?_ | refine blk_alloc ?_ _)); refine blk_put (cs := #[.bool a0_0, .int .u64 0, .int .u64 0]) ?_ 1 _ rfl; (with_reducible repeat (first | refine blk_drewN ?_ _ | refine blk_drew ?_ | refine blk_alloc ?_ _)); refine blk_put (cs := #[.bool false, .int .u64 0, .int .u64 0]) ?_ 0 _ rfl; (with_reducible repeat (first | refine blk_drewN ?_ _ | refine blk_drew ?_ | refine blk_alloc ?_ _)); exact BK223.out) Try.underlying62 rfl kf) rfl ?_
    exact ⟨by first | rfl | (simp [errW_none, errW_some] <;> rfl) | (simp only [← hji28, ← hji30]; first | rfl | (simp [errW_none, errW_some] <;> rfl)) | (simp [*, errW_none, errW_some] <;> rfl), bz2 GE222 GE223⟩
   ·rw [if_neg c29] at H
    exact absurd H (by simp)
  ·rw [if_neg c27] at H
   have c27b0 : decide (64 ≤ (wrap64 (-a1))) = false := decide_eq_false c27
   (try (have c27b0w : decide (64 ≤ (IntKind.i64.wrap (-a1))) = false := by simp only [i64_w]; exact c27b0))
   clear c27
   obtain ⟨ji37, hji37⟩ : ∃ j_ : Int, (wrap64 (-a1)) = j_ := ⟨_, rfl⟩
   first | rw [hji37] at H | simp only [hji37] at H
   (try rw [hji37] at c27b0)
   have hji37w : (IntKind.i64.wrap (-a1)) = ji37 := (i64_w _).trans hji37
   by_cases c38 : 0 ≤ (ji37)
   ·rw [if_pos c38] at H
    have c38b0 := eq_true c38
    have c38b1 : decide (0 ≤ (ji37)) = true := decide_eq_true c38
    clear c38
    obtain ⟨ji39, hji39⟩ : ∃ j_ : Int, (shr .u64 a0_1 (ji37)) = j_ := ⟨_, rfl⟩
    first | rw [hji39] at H | simp only [hji39] at H
    have hji39_ : (a0_1 / 2 ^ min (ji37).toNat 64) = ji39 := hji39
    have hji39z : (ji37) ≤ 64 → (a0_1 / 2 ^ (ji37).toNat) = ji39 := shr_small hji39
    have c40b0 := eq_true (of_decide_eq_true am : 0 ≤ (ji37))
    obtain ⟨ji41, hji41⟩ : ∃ j_ : Int, (shr .u64 a0_2 (ji37)) = j_ := ⟨_, rfl⟩
    first | rw [hji41] at H | simp only [hji41] at H
    have hji41_ : (a0_2 / 2 ^ min (ji37).toNat 64) = ji41 := hji41
    have hji41z : (ji37) ≤ 64 → (a0_2 / 2 ^ (ji37).toNat) = ji41 := shr_small hji41
    obtain ⟨ji42, hji42⟩ : ∃ j_ : Int, (wrap64 (64 - (ji37))) = j_ := ⟨_, rfl⟩
    first | rw [hji42] at H | simp only [hji42] at H
    have hji42w : (IntKind.i64.wrap (64 - (ji37))) = ji42 := (i64_w _).trans hji42
    by_cases c43 : 0 ≤ (ji42)
    ·rw [if_pos c43] at H
     have c43b0 := eq_true c43
     have c43b1 : decide (0 ≤ (ji42)) = true := decide_eq_true c43
     clear c43
     obtain ⟨ji44, hji44⟩ : ∃ j_ : Int, (shl .u64 a0_1 (ji42)) = j_ := ⟨_, rfl⟩
     first | rw [hji44] at H | simp only [hji44] at H
     have hji44_ : (IntKind.u64.wrap (a0_1 * 2 ^ min (ji42).toNat 64)) = ji44 := hji44
     have hji44z : (ji42) ≤ 64 → (IntKind.u64.wrap (a0_1 * 2 ^ (ji42).toNat)) = ji44 := shl_small hji44
     simp only [Option.some.injEq, Prod.mk.injEq] at H
     obtain ⟨rfl, rfl, rfl⟩ := H
     go_enter Try.func80, Try.ntmps80
     try go_wp2_with (first | ((with_reducible refine gate_dst (N := 2) rfl ?_); refine bv (N := 2) (cs := #[.bool a0_0, .int .u64 a0_1, .int .u64 a0_2]) (t := 62) ?_; intro gb222 hg w45 hbox hb; have n0_ := Aside0.mk (below_step bz hb); have n1_ := Aside0.mk (hbox); have n2_ := (gz hg : Aside0 (w.heap.size ≤ _)); have n3_ := (gz hg : Aside0 (w.heap.size ≤ _)); clear HB; have HB := n0_; have BK222 := n1_; have GW222 := n2_; have GE222 := n3_; clear n0_ n1_ n2_ n3_; clear hb hbox hg) | ((with_reducible refine gate_dst (N := 4) rfl ?_); refine bv (N := 4) (cs := #[.bool false, .int .u64 0, .int .u64 0]) (t := 62) ?_; intro gb223 hg w46 hbox hb; have n0_ := bb BK222 hb; have n1_ := Aside0.mk (below_step (bz1 GE222) hb); have n2_ := Aside0.mk (hbox); have n3_ := Aside0.mk ((by rw [hg]; exact (below_size (bz1 GE222)) : w.heap.size ≤ gb223)); have n4_ := Aside0.mk ((by rw [hg]; exact (below_size (bz1 GE222)) : w.heap.size ≤ gb223)); have n5_ := Aside0.mk ((by rw [hg]; exact Nat.ne_of_lt (blk_lt (g := gb222) (o := .cells #[.bool a0_0, .int .u64 a0_1, .int .u64 a0_2] 62 (0, 0)) (bk BK222)) : gb222 ≠ gb223)); have n6_ := Aside0.mk ((by rw [hg]; exact Nat.ne_of_gt (blk_lt (g := gb222) (o := .cells #[.bool a0_0, .int .u64 a0_1, .int .u64 a0_2] 62 (0, 0)) (bk BK222)) : gb223 ≠ gb222)); have n7_ := Aside0.mk ((by rw [hg]; exact blk_lt (g := gb222) (o := .cells #[.bool a0_0, .int .u64 a0_1, .int .u64 a0_2] 62 (0, 0)) (bk BK222) : gb222 < gb223)); clear BK222; clear HB; have BK222 := n0_; have HB := n1_; have BK223 := n2_; have GW223 := n3_; have GE223 := n4_; have NB222_223 := n5_; have NB223_222 := n6_; have LT222_223 := n7_; clear n0_ n1_ n2_ n3_ n4_ n5_ n6_ n7_; clear hb hbox hg))
     have n0_ := Aside0.mk (blk_drew BK222.out)
     have n1_ := Aside0.mk (blk_drew BK223.out)
     have n2_ := Aside0.mk (below_drew1 HB.out)
     clear BK222 BK223 HB
     have BK222 := n0_
     have BK223 := n1_
     have HB := n2_
     clear n0_ n1_ n2_
     refine start_ (n := 18) (S := fun w' => w'.cell? ⟨gb222, 0, none⟩ = some (.bool a0_0) ∧ w'.cell? ⟨gb222, 1, none⟩ = some (.int .u64 a0_1) ∧ w'.cell? ⟨gb222, 2, none⟩ = some (.int .u64 a0_2)) (ds := []) #[fF, fF, fF, fF, fF, fF, fF, fF, fF, fF, fF, fF, fF, fF, fF, fF, fF, fF] kf rfl rfl ⟨(blk_cell BK222.out 0).trans rfl, (blk_cell BK222.out 1).trans rfl, (blk_cell BK222.out 2).trans rfl⟩ (fun hHeld => ?_); refine with_tabW impl_wide_shift.tab8 impl_wide_shift.bits8 (fun HT_ HW_ => ?_)
     generalize w46.drew = w47 at BK222 BK223 HB hHeld ⊢
     refine pq (i := 0) (N := some 46) #[tT, fF, fF, fF, fF, fF, fF, fF, fF, fF, fF, fF, fF, fF, fF, fF, fF, fF] rfl rfl HT_.out ?_
     refine pq (i := 2) (N := some 48) #[tT, fF, tT, fF, fF, fF, fF, fF, fF, fF, fF, fF, fF, fF, fF, fF, fF, fF] rfl rfl HT_.out ?_
     refine pq (i := 4) (N := some 50) #[tT, fF, tT, fF, tT, fF, fF, fF, fF, fF, fF, fF, fF, fF, fF, fF, fF, fF] rfl rfl HT_.out ?_
     refine pq (i := 6) (N := some 52) #[tT, fF, tT, fF, tT, fF, tT, fF, fF, fF, fF, fF, fF, fF, fF, fF, fF, fF] rfl rfl HT_.out ?_
     refine pq (i := 8) (N := some 54) #[tT, fF, tT, fF, tT, fF, tT, fF, tT, fF, fF, fF, fF, fF, fF, fF, fF, fF] rfl rfl HT_.out ?_
     refine pq (i := 10) (N := some 56) #[tT, fF, tT, fF, tT, fF, tT, fF, tT, fF, tT, fF, fF, fF, fF, fF, fF, fF] rfl rfl HT_.out ?_
     refine pq (i := 12) (N := some 58) #[tT, fF, tT, fF, tT, fF, tT, fF, tT, fF, tT, fF, tT, fF, fF, fF, fF, fF] rfl rfl HT_.out ?_
     refine pq (i := 13) (N := some 59) #[tT, fF, tT, fF, tT, fF, tT, fF, tT, fF, tT, fF, tT, tT, fF, fF, fF, fF] rfl rfl HT_.out ?_
     refine tq3 (i := 1) (N := some 47) #[tT, tT, tT, fF, tT, fF, tT, fF, tT, fF, tT, fF, tT, tT, fF, fF, fF, fF] rfl rfl HT_.out HW_.out hHeld ?_
     refine tq3 (i := 3) (N := some 49) #[tT, tT, tT, tT, tT, fF, tT, fF, tT, fF, tT, fF, tT, tT, fF, fF, fF, fF] rfl rfl HT_.out HW_.out hHeld ?_
     refine pq (i := 5) (N := some 51) #[tT, tT, tT, tT, tT, tT, tT, fF, tT, fF, tT, fF, tT, tT, fF, fF, fF, fF] rfl rfl HT_.out ?_
     refine tq3 (i := 7) (N := some 53) #[tT, tT, tT, tT, tT, tT, tT, tT, tT, fF, tT, fF, tT, tT, fF, fF, fF, fF] rfl rfl HT_.out HW_.out hHeld ?_
     refine pq (i := 9) (N := some 55) #[tT, tT, tT, tT, tT, tT, tT, tT, tT, tT, tT, fF, tT, tT, fF, fF, fF, fF] rfl rfl HT_.out ?_
     refine tq3 (i := 11) (N := some 57) #[tT, tT, tT, tT, tT, tT, tT, tT, tT, tT, tT, tT, tT, tT, fF, fF, fF, fF] rfl rfl HT_.out HW_.out hHeld ?_
     refine pq (i := 14) (N := some 60) #[tT, tT, tT, tT, tT, tT, tT, tT, tT, tT, tT, tT, tT, tT, tT, fF, fF, fF] rfl rfl HT_.out ?_
     refine pq (i := 15) (N := some 61) #[tT, tT, tT, tT, tT, tT, tT, tT, tT, tT, tT, tT, tT, tT, tT, tT, fF, fF] rfl rfl HT_.out ?_
     refine pq (i := 16) (N := some 62) #[tT, tT, tT, tT, tT, tT, tT, tT, tT, tT, tT, tT, tT, tT, tT, tT, tT, fF] rfl rfl HT_.out ?_
     refine one_ (i := 17) (N := none) #[tT, tT, tT, tT, tT, tT, tT, tT, tT, tT, tT, tT, tT, tT, tT, tT, tT, tT] rfl rfl (one_of HT_.out kf) (by decide) (fun K hK => ?_)
     have hs48 : w47.cell? ⟨gb223, 0, none⟩ = some (.bool false) := (blk_cell BK223.out 0).trans rfl
     have hfs48 := blk_frozen BK223.out 0
     have hns48_0 := LT222_223.out
     have hs49 : w47.cell? ⟨gb223, 1, none⟩ = some (.int .u64 0) := (blk_cell BK223.out 1).trans rfl
     have hfs49 := blk_frozen BK223.out 1
     have hns49_0 := LT222_223.out
     have hs50 : w47.cell? ⟨gb223, 2, none⟩ = some (.int .u64 0) := (blk_cell BK223.out 2).trans rfl
     have hfs50 := blk_frozen BK223.out 2
     have hns50_0 := LT222_223.out
     refine skip_ (w1 := ?_) (by rfl) rfl ?_ ?_
     rotate_left
     ·go_simp
      rfl
     refine hK.out _ _ ⟨((cell_far (p := ⟨gb223, _, none⟩) NB222_223.out _).trans (((cell_far (p := ⟨gb223, _, none⟩) NB222_223.out _).trans (((cell_far (p := ⟨gb223, _, none⟩) NB222_223.out _).trans (hHeld.1)))))), ((cell_far (p := ⟨gb223, _, none⟩) NB222_223.out _).trans (((cell_far (p := ⟨gb223, _, none⟩) NB222_223.out _).trans (((cell_far (p := ⟨gb223, _, none⟩) NB222_223.out _).trans (hHeld.2.1)))))), ((cell_far (p := ⟨gb223, _, none⟩) NB222_223.out _).trans (((cell_far (p := ⟨gb223, _, none⟩) NB222_223.out _).trans (((cell_far (p := ⟨gb223, _, none⟩) NB222_223.out _).trans (hHeld.2.2))))))⟩ (fun hHeld => ?_)
     clear hK K
     refine done_ (done_of HT_.out kf) ?_
     try go_wp2
     refine bodyPost_ret (results_cell_row rfl _ _ gb223 62 #[.bool a0_0, .int .u64 ji39, .int .u64 (Go.bits .or .u64 (ji41) (ji44))] (0, 0) _ rfl (by (with_reducible repeat (first | refine blk_drewN ?_ _ | refine blk_drew ?_ | refine blk_alloc ?_ _)); refine blk_put (cs := #[.bool a0_0, .int .u64 ji39, .int .u64 0]) ?_ 2 _ rfl; (with_reducible repeat (first | refine blk_drewN ?_ _ | refine blk_drew ?_ | refine blk_alloc ?_ _)); refine blk_put (cs := #[.bool a0_0, .int .u64 0, .int .u64 0]) ?_ 1 _ rfl; (with_reducible repeat (first | refine blk_drewN ?_ _ | refine blk_drew ?_ | refine blk_alloc ?_ _)); refine blk_put (cs := #[.bool false, .int .u64 0, .int .u64 0]) ?_ 0 _ rfl; (with_reducible repeat (first | refine blk_drewN ?_ _ | refine blk_drew ?_ | refine blk_alloc ?_ _)); exact BK223.out) Try.underlying62 rfl kf) rfl ?_
     exact ⟨by first | rfl | (simp [errW_none, errW_some] <;> rfl) | (simp only [← hji37, ← hji39, ← hji41, ← hji42, ← hji44]; first | rfl | (simp [errW_none, errW_some] <;> rfl)) | (simp [*, errW_none, errW_some] <;> rfl), bz2 GE222 GE223⟩
    ·rw [if_neg c43] at H
     exact absurd H (by simp)
   ·rw [if_neg c38] at H
    exact absurd H (by simp)
def impl_wide_isZero.f (a0_0 : Bool) (a0_1 : Int) (a0_2 : Int) : Option (Bool) := if a0_1 = 0 then (some (a0_2 == 0)) else (some false)
set_option maxHeartbeats 8000000 in
set_option maxRecDepth 100000 in
theorem impl_wide_isZero.calls (a0_0 : Bool) (a0_1 : Int) (a0_2 : Int) (r : Bool) (w : World) (h : impl_wide_isZero.f a0_0 a0_1 a0_2 = some r) :
 Calls Try.prog 92 #[.agg #[.bool a0_0, .int .u64 a0_1, .int .u64 a0_2]] w fun e w' => e = .returned (.bool r) ∧ Below w.heap.size w w' := by
 have hu62 := Try.underlying62
 have HB := Aside0.mk (Below.refl w.heap.size w)
 have H : (if a0_1 = 0 then (some (a0_2 == 0)) else (some false)) = some r := h
 clear h
 by_cases c2 : a0_1 = 0
 ·rw [if_pos c2] at H
  have c2b0 : (a0_1 == 0) = true := beq_iff_eq.mpr c2
  have c2b1 : (a0_1 != 0) = false := bne_eq_false_iff_eq.mpr c2
  clear c2
  obtain rfl := Option.some.inj H
  go_enter Try.func92, Try.ntmps92
  go_wp2_with (first | ((with_reducible refine gate_dst (N := 1) rfl ?_); refine bv (N := 1) (cs := #[.bool a0_0, .int .u64 a0_1, .int .u64 a0_2]) (t := 62) ?_; intro gb224 hg w3 hbox hb; have n0_ := Aside0.mk (below_step bz hb); have n1_ := Aside0.mk (hbox); have n2_ := (gz hg : Aside0 (w.heap.size ≤ _)); have n3_ := (gz hg : Aside0 (w.heap.size ≤ _)); clear HB; have HB := n0_; have BK224 := n1_; have GW224 := n2_; have GE224 := n3_; clear n0_ n1_ n2_ n3_; clear hb hbox hg; have hcz4_0 : w3.cell? ⟨gb224, 0, none⟩ = some (.bool a0_0) := (blk_cell BK224.out 0).trans rfl; have hcz4_1 : w3.cell? ⟨gb224, 1, none⟩ = some (.int .u64 a0_1) := (blk_cell BK224.out 1).trans rfl; have hcz4_2 : w3.cell? ⟨gb224, 2, none⟩ = some (.int .u64 a0_2) := (blk_cell BK224.out 2).trans rfl; have hfz4_0 := blk_frozen BK224.out 0; have hfz4_1 := blk_frozen BK224.out 1; have hfz4_2 := blk_frozen BK224.out 2))
  go_ret
  exact ⟨er, bz1 GE224⟩
 ·rw [if_neg c2] at H
  have c2b0 : (a0_1 == 0) = false := beq_eq_false_iff_ne.mpr c2
  have c2b1 : (a0_1 != 0) = true := bne_iff_ne.mpr c2
  obtain rfl := Option.some.inj H
  go_enter Try.func92, Try.ntmps92
  go_wp2_with (first | ((with_reducible refine gate_dst (N := 1) rfl ?_); refine bv (N := 1) (cs := #[.bool a0_0, .int .u64 a0_1, .int .u64 a0_2]) (t := 62) ?_; intro gb224 hg w5 hbox hb; have n0_ := Aside0.mk (below_step bz hb); have n1_ := Aside0.mk (hbox); have n2_ := (gz hg : Aside0 (w.heap.size ≤ _)); have n3_ := (gz hg : Aside0 (w.heap.size ≤ _)); clear HB; have HB := n0_; have BK224 := n1_; have GW224 := n2_; have GE224 := n3_; clear n0_ n1_ n2_ n3_; clear hb hbox hg; have hcz6_0 : w5.cell? ⟨gb224, 0, none⟩ = some (.bool a0_0) := (blk_cell BK224.out 0).trans rfl; have hcz6_1 : w5.cell? ⟨gb224, 1, none⟩ = some (.int .u64 a0_1) := (blk_cell BK224.out 1).trans rfl; have hcz6_2 : w5.cell? ⟨gb224, 2, none⟩ = some (.int .u64 a0_2) := (blk_cell BK224.out 2).trans rfl; have hfz6_0 := blk_frozen BK224.out 0; have hfz6_1 := blk_frozen BK224.out 1; have hfz6_2 := blk_frozen BK224.out 2))
  go_ret
  exact ⟨er, bz1 GE224⟩
mutual
def impl_wide_fit.j1 : Nat → Int → Bool → Int → Int → Option (Int × Int × Bool)
 | 0, _, _, _, _ => none
 | k + 1, x1, x226000, x226001, x226002 => if x1 > 24 then (impl_wide_fit.j2 k x1 true x226000 x226001 x226002) else (if x226001 > 0 then (impl_wide_fit.j2 k x1 true x226000 x226001 x226002) else (impl_wide_fit.j2 k x1 (decide (x226002 > 1099511627776)) x226000 x226001 x226002))
def impl_wide_fit.j2 : Nat → Int → Bool → Bool → Int → Int → Option (Int × Int × Bool)
 | 0, _, _, _, _, _ => none
 | k + 1, x1, x33, x226000, x226001, x226002 => if x33 = true then (some (0, 0, false)) else (if x226000 = true then (some (wrap64 (-(wrap64 (x226002))), x1, true)) else (some (wrap64 (x226002), x1, true)))
def impl_wide_fit.l0 : Nat → Int → Bool → Int → Int → Option (Int × Int × Bool)
 | 0, _, _, _, _ => none
 | k + 1, x1, x226000, x226001, x226002 => if x1 > 0 then (if (Int.tmod x226002 2) = 0 then ((impl_wide_shift.f x226000 x226001 x226002 (-1)).bind fun bt228 => (impl_wide_fit.l0 k (wrap64 (x1 - 1)) bt228.1 bt228.2.1 bt228.2.2)) else (impl_wide_fit.j1 k x1 x226000 x226001 x226002)) else (impl_wide_fit.j1 k x1 x226000 x226001 x226002)
end
def impl_wide_fit.f (k : Nat) (a0_0 : Bool) (a0_1 : Int) (a0_2 : Int) (a1 : Int) : Option (Int × Int × Bool) := (impl_wide_isZero.f a0_0 a0_1 a0_2).bind fun t227 => (if t227 = true then (some (0, 0, true)) else (impl_wide_fit.l0 k a1 a0_0 a0_1 a0_2))
set_option maxHeartbeats 8000000 in
set_option maxRecDepth 100000 in
theorem impl_wide_fit.calls (k : Nat) (a0_0 : Bool) (a0_1 : Int) (a0_2 : Int) (a1 : Int) (r1 : Int) (r2 : Int) (r3 : Bool) (w : World) (h : impl_wide_fit.f k a0_0 a0_1 a0_2 a1 = some (r1, r2, r3)) :
 Calls Try.prog 58 #[.agg #[.bool a0_0, .int .u64 a0_1, .int .u64 a0_2], .int .i64 a1] w fun e w' => e = .returned (.tuple #[.agg #[.int .i64 r1, .int .i64 r2], .bool r3]) ∧ Below w.heap.size w w' := by
 have hu62 := Try.underlying62
 have hu25 := Try.underlying25
 have HB := Aside0.mk (Below.refl w.heap.size w)
 have H : ((impl_wide_isZero.f a0_0 a0_1 a0_2).bind fun t227 => (if t227 = true then (some (0, 0, true)) else (impl_wide_fit.l0 k a1 a0_0 a0_1 a0_2))) = some (r1, r2, r3) := h
 clear h
 obtain ⟨t227, A3, H⟩ := bi H
 by_cases c4 : t227 = true
 ·subst c4
  rw [if_pos rfl] at H
  simp only [Option.some.injEq, Prod.mk.injEq] at H
  obtain ⟨rfl, rfl, rfl⟩ := H
  go_enter Try.func58, Try.ntmps58
  go_wp2_with (first | ((with_reducible refine gate_dst (N := 2) rfl ?_); refine bv (N := 2) (cs := #[.bool a0_0, .int .u64 a0_1, .int .u64 a0_2]) (t := 62) ?_; intro gb225 hg w5 hbox hb; have n0_ := Aside0.mk (below_step bz hb); have n1_ := Aside0.mk (hbox); have n2_ := (gz hg : Aside0 (w.heap.size ≤ _)); have n3_ := (gz hg : Aside0 (w.heap.size ≤ _)); clear HB; have HB := n0_; have BK225 := n1_; have GW225 := n2_; have GE225 := n3_; clear n0_ n1_ n2_ n3_; clear hb hbox hg) | ((with_reducible refine gate_dst (N := 4) rfl ?_); refine bv (N := 4) (cs := #[.int .i64 0, .int .i64 0]) (t := 25) ?_; intro gb226 hg w6 hbox hb; have n0_ := bb BK225 hb; have n1_ := Aside0.mk (below_step (bz1 GE225) hb); have n2_ := Aside0.mk (hbox); have n3_ := Aside0.mk ((by rw [hg]; exact (below_size (bz1 GE225)) : w.heap.size ≤ gb226)); have n4_ := Aside0.mk ((by rw [hg]; exact (below_size (bz1 GE225)) : w.heap.size ≤ gb226)); have n5_ := Aside0.mk ((by rw [hg]; exact Nat.ne_of_lt (blk_lt (g := gb225) (o := .cells #[.bool a0_0, .int .u64 a0_1, .int .u64 a0_2] 62 (0, 0)) (bk BK225)) : gb225 ≠ gb226)); have n6_ := Aside0.mk ((by rw [hg]; exact Nat.ne_of_gt (blk_lt (g := gb225) (o := .cells #[.bool a0_0, .int .u64 a0_1, .int .u64 a0_2] 62 (0, 0)) (bk BK225)) : gb226 ≠ gb225)); have n7_ := Aside0.mk ((by rw [hg]; exact blk_lt (g := gb225) (o := .cells #[.bool a0_0, .int .u64 a0_1, .int .u64 a0_2] 62 (0, 0)) (bk BK225) : gb225 < gb226)); clear BK225; clear HB; have BK225 := n0_; have HB := n1_; have BK226 := n2_; have GW226 := n3_; have GE226 := n4_; have NB225_226 := n5_; have NB226_225 := n6_; have LT225_226 := n7_; clear n0_ n1_ n2_ n3_ n4_ n5_ n6_ n7_; clear hb hbox hg; have hlt7 := LT225_226.out; have hcz8_0 : w6.cell? ⟨gb225, 0, none⟩ = some (.bool a0_0) := (blk_cell BK225.out 0).trans rfl; have hcz8_1 : w6.cell? ⟨gb225, 1, none⟩ = some (.int .u64 a0_1) := (blk_cell BK225.out 1).trans rfl; have hcz8_2 : w6.cell? ⟨gb225, 2, none⟩ = some (.int .u64 a0_2) := (blk_cell BK225.out 2).trans rfl; have hfz8_0 := blk_frozen BK225.out 0; have hfz8_1 := blk_frozen BK225.out 1; have hfz8_2 := blk_frozen BK225.out 2) | ((with_reducible refine gate_callee (f := 92) rfl ?_); refine goesL_ (some 8) rfl rfl Try.func92 kf rfl #[.agg #[.bool a0_0, .int .u64 a0_1, .int .u64 a0_2]] rfl sm ?_; (with_reducible refine (impl_wide_isZero.calls a0_0 a0_1 a0_2 true _ A3.out).mono ?_); rintro e w9 ⟨rfl, hb⟩; refine ⟨_, rfl, ?_⟩; have n0_ := bb BK225 hb; have n1_ := bb BK226 hb; have n2_ := Aside0.mk (below_step (bz2 GE225 GE226) hb); clear BK225; clear BK226; clear HB; have BK225 := n0_; have BK226 := n1_; have HB := n2_; clear n0_ n1_ n2_; (try clear hb); (try clear hb2); (try clear hk); (try clear hi); have hcz10_0 : w9.cell? ⟨gb226, 0, none⟩ = some (.int .i64 0) := (blk_cell BK226.out 0).trans rfl; have hcz10_1 : w9.cell? ⟨gb226, 1, none⟩ = some (.int .i64 0) := (blk_cell BK226.out 1).trans rfl; have hfz10_0 := blk_frozen BK226.out 0; have hfz10_1 := blk_frozen BK226.out 1))
  refine bodyPost_ret (results_ct rfl _ _ gb226 25 #[.int .i64 0, .int .i64 0] (0, 0) _ rfl (by (with_reducible repeat (first | refine blk_drewN ?_ _ | refine blk_drew ?_ | refine blk_alloc ?_ _)); refine blk_put (cs := #[.int .i64 0, .int .i64 0]) ?_ 1 _ rfl; (with_reducible repeat (first | refine blk_drewN ?_ _ | refine blk_drew ?_ | refine blk_alloc ?_ _)); refine blk_put (cs := #[.int .i64 0, .int .i64 0]) ?_ 0 _ rfl; (with_reducible repeat (first | refine blk_drewN ?_ _ | refine blk_drew ?_ | refine blk_alloc ?_ _)); exact BK226.out) Try.underlying25 rfl kf) rfl ?_
  exact ⟨er, bz2 GE225 GE226⟩
 ·replace c4 := Bool.eq_false_iff.mpr c4
  subst c4
  rw [if_neg (show ¬ (false = true) by decide)] at H
  have HC11 := Aside0.mk H
  clear H
  go_enter Try.func58, Try.ntmps58
  go_upto_block 0 with (first | ((with_reducible refine gate_dst (N := 2) rfl ?_); refine bv (N := 2) (cs := #[.bool a0_0, .int .u64 a0_1, .int .u64 a0_2]) (t := 62) ?_; intro gb225 hg w12 hbox hb; have n0_ := Aside0.mk (below_step bz hb); have n1_ := Aside0.mk (hbox); have n2_ := (gz hg : Aside0 (w.heap.size ≤ _)); have n3_ := (gz hg : Aside0 (w.heap.size ≤ _)); clear HB; have HB := n0_; have BK225 := n1_; have GW225 := n2_; have GE225 := n3_; clear n0_ n1_ n2_ n3_; clear hb hbox hg) | ((with_reducible refine gate_dst (N := 4) rfl ?_); refine bv (N := 4) (cs := #[.int .i64 0, .int .i64 0]) (t := 25) ?_; intro gb226 hg w13 hbox hb; have n0_ := bb BK225 hb; have n1_ := Aside0.mk (below_step (bz1 GE225) hb); have n2_ := Aside0.mk (hbox); have n3_ := Aside0.mk ((by rw [hg]; exact (below_size (bz1 GE225)) : w.heap.size ≤ gb226)); have n4_ := Aside0.mk ((by rw [hg]; exact (below_size (bz1 GE225)) : w.heap.size ≤ gb226)); have n5_ := Aside0.mk ((by rw [hg]; exact Nat.ne_of_lt (blk_lt (g := gb225) (o := .cells #[.bool a0_0, .int .u64 a0_1, .int .u64 a0_2] 62 (0, 0)) (bk BK225)) : gb225 ≠ gb226)); have n6_ := Aside0.mk ((by rw [hg]; exact Nat.ne_of_gt (blk_lt (g := gb225) (o := .cells #[.bool a0_0, .int .u64 a0_1, .int .u64 a0_2] 62 (0, 0)) (bk BK225)) : gb226 ≠ gb225)); have n7_ := Aside0.mk ((by rw [hg]; exact blk_lt (g := gb225) (o := .cells #[.bool a0_0, .int .u64 a0_1, .int .u64 a0_2] 62 (0, 0)) (bk BK225) : gb225 < gb226)); clear BK225; clear HB; have BK225 := n0_; have HB := n1_; have BK226 := n2_; have GW226 := n3_; have GE226 := n4_; have NB225_226 := n5_; have NB226_225 := n6_; have LT225_226 := n7_; clear n0_ n1_ n2_ n3_ n4_ n5_ n6_ n7_; clear hb hbox hg; have hlt14 := LT225_226.out; have hcz15_0 : w13.cell? ⟨gb225, 0, none⟩ = some (.bool a0_0) := (blk_cell BK225.out 0).trans rfl; have hcz15_1 : w13.cell? ⟨gb225, 1, none⟩ = some (.int .u64 a0_1) := (blk_cell BK225.out 1).trans rfl; have hcz15_2 : w13.cell? ⟨gb225, 2, none⟩ = some (.int .u64 a0_2) := (blk_cell BK225.out 2).trans rfl; have hfz15_0 := blk_frozen BK225.out 0; have hfz15_1 := blk_frozen BK225.out 1; have hfz15_2 := blk_frozen BK225.out 2) | ((with_reducible refine gate_callee (f := 92) rfl ?_); refine goesL_ (some 8) rfl rfl Try.func92 kf rfl #[.agg #[.bool a0_0, .int .u64 a0_1, .int .u64 a0_2]] rfl sm ?_; (with_reducible refine (impl_wide_isZero.calls a0_0 a0_1 a0_2 false _ A3.out).mono ?_); rintro e w16 ⟨rfl, hb⟩; refine ⟨_, rfl, ?_⟩; have n0_ := bb BK225 hb; have n1_ := bb BK226 hb; have n2_ := Aside0.mk (below_step (bz2 GE225 GE226) hb); clear BK225; clear BK226; clear HB; have BK225 := n0_; have BK226 := n1_; have HB := n2_; clear n0_ n1_ n2_; (try clear hb); (try clear hb2); (try clear hk); (try clear hi)))
  (try simp only [Act.put, List.setIfInBounds_toArray, List.set_cons_zero, List.set_cons_succ])
  go_cut [1] (fun v1 wc => ∃ (kq : Nat) (x1_10 : Int) (x226000_10 : Bool) (x226001_10 : Int) (x226002_10 : Int), v1 = .int .i64 x1_10 ∧ Aside0 (impl_wide_fit.j1 kq x1_10 x226000_10 x226001_10 x226002_10 = some (r1, r2, r3)) ∧ Aside0 (kq ≤ k) ∧ Aside0 (wc.heap[gb225]? = some (.cells #[.bool x226000_10, .int .u64 x226001_10, .int .u64 x226002_10] 62 (0, 0))) ∧ Aside0 (wc.heap[gb226]? = some (.cells #[.int .i64 0, .int .i64 0] 25 (0, 0))) ∧ Aside0 (Below w.heap.size w wc))
  case first =>
   have H := HC11.out
   clear HC11
   have H' := Aside0.mk H
   clear H
   go_wp2
   go_loopg [1] k (fun kq v1 w' => ∃ (x1_1 : Int) (x226000_1 : Bool) (x226001_1 : Int) (x226002_1 : Int), v1 = .int .i64 x1_1 ∧ Aside0 (impl_wide_fit.l0 kq x1_1 x226000_1 x226001_1 x226002_1 = some (r1, r2, r3)) ∧ Aside0 (kq ≤ k) ∧ Aside0 (w'.heap[gb225]? = some (.cells #[.bool x226000_1, .int .u64 x226001_1, .int .u64 x226002_1] 62 (0, 0))) ∧ Aside0 (w'.heap[gb226]? = some (.cells #[.int .i64 0, .int .i64 0] 25 (0, 0))) ∧ Aside0 (Below w.heap.size w w'))
   case atStart => exact ⟨(a1), (a0_0), (a0_1), (a0_2), sr, H', ⟨Nat.le_refl _⟩, ⟨bk BK225⟩, ⟨bk BK226⟩, ⟨bz2 GE225 GE226⟩⟩
   case round =>
    clear H'
    try clear p2; try clear c4; try clear c5; try clear c9; try clear hcz10_0; try clear hcz10_1; try clear hcz15_0; try clear hcz15_1; try clear hcz15_2; try clear hcz8_0; try clear hcz8_1; try clear hcz8_2; try clear hfz10_0; try clear hfz10_1; try clear hfz15_0; try clear hfz15_1; try clear hfz15_2; try clear hfz8_0; try clear hfz8_1; try clear hfz8_2
    obtain ⟨x1_1, x226000_1, x226001_1, x226002_1, rfl, HA, HK1, BK225, BK226, HB⟩ := hrel
    cases gk with
    | zero => exact absurd HA.out (by simp [impl_wide_fit.l0])
    | succ k1 =>
     have H := HA.out
     clear HA
     simp only [impl_wide_fit.l0] at H
     by_cases c17 : x1_1 > 0
     ·rw [if_pos c17] at H
      have c17b0 : decide (0 < x1_1) = true := decide_eq_true c17
      clear c17
      (first | rw [c17b0] | (simp only [i64_w, i32_w]; rw [c17b0]) | skip)
      by_cases c18 : (Int.tmod x226002_1 2) = 0
      ·rw [if_pos c18] at H
       have c18b0 : ((Int.tmod x226002_1 2) == 0) = true := beq_iff_eq.mpr c18
       have c18b1 : ((Int.tmod x226002_1 2) != 0) = false := bne_eq_false_iff_eq.mpr c18
       clear c18
       obtain ⟨⟨t228, t229, t230⟩, A19, H⟩ := bi H
       try dsimp only at H
       have H' := Aside0.mk H
       clear H
       have hcz20_0 : wr.cell? ⟨gb225, 0, none⟩ = some (.bool x226000_1) := (blk_cell BK225.out 0).trans rfl
       have hcz20_1 : wr.cell? ⟨gb225, 1, none⟩ = some (.int .u64 x226001_1) := (blk_cell BK225.out 1).trans rfl
       have hcz20_2 : wr.cell? ⟨gb225, 2, none⟩ = some (.int .u64 x226002_1) := (blk_cell BK225.out 2).trans rfl
       have hfz20_0 := blk_frozen BK225.out 0
       have hfz20_1 := blk_frozen BK225.out 1
       have hfz20_2 := blk_frozen BK225.out 2
       go_wp2_with (first | ((with_reducible refine gate_callee (f := 80) rfl ?_); refine goesL_ (some 19) rfl rfl Try.func80 kf rfl #[.agg #[.bool x226000_1, .int .u64 x226001_1, .int .u64 x226002_1], .int .i64 (-1)] rfl sm ?_; (with_reducible refine (impl_wide_shift.calls x226000_1 x226001_1 x226002_1 (-1) t228 t229 t230 _ A19.out).mono ?_); rintro e w21 ⟨rfl, hb⟩; refine ⟨_, rfl, ?_⟩; have n0_ := bb BK225 hb; have n1_ := bb BK226 hb; have n2_ := Aside0.mk (below_step (bz2 GE225 GE226) hb); clear BK225; clear BK226; clear HB; have BK225 := n0_; have BK226 := n1_; have HB := n2_; clear n0_ n1_ n2_; (try clear hb); (try clear hb2); (try clear hk); (try clear hi); have hcz22_0 : w21.cell? ⟨gb225, 0, none⟩ = some (.bool x226000_1) := (blk_cell BK225.out 0).trans rfl; have hcz22_1 : w21.cell? ⟨gb225, 1, none⟩ = some (.int .u64 x226001_1) := (blk_cell BK225.out 1).trans rfl; have hcz22_2 : w21.cell? ⟨gb225, 2, none⟩ = some (.int .u64 x226002_1) := (blk_cell BK225.out 2).trans rfl; have hfz22_0 := blk_frozen BK225.out 0; have hfz22_1 := blk_frozen BK225.out 1; have hfz22_2 := blk_frozen BK225.out 2))
       go_roundg k1
       case measure => have := HK1.out; omega
       case rel => exact ⟨(wrap64 (x1_1 - 1)), (t228), (t229), (t230), sr, H', ⟨by have := HK1.out; omega⟩, ⟨by (with_reducible repeat (first | refine blk_drewN ?_ _ | refine blk_drew ?_ | refine blk_alloc ?_ _)); refine blk_put (cs := #[.bool t228, .int .u64 t229, .int .u64 x226002_1]) ?_ 2 _ rfl; (with_reducible repeat (first | refine blk_drewN ?_ _ | refine blk_drew ?_ | refine blk_alloc ?_ _)); refine blk_put (cs := #[.bool t228, .int .u64 x226001_1, .int .u64 x226002_1]) ?_ 1 _ rfl; (with_reducible repeat (first | refine blk_drewN ?_ _ | refine blk_drew ?_ | refine blk_alloc ?_ _)); refine blk_put (cs := #[.bool x226000_1, .int .u64 x226001_1, .int .u64 x226002_1]) ?_ 0 _ rfl; (with_reducible repeat (first | refine blk_drewN ?_ _ | refine blk_drew ?_ | refine blk_alloc ?_ _)); exact BK225.out⟩, ⟨by (with_reducible repeat (first | refine blk_drewN ?_ _ | refine blk_drew ?_ | refine blk_alloc ?_ _)); refine blk_far ?_ NB226_225.out _; (with_reducible repeat (first | refine blk_drewN ?_ _ | refine blk_drew ?_ | refine blk_alloc ?_ _)); refine blk_far ?_ NB226_225.out _; (with_reducible repeat (first | refine blk_drewN ?_ _ | refine blk_drew ?_ | refine blk_alloc ?_ _)); refine blk_far ?_ NB226_225.out _; (with_reducible repeat (first | refine blk_drewN ?_ _ | refine blk_drew ?_ | refine blk_alloc ?_ _)); exact BK226.out⟩, ⟨bz2 GE225 GE226⟩⟩
      ·rw [if_neg c18] at H
       have c18b0 : ((Int.tmod x226002_1 2) == 0) = false := beq_eq_false_iff_ne.mpr c18
       have c18b1 : ((Int.tmod x226002_1 2) != 0) = true := bne_iff_ne.mpr c18
       have H' := Aside0.mk H
       clear H
       have hcz23_0 : wr.cell? ⟨gb225, 0, none⟩ = some (.bool x226000_1) := (blk_cell BK225.out 0).trans rfl
       have hcz23_1 : wr.cell? ⟨gb225, 1, none⟩ = some (.int .u64 x226001_1) := (blk_cell BK225.out 1).trans rfl
       have hcz23_2 : wr.cell? ⟨gb225, 2, none⟩ = some (.int .u64 x226002_1) := (blk_cell BK225.out 2).trans rfl
       have hfz23_0 := blk_frozen BK225.out 0
       have hfz23_1 := blk_frozen BK225.out 1
       have hfz23_2 := blk_frozen BK225.out 2
       go_wp2
       go_meet
       case rel => exact ⟨_, (x1_1), (x226000_1), (x226001_1), (x226002_1), sr, H', ⟨by have := HK1.out; first | omega | exact Nat.le_refl _⟩, ⟨bk BK225⟩, ⟨bk BK226⟩, ⟨bz2 GE225 GE226⟩⟩
     ·rw [if_neg c17] at H
      have c17b0 : decide (0 < x1_1) = false := decide_eq_false c17
      clear c17
      (first | rw [c17b0] | (simp only [i64_w, i32_w]; rw [c17b0]) | skip)
      have H' := Aside0.mk H
      clear H
      go_wp2
      go_meet
      case rel => exact ⟨_, (x1_1), (x226000_1), (x226001_1), (x226002_1), sr, H', ⟨by have := HK1.out; first | omega | exact Nat.le_refl _⟩, ⟨bk BK225⟩, ⟨bk BK226⟩, ⟨bz2 GE225 GE226⟩⟩
  case rest =>
   clear HC11
   try clear c1; try clear p2; try clear c4; try clear c5; try clear p6; try clear c8; try clear c9; try clear c17; try clear c17b0; try clear c18; try clear c18b0; try clear c18b1; try clear hcz10_0; try clear hcz10_1; try clear hcz15_0; try clear hcz15_1; try clear hcz15_2; try clear hcz20_0; try clear hcz20_1; try clear hcz20_2; try clear hcz22_0; try clear hcz22_1; try clear hcz22_2; try clear hcz23_0; try clear hcz23_1; try clear hcz23_2; try clear hcz8_0; try clear hcz8_1; try clear hcz8_2; try clear hfz10_0; try clear hfz10_1; try clear hfz15_0; try clear hfz15_1; try clear hfz15_2; try clear hfz20_0; try clear hfz20_1; try clear hfz20_2; try clear hfz22_0; try clear hfz22_1; try clear hfz22_2; try clear hfz23_0; try clear hfz23_1; try clear hfz23_2; try clear hfz8_0; try clear hfz8_1; try clear hfz8_2; try clear p2
   obtain ⟨kq, x1_10, x226000_10, x226001_10, x226002_10, rfl, HA, HJ10, BK225, BK226, HB⟩ := hcut
   cases kq with
   | zero => exact absurd HA.out (by simp [impl_wide_fit.j1])
   | succ kj10 =>
    have H := HA.out
    clear HA
    simp only [impl_wide_fit.j1] at H
    have HC24 := Aside0.mk H
    clear H
    go_upto_region 6 with (fail)
    go_cut [33] (fun v33 wc => ∃ (kq : Nat) (x33_23 : Bool), v33 = .bool x33_23 ∧ Aside0 (impl_wide_fit.j2 kq x1_10 x33_23 x226000_10 x226001_10 x226002_10 = some (r1, r2, r3)) ∧ Aside0 (kq ≤ kj10) ∧ Aside0 (wc.heap[gb225]? = some (.cells #[.bool x226000_10, .int .u64 x226001_10, .int .u64 x226002_10] 62 (0, 0))) ∧ Aside0 (wc.heap[gb226]? = some (.cells #[.int .i64 0, .int .i64 0] 25 (0, 0))) ∧ Aside0 (Below w.heap.size w wc))
    case first =>
     have H := HC24.out
     clear HC24
     by_cases c25 : x1_10 > 24
     ·rw [if_pos c25] at H
      have c25b0 : decide (24 < x1_10) = true := decide_eq_true c25
      clear c25
      (first | rw [c25b0] | (simp only [i64_w, i32_w]; rw [c25b0]) | skip)
      have H' := Aside0.mk H
      clear H
      go_wp2
      go_meet
      case rel => exact ⟨_, (true), sr, H', ⟨by have := HJ10.out; first | omega | exact Nat.le_refl _⟩, ⟨bk BK225⟩, ⟨bk BK226⟩, ⟨bz2 GE225 GE226⟩⟩
     ·rw [if_neg c25] at H
      have c25b0 : decide (24 < x1_10) = false := decide_eq_false c25
      clear c25
      (first | rw [c25b0] | (simp only [i64_w, i32_w]; rw [c25b0]) | skip)
      by_cases c26 : x226001_10 > 0
      ·rw [if_pos c26] at H
       have c26b0 : decide (0 < x226001_10) = true := decide_eq_true c26
       clear c26
       have H' := Aside0.mk H
       clear H
       have hcz27_0 : wc.cell? ⟨gb225, 0, none⟩ = some (.bool x226000_10) := (blk_cell BK225.out 0).trans rfl
       have hcz27_1 : wc.cell? ⟨gb225, 1, none⟩ = some (.int .u64 x226001_10) := (blk_cell BK225.out 1).trans rfl
       have hcz27_2 : wc.cell? ⟨gb225, 2, none⟩ = some (.int .u64 x226002_10) := (blk_cell BK225.out 2).trans rfl
       have hfz27_0 := blk_frozen BK225.out 0
       have hfz27_1 := blk_frozen BK225.out 1
       have hfz27_2 := blk_frozen BK225.out 2
       go_wp2
       go_meet
       case rel => exact ⟨_, (true), sr, H', ⟨by have := HJ10.out; first | omega | exact Nat.le_refl _⟩, ⟨bk BK225⟩, ⟨bk BK226⟩, ⟨bz2 GE225 GE226⟩⟩
      ·rw [if_neg c26] at H
       have c26b0 : decide (0 < x226001_10) = false := decide_eq_false c26
       clear c26
       have H' := Aside0.mk H
       clear H
       have hcz28_0 : wc.cell? ⟨gb225, 0, none⟩ = some (.bool x226000_10) := (blk_cell BK225.out 0).trans rfl
       have hcz28_1 : wc.cell? ⟨gb225, 1, none⟩ = some (.int .u64 x226001_10) := (blk_cell BK225.out 1).trans rfl
       have hcz28_2 : wc.cell? ⟨gb225, 2, none⟩ = some (.int .u64 x226002_10) := (blk_cell BK225.out 2).trans rfl
       have hfz28_0 := blk_frozen BK225.out 0
       have hfz28_1 := blk_frozen BK225.out 1
       have hfz28_2 := blk_frozen BK225.out 2
       go_wp2
       go_meet
       case rel => exact ⟨_, (decide (x226002_10 > 1099511627776)), sr, H', ⟨by have := HJ10.out; first | omega | exact Nat.le_refl _⟩, ⟨bk BK225⟩, ⟨bk BK226⟩, ⟨bz2 GE225 GE226⟩⟩
    case rest =>
     clear HC24
     try clear c1; try clear c2; try clear p2; try clear c4; try clear c5; try clear p6; try clear c8; try clear c9; try clear c17; try clear c17b0; try clear c18; try clear c18b0; try clear c18b1; try clear c25; try clear c25b0; try clear c26; try clear c26b0; try clear hcz10_0; try clear hcz10_1; try clear hcz15_0; try clear hcz15_1; try clear hcz15_2; try clear hcz20_0; try clear hcz20_1; try clear hcz20_2; try clear hcz22_0; try clear hcz22_1; try clear hcz22_2; try clear hcz23_0; try clear hcz23_1; try clear hcz23_2; try clear hcz27_0; try clear hcz27_1; try clear hcz27_2; try clear hcz28_0; try clear hcz28_1; try clear hcz28_2; try clear hcz8_0; try clear hcz8_1; try clear hcz8_2; try clear hfz10_0; try clear hfz10_1; try clear hfz15_0; try clear hfz15_1; try clear hfz15_2; try clear hfz20_0; try clear hfz20_1; try clear hfz20_2; try clear hfz22_0; try clear hfz22_1; try clear hfz22_2; try clear hfz23_0; try clear hfz23_1; try clear hfz23_2; try clear hfz27_0; try clear hfz27_1; try clear hfz27_2; try clear hfz28_0; try clear hfz28_1; try clear hfz28_2; try clear hfz8_0; try clear hfz8_1; try clear hfz8_2; try clear p2; try clear p6
     obtain ⟨kq, x33_23, rfl, HA, HJ23, BK225, BK226, HB⟩ := hcut
     cases kq with
     | zero => exact absurd HA.out (by simp [impl_wide_fit.j2])
     | succ kj23 =>
      have H := HA.out
      clear HA
      simp only [impl_wide_fit.j2] at H
      by_cases c29 : x33_23 = true
      ·subst c29
       rw [if_pos rfl] at H
       simp only [Option.some.injEq, Prod.mk.injEq] at H
       obtain ⟨rfl, rfl, rfl⟩ := H
       have hcz30_0 : wc.cell? ⟨gb226, 0, none⟩ = some (.int .i64 0) := (blk_cell BK226.out 0).trans rfl
       have hcz30_1 : wc.cell? ⟨gb226, 1, none⟩ = some (.int .i64 0) := (blk_cell BK226.out 1).trans rfl
       have hfz30_0 := blk_frozen BK226.out 0
       have hfz30_1 := blk_frozen BK226.out 1
       go_wp2
       refine bodyPost_ret (results_ct rfl _ _ gb226 25 #[.int .i64 0, .int .i64 0] (0, 0) _ rfl (by (with_reducible repeat (first | refine blk_drewN ?_ _ | refine blk_drew ?_ | refine blk_alloc ?_ _)); refine blk_put (cs := #[.int .i64 0, .int .i64 0]) ?_ 1 _ rfl; (with_reducible repeat (first | refine blk_drewN ?_ _ | refine blk_drew ?_ | refine blk_alloc ?_ _)); refine blk_put (cs := #[.int .i64 0, .int .i64 0]) ?_ 0 _ rfl; (with_reducible repeat (first | refine blk_drewN ?_ _ | refine blk_drew ?_ | refine blk_alloc ?_ _)); exact BK226.out) Try.underlying25 rfl kf) rfl ?_
       exact ⟨er, bz2 GE225 GE226⟩
      ·replace c29 := Bool.eq_false_iff.mpr c29
       subst c29
       rw [if_neg (show ¬ (false = true) by decide)] at H
       by_cases c31 : x226000_10 = true
       ·subst c31
        rw [if_pos rfl] at H
        simp only [Option.some.injEq, Prod.mk.injEq] at H
        obtain ⟨rfl, rfl, rfl⟩ := H
        have hcz32_0 : wc.cell? ⟨gb225, 0, none⟩ = some (.bool true) := (blk_cell BK225.out 0).trans rfl
        have hcz32_1 : wc.cell? ⟨gb225, 1, none⟩ = some (.int .u64 x226001_10) := (blk_cell BK225.out 1).trans rfl
        have hcz32_2 : wc.cell? ⟨gb225, 2, none⟩ = some (.int .u64 x226002_10) := (blk_cell BK225.out 2).trans rfl
        have hfz32_0 := blk_frozen BK225.out 0
        have hfz32_1 := blk_frozen BK225.out 1
        have hfz32_2 := blk_frozen BK225.out 2
        have hcz33_0 : wc.cell? ⟨gb226, 0, none⟩ = some (.int .i64 0) := (blk_cell BK226.out 0).trans rfl
        have hcz33_1 : wc.cell? ⟨gb226, 1, none⟩ = some (.int .i64 0) := (blk_cell BK226.out 1).trans rfl
        have hfz33_0 := blk_frozen BK226.out 0
        have hfz33_1 := blk_frozen BK226.out 1
        go_wp2
        refine bodyPost_ret (results_ct rfl _ _ gb226 25 #[.int .i64 (wrap64 (-(wrap64 (x226002_10)))), .int .i64 x1_10] (0, 0) _ rfl (by (with_reducible repeat (first | refine blk_drewN ?_ _ | refine blk_drew ?_ | refine blk_alloc ?_ _)); refine blk_put (cs := #[.int .i64 (wrap64 (-(wrap64 (x226002_10)))), .int .i64 0]) ?_ 1 _ rfl; (with_reducible repeat (first | refine blk_drewN ?_ _ | refine blk_drew ?_ | refine blk_alloc ?_ _)); refine blk_put (cs := #[.int .i64 0, .int .i64 0]) ?_ 0 _ rfl; (with_reducible repeat (first | refine blk_drewN ?_ _ | refine blk_drew ?_ | refine blk_alloc ?_ _)); exact BK226.out) Try.underlying25 rfl kf) rfl ?_
        exact ⟨er, bz2 GE225 GE226⟩
       ·replace c31 := Bool.eq_false_iff.mpr c31
        subst c31
        rw [if_neg (show ¬ (false = true) by decide)] at H
        simp only [Option.some.injEq, Prod.mk.injEq] at H
        obtain ⟨rfl, rfl, rfl⟩ := H
        have hcz34_0 : wc.cell? ⟨gb225, 0, none⟩ = some (.bool false) := (blk_cell BK225.out 0).trans rfl
        have hcz34_1 : wc.cell? ⟨gb225, 1, none⟩ = some (.int .u64 x226001_10) := (blk_cell BK225.out 1).trans rfl
        have hcz34_2 : wc.cell? ⟨gb225, 2, none⟩ = some (.int .u64 x226002_10) := (blk_cell BK225.out 2).trans rfl
        have hfz34_0 := blk_frozen BK225.out 0
        have hfz34_1 := blk_frozen BK225.out 1
        have hfz34_2 := blk_frozen BK225.out 2
        have hcz35_0 : wc.cell? ⟨gb226, 0, none⟩ = some (.int .i64 0) := (blk_cell BK226.out 0).trans rfl
        have hcz35_1 : wc.cell? ⟨gb226, 1, none⟩ = some (.int .i64 0) := (blk_cell BK226.out 1).trans rfl
        have hfz35_0 := blk_frozen BK226.out 0
        have hfz35_1 := blk_frozen BK226.out 1
        go_wp2
        refine bodyPost_ret (results_ct rfl _ _ gb226 25 #[.int .i64 (wrap64 (x226002_10)), .int .i64 x1_10] (0, 0) _ rfl (by (with_reducible repeat (first | refine blk_drewN ?_ _ | refine blk_drew ?_ | refine blk_alloc ?_ _)); refine blk_put (cs := #[.int .i64 (wrap64 (x226002_10)), .int .i64 0]) ?_ 1 _ rfl; (with_reducible repeat (first | refine blk_drewN ?_ _ | refine blk_drew ?_ | refine blk_alloc ?_ _)); refine blk_put (cs := #[.int .i64 0, .int .i64 0]) ?_ 0 _ rfl; (with_reducible repeat (first | refine blk_drewN ?_ _ | refine blk_drew ?_ | refine blk_alloc ?_ _)); exact BK226.out) Try.underlying25 rfl kf) rfl ?_
        exact ⟨er, bz2 GE225 GE226⟩
def cmp_Or_int.l0 : Nat → Int → List Int → Int → Int → Option (Int)
 | 0, _, _, _, _ => none
 | k + 1, x3, x6, x7, x8 => if x8 < x7 then (if 0 ≤ x8 then (if x8 < (x6.length : Int) then (if (rd x6 x8) = x3 then (cmp_Or_int.l0 k x3 x6 x7 (wrap64 (x8 + 1))) else (some (rd x6 x8))) else (none)) else (none)) else (some x3)
def cmp_Or_int.f (k : Nat) (l0 : List Int) : Option (Int) := cmp_Or_int.l0 k 0 l0 (l0.length : Int) 0
set_option maxHeartbeats 8000000 in
set_option maxRecDepth 100000 in
theorem cmp_Or_int.calls (k : Nat) (A0 : Option Addr) (c0 : Nat) (l0 : List Int) (r : Int) (w : World) (hr0 : Kd.C (Kd.int .i64) w A0 l0.length l0) (hc0 : l0.length ≤ c0) (h : cmp_Or_int.f k l0 = some r) :
 Calls Try.prog 112 #[.slice A0 l0.length c0] w fun e w' => e = .returned (.int .i64 r) ∧ Drawn0 w w' := by
 have HR0 := Aside0.mk hr0
 have HC0 := Aside0.mk hc0
 clear hr0 hc0
 have H : (cmp_Or_int.l0 k 0 l0 (l0.length : Int) 0) = some r := h
 clear h
 have H' := Aside0.mk H
 clear H
 go_enter Try.func112, Try.ntmps112
 go_wp2
 go_loopg [8] k (fun kq v8 w' => ∃ (x8_1 : Int), v8 = .int .i64 x8_1 ∧ Aside0 (cmp_Or_int.l0 kq 0 l0 (l0.length : Int) x8_1 = some r) ∧ Aside0 (kq ≤ k) ∧ Drawn0 w w')
 case atStart => exact ⟨(0), sr, H', ⟨Nat.le_refl _⟩, dz⟩
 case round =>
  clear H'
  try clear c1
  obtain ⟨x8_1, rfl, HA, HK1, ⟨m1, rfl⟩⟩ := hrel
  cases gk with
  | zero => exact absurd HA.out (by simp [cmp_Or_int.l0])
  | succ k1 =>
   have H := HA.out
   clear HA
   simp only [cmp_Or_int.l0] at H
   by_cases c2 : x8_1 < (l0.length : Int)
   ·rw [if_pos c2] at H
    have c2b0 : decide (x8_1 < (l0.length : Int)) = true := decide_eq_true c2
    clear c2
    by_cases c3 : 0 ≤ x8_1
    ·rw [if_pos c3] at H
     have c3b0 : decide (0 ≤ x8_1) = true := decide_eq_true c3
     clear c3
     by_cases c4 : x8_1 < (l0.length : Int)
     ·rw [if_pos c4] at H
      have c4b0 : decide (x8_1 < (l0.length : Int)) = true := decide_eq_true c4
      clear c4
      by_cases c5 : (rd l0 x8_1) = 0
      ·rw [if_pos c5] at H
       have c5b0 : ((rd l0 x8_1) == 0) = true := beq_iff_eq.mpr c5
       have c5b1 : ((rd l0 x8_1) != 0) = false := bne_eq_false_iff_eq.mpr c5
       clear c5
       have H' := Aside0.mk H
       clear H
       have p231 : 0 ≤ (x8_1 : Int) := of_decide_eq_true am
       have q231 : x8_1 < (l0.length : Int) := of_decide_eq_true am
       obtain ⟨ad231, e231, hx231_0⟩ := Kd.at_int HR0.out x8_1 p231 q231
       cases e231
       replace p231 := eq_true p231
       replace q231 := eq_true q231
       go_wp2
       go_roundg k1
       case measure => have := HK1.out; omega
       case rel => exact ⟨(wrap64 (x8_1 + 1)), sr, H', ⟨by have := HK1.out; omega⟩, dz⟩
      ·rw [if_neg c5] at H
       have c5b0 : ((rd l0 x8_1) == 0) = false := beq_eq_false_iff_ne.mpr c5
       have c5b1 : ((rd l0 x8_1) != 0) = true := bne_iff_ne.mpr c5
       obtain rfl := Option.some.inj H
       have p231 : 0 ≤ (x8_1 : Int) := of_decide_eq_true am
       have q231 : x8_1 < (l0.length : Int) := of_decide_eq_true am
       obtain ⟨ad231, e231, hx231_0⟩ := Kd.at_int HR0.out x8_1 p231 q231
       cases e231
       replace p231 := eq_true p231
       replace q231 := eq_true q231
       go_wp2
       go_ret
       exact ⟨sr, dz⟩
     ·rw [if_neg c4] at H
      exact absurd H (by simp)
    ·rw [if_neg c3] at H
     exact absurd H (by simp)
   ·rw [if_neg c2] at H
    have c2b0 : decide (x8_1 < (l0.length : Int)) = false := decide_eq_false c2
    clear c2
    obtain rfl := Option.some.inj H
    go_wp2
    go_ret
    exact ⟨sr, dz⟩
def cmp_isNaN_uint64.f (a0 : Int) : Option (Bool) := some (a0 != a0)
set_option maxHeartbeats 8000000 in
set_option maxRecDepth 100000 in
theorem cmp_isNaN_uint64.calls (a0 : Int) (r : Bool) (w : World) (h : cmp_isNaN_uint64.f a0 = some r) :
 Calls Try.prog 114 #[.int .u64 a0] w fun e w' => e = .returned (.bool r) ∧ Drawn0 w w' := by
 have H : (some (a0 != a0)) = some r := h
 clear h
 obtain rfl := Option.some.inj H
 go_enter Try.func114, Try.ntmps114
 go_wp2
 go_ret
 exact ⟨sr, dz⟩
def cmp_Compare_uint64.f (a0 : Int) (a1 : Int) : Option (Int) := (cmp_isNaN_uint64.f a0).bind fun t232 => ((cmp_isNaN_uint64.f a1).bind fun t233 => (if t232 = true then (if t233 = true then (some 0) else (some (-1))) else (if t233 = true then (some 1) else (if a0 < a1 then (some (-1)) else (if a0 > a1 then (some 1) else (some 0))))))
set_option maxHeartbeats 8000000 in
set_option maxRecDepth 100000 in
theorem cmp_Compare_uint64.calls (a0 : Int) (a1 : Int) (r : Int) (w : World) (h : cmp_Compare_uint64.f a0 a1 = some r) :
 Calls Try.prog 113 #[.int .u64 a0, .int .u64 a1] w fun e w' => e = .returned (.int .i64 r) ∧ Drawn0 w w' := by
 have H : ((cmp_isNaN_uint64.f a0).bind fun t232 => ((cmp_isNaN_uint64.f a1).bind fun t233 => (if t232 = true then (if t233 = true then (some 0) else (some (-1))) else (if t233 = true then (some 1) else (if a0 < a1 then (some (-1)) else (if a0 > a1 then (some 1) else (some 0))))))) = some r := h
 clear h
 obtain ⟨t232, A3, H⟩ := bi H
 obtain ⟨t233, A4, H⟩ := bi H
 by_cases c5 : t232 = true
 ·subst c5
  rw [if_pos rfl] at H
  by_cases c6 : t233 = true
  ·subst c6
   rw [if_pos rfl] at H
   obtain rfl := Option.some.inj H
   go_enter Try.func113, Try.ntmps113
   go_wp2_with (first | ((with_reducible refine gate_callee (f := 114) rfl ?_); refine goesL_ (some 8) rfl rfl Try.func114 kf rfl #[.int .u64 a0] rfl sm ?_; (with_reducible refine (cmp_isNaN_uint64.calls a0 true _ A3.out).mono ?_); rintro e w' ⟨rfl, ⟨nd, rfl⟩⟩; refine ⟨_, rfl, ?_⟩) | ((with_reducible refine gate_callee (f := 114) rfl ?_); refine goesL_ (some 10) rfl rfl Try.func114 kf rfl #[.int .u64 a1] rfl sm ?_; (with_reducible refine (cmp_isNaN_uint64.calls a1 true _ A4.out).mono ?_); rintro e w' ⟨rfl, ⟨nd, rfl⟩⟩; refine ⟨_, rfl, ?_⟩))
   go_ret
   exact ⟨sr, dz⟩
  ·replace c6 := Bool.eq_false_iff.mpr c6
   subst c6
   rw [if_neg (show ¬ (false = true) by decide)] at H
   obtain rfl := Option.some.inj H
   go_enter Try.func113, Try.ntmps113
   go_wp2_with (first | ((with_reducible refine gate_callee (f := 114) rfl ?_); refine goesL_ (some 8) rfl rfl Try.func114 kf rfl #[.int .u64 a0] rfl sm ?_; (with_reducible refine (cmp_isNaN_uint64.calls a0 true _ A3.out).mono ?_); rintro e w' ⟨rfl, ⟨nd, rfl⟩⟩; refine ⟨_, rfl, ?_⟩) | ((with_reducible refine gate_callee (f := 114) rfl ?_); refine goesL_ (some 10) rfl rfl Try.func114 kf rfl #[.int .u64 a1] rfl sm ?_; (with_reducible refine (cmp_isNaN_uint64.calls a1 false _ A4.out).mono ?_); rintro e w' ⟨rfl, ⟨nd, rfl⟩⟩; refine ⟨_, rfl, ?_⟩))
   go_ret
   exact ⟨sr, dz⟩
 ·replace c5 := Bool.eq_false_iff.mpr c5
  subst c5
  rw [if_neg (show ¬ (false = true) by decide)] at H
  by_cases c7 : t233 = true
  ·subst c7
   rw [if_pos rfl] at H
   obtain rfl := Option.some.inj H
   go_enter Try.func113, Try.ntmps113
   go_wp2_with (first | ((with_reducible refine gate_callee (f := 114) rfl ?_); refine goesL_ (some 8) rfl rfl Try.func114 kf rfl #[.int .u64 a0] rfl sm ?_; (with_reducible refine (cmp_isNaN_uint64.calls a0 false _ A3.out).mono ?_); rintro e w' ⟨rfl, ⟨nd, rfl⟩⟩; refine ⟨_, rfl, ?_⟩) | ((with_reducible refine gate_callee (f := 114) rfl ?_); refine goesL_ (some 10) rfl rfl Try.func114 kf rfl #[.int .u64 a1] rfl sm ?_; (with_reducible refine (cmp_isNaN_uint64.calls a1 true _ A4.out).mono ?_); rintro e w' ⟨rfl, ⟨nd, rfl⟩⟩; refine ⟨_, rfl, ?_⟩))
   go_ret
   exact ⟨sr, dz⟩
  ·replace c7 := Bool.eq_false_iff.mpr c7
   subst c7
   rw [if_neg (show ¬ (false = true) by decide)] at H
   by_cases c8 : a0 < a1
   ·rw [if_pos c8] at H
    have c8b0 : decide (a0 < a1) = true := decide_eq_true c8
    clear c8
    obtain rfl := Option.some.inj H
    go_enter Try.func113, Try.ntmps113
    go_wp2_with (first | ((with_reducible refine gate_callee (f := 114) rfl ?_); refine goesL_ (some 8) rfl rfl Try.func114 kf rfl #[.int .u64 a0] rfl sm ?_; (with_reducible refine (cmp_isNaN_uint64.calls a0 false _ A3.out).mono ?_); rintro e w' ⟨rfl, ⟨nd, rfl⟩⟩; refine ⟨_, rfl, ?_⟩) | ((with_reducible refine gate_callee (f := 114) rfl ?_); refine goesL_ (some 10) rfl rfl Try.func114 kf rfl #[.int .u64 a1] rfl sm ?_; (with_reducible refine (cmp_isNaN_uint64.calls a1 false _ A4.out).mono ?_); rintro e w' ⟨rfl, ⟨nd, rfl⟩⟩; refine ⟨_, rfl, ?_⟩))
    go_ret
    exact ⟨sr, dz⟩
   ·rw [if_neg c8] at H
    have c8b0 : decide (a0 < a1) = false := decide_eq_false c8
    clear c8
    by_cases c9 : a0 > a1
    ·rw [if_pos c9] at H
     have c9b0 : decide (a1 < a0) = true := decide_eq_true c9
     clear c9
     obtain rfl := Option.some.inj H
     go_enter Try.func113, Try.ntmps113
     go_wp2_with (first | ((with_reducible refine gate_callee (f := 114) rfl ?_); refine goesL_ (some 8) rfl rfl Try.func114 kf rfl #[.int .u64 a0] rfl sm ?_; (with_reducible refine (cmp_isNaN_uint64.calls a0 false _ A3.out).mono ?_); rintro e w' ⟨rfl, ⟨nd, rfl⟩⟩; refine ⟨_, rfl, ?_⟩) | ((with_reducible refine gate_callee (f := 114) rfl ?_); refine goesL_ (some 10) rfl rfl Try.func114 kf rfl #[.int .u64 a1] rfl sm ?_; (with_reducible refine (cmp_isNaN_uint64.calls a1 false _ A4.out).mono ?_); rintro e w' ⟨rfl, ⟨nd, rfl⟩⟩; refine ⟨_, rfl, ?_⟩))
     go_ret
     exact ⟨sr, dz⟩
    ·rw [if_neg c9] at H
     have c9b0 : decide (a1 < a0) = false := decide_eq_false c9
     clear c9
     obtain rfl := Option.some.inj H
     go_enter Try.func113, Try.ntmps113
     go_wp2_with (first | ((with_reducible refine gate_callee (f := 114) rfl ?_); refine goesL_ (some 8) rfl rfl Try.func114 kf rfl #[.int .u64 a0] rfl sm ?_; (with_reducible refine (cmp_isNaN_uint64.calls a0 false _ A3.out).mono ?_); rintro e w' ⟨rfl, ⟨nd, rfl⟩⟩; refine ⟨_, rfl, ?_⟩) | ((with_reducible refine gate_callee (f := 114) rfl ?_); refine goesL_ (some 10) rfl rfl Try.func114 kf rfl #[.int .u64 a1] rfl sm ?_; (with_reducible refine (cmp_isNaN_uint64.calls a1 false _ A4.out).mono ?_); rintro e w' ⟨rfl, ⟨nd, rfl⟩⟩; refine ⟨_, rfl, ?_⟩))
     go_ret
     exact ⟨sr, dz⟩
def impl_compareSizes.f (k : Nat) (a0_0 : Bool) (a0_1 : Int) (a0_2 : Int) (a1_0 : Bool) (a1_1 : Int) (a1_2 : Int) : Option (Int) := (cmp_Compare_uint64.f a0_1 a1_1).bind fun t236 => ((cmp_Compare_uint64.f a0_2 a1_2).bind fun t237 => ((cmp_Or_int.f k (([t236, t237] : List Int))).bind fun t241 => (some t241)))
def impl_compareSizes.T1 : Bool × List (List Nat × List Nat) := (true, [([], []), ([0], [0]), ([], []), ([2], [2]), ([1, 3], [1, 3]), ([], []), ([5], [5]), ([], []), ([7], [7]), ([6, 8, 4], [6, 8]), ([4, 9], [4, 9]), ([10, 9], [10]), ([11, 11, 0, 1, 2, 3, 4, 5, 6, 7, 8, 9, 10, 11], [11])])
def impl_compareSizes.B1 : List Nat := [0, 1, 0, 4, 15, 0, 32, 0, 128, 511, 1023, 2047, 4095]
theorem impl_compareSizes.tab1 : rtab .any (opsOf Try.f104 1) = impl_compareSizes.T1 := by kernel_rfl
theorem impl_compareSizes.bits1 : waitsOk impl_compareSizes.T1.2 impl_compareSizes.B1 = true := by kernel_rfl
set_option maxHeartbeats 8000000 in
set_option maxRecDepth 100000 in
theorem impl_compareSizes.calls (k : Nat) (a0_0 : Bool) (a0_1 : Int) (a0_2 : Int) (a1_0 : Bool) (a1_1 : Int) (a1_2 : Int) (r : Int) (w : World) (h : impl_compareSizes.f k a0_0 a0_1 a0_2 a1_0 a1_1 a1_2 = some r) :
 Calls Try.prog 104 #[.agg #[.bool a0_0, .int .u64 a0_1, .int .u64 a0_2], .agg #[.bool a1_0, .int .u64 a1_1, .int .u64 a1_2]] w fun e w' => e = .returned (.int .i64 r) ∧ Below w.heap.size w w' := by
 have hu62 := Try.underlying62
 have HB := Aside0.mk (Below.refl w.heap.size w)
 have H : ((cmp_Compare_uint64.f a0_1 a1_1).bind fun t236 => ((cmp_Compare_uint64.f a0_2 a1_2).bind fun t237 => ((cmp_Or_int.f k (([t236, t237] : List Int))).bind fun t241 => (some t241)))) = some r := h
 clear h
 obtain ⟨t236, A3, H⟩ := bi H
 obtain ⟨t237, A4, H⟩ := bi H
 obtain ⟨y238, hy238⟩ : ∃ y_ : List Int, y_ = (([t236, t237] : List Int)) := ⟨_, rfl⟩
 replace H : ((cmp_Or_int.f k y238).bind fun t241 => (some t241)) = some r := by first | (rw [hy238]; with_reducible exact H) | (have H2_ := (Option.bind_some _ _).symm.trans H; rw [hy238]; with_reducible exact H2_) | (have H2_ := (Option.bind_some _ _).symm.trans H; with_reducible exact H2_) | with_reducible exact H | (rw [hy238]; exact H) | exact H
 have Ny238 := Aside0.mk hy238
 clear hy238
 obtain ⟨t241, A5, H⟩ := bi H
 obtain rfl := Option.some.inj H
 go_enter Try.func104, Try.ntmps104
 try go_wp2_with (first | ((with_reducible refine gate_dst (N := 2) rfl ?_); refine bv (N := 2) (cs := #[.bool a0_0, .int .u64 a0_1, .int .u64 a0_2]) (t := 62) ?_; intro gb234 hg w6 hbox hb; have n0_ := Aside0.mk (below_step bz hb); have n1_ := Aside0.mk (hbox); have n2_ := (gz hg : Aside0 (w.heap.size ≤ _)); have n3_ := (gz hg : Aside0 (w.heap.size ≤ _)); clear HB; have HB := n0_; have BK234 := n1_; have GW234 := n2_; have GE234 := n3_; clear n0_ n1_ n2_ n3_; clear hb hbox hg) | ((with_reducible refine gate_dst (N := 3) rfl ?_); refine bv (N := 3) (cs := #[.bool a1_0, .int .u64 a1_1, .int .u64 a1_2]) (t := 62) ?_; intro gb235 hg w7 hbox hb; have n0_ := bb BK234 hb; have n1_ := Aside0.mk (below_step (bz1 GE234) hb); have n2_ := Aside0.mk (hbox); have n3_ := Aside0.mk ((by rw [hg]; exact (below_size (bz1 GE234)) : w.heap.size ≤ gb235)); have n4_ := Aside0.mk ((by rw [hg]; exact (below_size (bz1 GE234)) : w.heap.size ≤ gb235)); have n5_ := Aside0.mk ((by rw [hg]; exact Nat.ne_of_lt (blk_lt (g := gb234) (o := .cells #[.bool a0_0, .int .u64 a0_1, .int .u64 a0_2] 62 (0, 0)) (bk BK234)) : gb234 ≠ gb235)); have n6_ := Aside0.mk ((by rw [hg]; exact Nat.ne_of_gt (blk_lt (g := gb234) (o := .cells #[.bool a0_0, .int .u64 a0_1, .int .u64 a0_2] 62 (0, 0)) (bk BK234)) : gb235 ≠ gb234)); have n7_ := Aside0.mk ((by rw [hg]; exact blk_lt (g := gb234) (o := .cells #[.bool a0_0, .int .u64 a0_1, .int .u64 a0_2] 62 (0, 0)) (bk BK234) : gb234 < gb235)); clear BK234; clear HB; have BK234 := n0_; have HB := n1_; have BK235 := n2_; have GW235 := n3_; have GE235 := n4_; have NB234_235 := n5_; have NB235_234 := n6_; have LT234_235 := n7_; clear n0_ n1_ n2_ n3_ n4_ n5_ n6_ n7_; clear hb hbox hg))
 have n0_ := Aside0.mk (blk_drew BK234.out)
 have n1_ := Aside0.mk (blk_drew BK235.out)
 have n2_ := Aside0.mk (below_drew1 HB.out)
 clear BK234 BK235 HB
 have BK234 := n0_
 have BK235 := n1_
 have HB := n2_
 clear n0_ n1_ n2_
 refine start_ (n := 13) (S := fun w' => w'.cell? ⟨gb234, 0, none⟩ = some (.bool a0_0) ∧ w'.cell? ⟨gb234, 1, none⟩ = some (.int .u64 a0_1) ∧ w'.cell? ⟨gb234, 2, none⟩ = some (.int .u64 a0_2) ∧ w'.cell? ⟨gb235, 0, none⟩ = some (.bool a1_0) ∧ w'.cell? ⟨gb235, 1, none⟩ = some (.int .u64 a1_1) ∧ w'.cell? ⟨gb235, 2, none⟩ = some (.int .u64 a1_2)) (ds := []) #[fF, fF, fF, fF, fF, fF, fF, fF, fF, fF, fF, fF, fF] kf rfl rfl ⟨(blk_cell BK234.out 0).trans rfl, (blk_cell BK234.out 1).trans rfl, (blk_cell BK234.out 2).trans rfl, (blk_cell BK235.out 0).trans rfl, (blk_cell BK235.out 1).trans rfl, (blk_cell BK235.out 2).trans rfl⟩ (fun hHeld => ?_); refine with_tabW impl_compareSizes.tab1 impl_compareSizes.bits1 (fun HT_ HW_ => ?_)
 generalize w7.drew = w8 at BK234 BK235 HB hHeld ⊢
 refine pq (i := 0) (N := some 5) #[tT, fF, fF, fF, fF, fF, fF, fF, fF, fF, fF, fF, fF] rfl rfl HT_.out ?_
 refine pq (i := 2) (N := some 7) #[tT, fF, tT, fF, fF, fF, fF, fF, fF, fF, fF, fF, fF] rfl rfl HT_.out ?_
 refine pq (i := 5) (N := some 10) #[tT, fF, tT, fF, fF, tT, fF, fF, fF, fF, fF, fF, fF] rfl rfl HT_.out ?_
 refine pq (i := 7) (N := some 12) #[tT, fF, tT, fF, fF, tT, fF, tT, fF, fF, fF, fF, fF] rfl rfl HT_.out ?_
 refine tq6 (i := 1) (N := some 6) #[tT, tT, tT, fF, fF, tT, fF, tT, fF, fF, fF, fF, fF] rfl rfl HT_.out HW_.out hHeld ?_
 refine tq6 (i := 3) (N := some 8) #[tT, tT, tT, tT, fF, tT, fF, tT, fF, fF, fF, fF, fF] rfl rfl HT_.out HW_.out hHeld ?_
 refine tq6 (i := 6) (N := some 11) #[tT, tT, tT, tT, fF, tT, tT, tT, fF, fF, fF, fF, fF] rfl rfl HT_.out HW_.out hHeld ?_
 refine tq6 (i := 8) (N := some 13) #[tT, tT, tT, tT, fF, tT, tT, tT, tT, fF, fF, fF, fF] rfl rfl HT_.out HW_.out hHeld ?_
 refine one_ (i := 4) (N := some 9) #[tT, tT, tT, tT, tT, tT, tT, tT, tT, fF, fF, fF, fF] rfl rfl (one_of HT_.out kf) (by decide) (fun K hK => ?_)
 refine goes_ Try.func113 kf rfl #[.int .u64 a0_1, .int .u64 a1_1] (by rfl) rfl rfl sm ?_
 with_reducible refine (cmp_Compare_uint64.calls a0_1 a1_1 t236 _ A3.out).mono ?_
 rintro e w' ⟨rfl, ⟨nd, rfl⟩⟩
 refine ⟨_, rfl, ?_⟩
 refine hK.out _ _ ⟨(blk_cell BK234.out 0).trans rfl, (blk_cell BK234.out 1).trans rfl, (blk_cell BK234.out 2).trans rfl, (blk_cell BK235.out 0).trans rfl, (blk_cell BK235.out 1).trans rfl, (blk_cell BK235.out 2).trans rfl⟩ (fun hHeld => ?_)
 clear hK K
 refine norm_ (a' := ?_) ?_ ?_
 rotate_left
 ·show Act.put _ (some 9) _ = _
  simp only [Act.put, List.setIfInBounds_toArray, List.set_cons_zero, List.set_cons_succ, i64_w, i32_w]
  rfl
 refine one_ (i := 9) (N := some 14) #[tT, tT, tT, tT, tT, tT, tT, tT, tT, tT, fF, fF, fF] rfl rfl (one_of HT_.out kf) (by decide) (fun K hK => ?_)
 refine goes_ Try.func113 kf rfl #[.int .u64 a0_2, .int .u64 a1_2] (by rfl) rfl rfl sm ?_
 with_reducible refine (cmp_Compare_uint64.calls a0_2 a1_2 t237 _ A4.out).mono ?_
 rintro e w' ⟨rfl, ⟨nd, rfl⟩⟩
 refine ⟨_, rfl, ?_⟩
 refine hK.out _ _ ⟨(blk_cell BK234.out 0).trans rfl, (blk_cell BK234.out 1).trans rfl, (blk_cell BK234.out 2).trans rfl, (blk_cell BK235.out 0).trans rfl, (blk_cell BK235.out 1).trans rfl, (blk_cell BK235.out 2).trans rfl⟩ (fun hHeld => ?_)
 clear hK K
 refine norm_ (a' := ?_) ?_ ?_
 rotate_left
 ·show Act.put _ (some 14) _ = _
  simp only [Act.put, List.setIfInBounds_toArray, List.set_cons_zero, List.set_cons_succ, i64_w, i32_w]
  rfl
 refine one_ (i := 10) (N := some 15) #[tT, tT, tT, tT, tT, tT, tT, tT, tT, tT, tT, fF, fF] rfl rfl (one_of HT_.out kf) (by decide) (fun K hK => ?_)
 refine Kd.R_lit_step (Kd.int .i64) _ 3 ?hg (N := 15) ?hd (xs := ([t236, t237] : List Int)) (inner := [.int .i64 t236, .int .i64 t237]) (ok := fun _ => True) (okp := fun _ => True) ?hr ?hp (fun _ hk => hk) trivial (Below.refl _ _) (Nat.le_refl _) (by simp) ?_; (case hd => rfl); (case hg => rfl); (case hr => first | (go_simp; done) | (go_simp; rfl)); (case hp => exact (Reps.one (show Kd.M (Kd.int .i64) _ _ _ t236 [.int .i64 t236] from rfl) (Reps.one (show Kd.M (Kd.int .i64) _ _ _ t237 [.int .i64 t237] from rfl) (Reps.none _ _))))
 intro v239 w9 ho10 hb hg_ hnew_
 clear hg_ hnew_
 (first | rw [← Ny238.out] at ho10 | (simp only [Int.reduceToNat] at ho10; rw [← Ny238.out] at ho10))
 have n0_ := Aside0.mk (Kd.R_lower ho10 (below_size (bz2 GE234 GE235)))
 have n1_ := bb BK234 hb
 have n2_ := bb BK235 hb
 have n3_ := Aside0.mk (below_step (bz2 GE234 GE235) hb)
 clear BK234 BK235 HB
 have HO240 := n0_
 have BK234 := n1_
 have BK235 := n2_
 have HB := n3_
 clear n0_ n1_ n2_ n3_ hb ho10
 obtain ⟨Ao11, co11, eo11⟩ := Kd.R_slice HO240.out
 (first | subst eo11 | (injection eo11 with f1_ f2_ f3_; have f4_ := f1_.symm; have f5_ := f3_.symm; clear f1_ f2_ f3_; subst f4_; subst f5_))
 refine hK.out _ _ ⟨(blk_cell BK234.out 0).trans rfl, (blk_cell BK234.out 1).trans rfl, (blk_cell BK234.out 2).trans rfl, (blk_cell BK235.out 0).trans rfl, (blk_cell BK235.out 1).trans rfl, (blk_cell BK235.out 2).trans rfl⟩ (fun hHeld => ?_)
 clear hK K
 refine norm_ (a' := ?_) ?_ ?_
 rotate_left
 ·show Act.put _ (some 15) _ = _
  simp only [Act.put, List.setIfInBounds_toArray, List.set_cons_zero, List.set_cons_succ, i64_w, i32_w]
  rfl
 refine one_ (i := 11) (N := some 16) #[tT, tT, tT, tT, tT, tT, tT, tT, tT, tT, tT, tT, fF] rfl rfl (one_of HT_.out kf) (by decide) (fun K hK => ?_)
 refine goes_ Try.func112 kf rfl #[.slice Ao11 y238.length co11] (by rfl) rfl rfl sm ?_
 with_reducible refine (cmp_Or_int.calls k _ _ y238 t241 _ ?side1 ?side2 A5.out).mono ?_
 (case side1 => exact cr HO240)
 (case side2 => exact (Kd.R_reads' HO240.out).2.1)
 rintro e w' ⟨rfl, ⟨nd, rfl⟩⟩
 refine ⟨_, rfl, ?_⟩
 refine hK.out _ _ ⟨(blk_cell BK234.out 0).trans rfl, (blk_cell BK234.out 1).trans rfl, (blk_cell BK234.out 2).trans rfl, (blk_cell BK235.out 0).trans rfl, (blk_cell BK235.out 1).trans rfl, (blk_cell BK235.out 2).trans rfl⟩ (fun hHeld => ?_)
 clear hK K
 refine norm_ (a' := ?_) ?_ ?_
 rotate_left
 ·show Act.put _ (some 16) _ = _
  simp only [Act.put, List.setIfInBounds_toArray, List.set_cons_zero, List.set_cons_succ, i64_w, i32_w]
  rfl
 refine pq (i := 12) (N := some 4) #[tT, tT, tT, tT, tT, tT, tT, tT, tT, tT, tT, tT, tT] rfl rfl HT_.out ?_
 refine done_ (done_of HT_.out kf) ?_
 try go_wp2
 go_ret
 exact ⟨er, bz2 GE234 GE235⟩
end Go.Proofs.Ytneceomekgophaa.QDys
