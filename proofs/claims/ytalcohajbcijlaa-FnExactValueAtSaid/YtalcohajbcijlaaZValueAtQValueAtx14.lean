import Derived.Test.YtalcohajbcijlaaZValueAtSq
import Derived.Test.YtalcohajbcijlaaZValueAtQValueAtx2
import Derived.Test.YtalcohajbcijlaaZValueAtQValueAtx9
import Derived.Test.YtalcohajbcijlaaZValueAtQValueAtx11
namespace Go.Proofs.Ytalcohajbcijlaa.QValueAt
open Go.RowKit Go.Proofs.YtalcohajbcijlaaW.PrintWords Go.Proofs.YtalcohajbcijlaaW.PrintLast Go.Proofs.YtalcohajbcijlaaW.PrintMore
attribute [local go_sem] max2_int min2_int max_two min_two max_three min_three max_four min_four
set_option linter.unusedVariables false
set_option linter.unusedSimpArgs false
mutual
def impl_scaledAt.l0 : Nat → List (S44) → Int → List (S107) → Int → Int → Option (Int)
 | 0, _, _, _, _, _ => none
 | k + 1, x1, x5, x11, x12, x13 => if x13 < x12 then (if 0 ≤ x13 then (if x13 < (x11.length : Int) then ((impl_Term_degree.f ((rd_T107 x11 x13).f0) ((rd_T107 x11 x13).f1) ((rd_T107 x11 x13).f2) ((rd_T107 x11 x13).f3)).bind fun t231 => (if 0 ≤ (wrap64 (9 * (wrap64 (4 - t231)))) then ((impl_Term_exponents.f ((rd_T107 x11 x13).f0) ((rd_T107 x11 x13).f1) ((rd_T107 x11 x13).f2) ((rd_T107 x11 x13).f3)).bind fun bt232 => (impl_scaledAt.l1 k x1 x5 (shl .i64 ((rd_T107 x11 x13).f0) (wrap64 (9 * (wrap64 (4 - t231))))) x11 x12 x13 0 bt232.1 bt232.2.1 bt232.2.2)) else (none))) else (none)) else (none)) else (some x5)
def impl_scaledAt.l1 : Nat → List (S44) → Int → Int → List (S107) → Int → Int → Int → Int → Int → Int → Option (Int)
 | 0, _, _, _, _, _, _, _, _, _, _ => none
 | k + 1, x1, x5, x8, x11, x12, x13, x26, x575, x576, x577 => if x26 < 3 then (if 0 ≤ x26 then (impl_scaledAt.l2 k x1 x5 x8 x26 x11 x12 x13 x26 (ix3 x575 x576 x577 x26) 0 x575 x576 x577) else (none)) else (impl_scaledAt.l0 k x1 (wrap64 (x5 + x8)) x11 x12 (wrap64 (x13 + 1)))
def impl_scaledAt.l2 : Nat → List (S44) → Int → Int → Int → List (S107) → Int → Int → Int → Int → Int → Int → Int → Int → Option (Int)
 | 0, _, _, _, _, _, _, _, _, _, _, _, _, _ => none
 | k + 1, x1, x5, x8, x9, x11, x12, x13, x26, x30, x31, x575, x576, x577 => if x31 < x30 then (if 0 ≤ x9 then (if x9 < (x1.length : Int) then (if 0 ≤ (wrap64 (9 - ((rd_T44 x1 x9).f1))) then (impl_scaledAt.l2 k x1 x5 (wrap64 (x8 * (shl .i64 ((rd_T44 x1 x9).f0) (wrap64 (9 - ((rd_T44 x1 x9).f1)))))) x9 x11 x12 x13 x26 x30 (wrap64 (x31 + 1)) x575 x576 x577) else (none)) else (none)) else (none)) else (impl_scaledAt.l1 k x1 x5 x8 x11 x12 x13 (wrap64 (x26 + 1)) x575 x576 x577)
end
def impl_scaledAt.f (k : Nat) (l0 : List (S107)) (l1 : List (S44)) : Option (Int) := impl_scaledAt.l0 k l1 0 l0 (l0.length : Int) 0
def impl_scaledAt.T5 : Bool × List (List Nat × List Nat) := (true, [([], []), ([0], [0]), ([], []), ([2], [2]), ([3], [3]), ([4], [4]), ([1, 5], [1, 5]), ([6, 3, 0, 1, 2, 3, 4, 5, 6], [6])])
def impl_scaledAt.B5 : List Nat := [0, 1, 0, 4, 12, 28, 63, 127]
theorem impl_scaledAt.tab5 : rtab .any (opsOf Try.f82 5) = impl_scaledAt.T5 := by kernel_rfl
theorem impl_scaledAt.bits5 : waitsOk impl_scaledAt.T5.2 impl_scaledAt.B5 = true := by kernel_rfl
def impl_scaledAt.T11 : Bool × List (List Nat × List Nat) := (true, [([], []), ([], []), ([], []), ([1, 2], [1, 2]), ([3], [3]), ([4], [4]), ([], []), ([], []), ([6, 7], [6, 7]), ([8], [8]), ([9], [9]), ([10], [10]), ([5, 11], [5, 11]), ([0, 12], [0, 12]), ([13, 0, 1, 2, 3, 4, 5, 6, 7, 8, 9, 10, 11, 12, 13], [0, 13])])
def impl_scaledAt.B11 : List Nat := [0, 0, 0, 6, 14, 30, 0, 0, 192, 448, 960, 1984, 4094, 8191, 16383]
theorem impl_scaledAt.tab11 : rtab .any (opsOf Try.f82 11) = impl_scaledAt.T11 := by kernel_rfl
theorem impl_scaledAt.bits11 : waitsOk impl_scaledAt.T11.2 impl_scaledAt.B11 = true := by kernel_rfl
set_option maxHeartbeats 8000000 in
set_option maxRecDepth 100000 in
theorem impl_scaledAt.calls (k : Nat) (A0 : Option Addr) (c0 : Nat) (l0 : List (S107)) (A1 : Option Addr) (c1 : Nat) (l1 : List (S44)) (r : Int) (w : World) (hr0 : Kd.C k107 w A0 l0.length l0) (hc0 : l0.length ≤ c0) (hr1 : Kd.C k44 w A1 l1.length l1) (hc1 : l1.length ≤ c1) (h : impl_scaledAt.f k l0 l1 = some r) :
 Calls Try.prog 82 #[.slice A0 l0.length c0, .slice A1 l1.length c1] w fun e w' => e = .returned (.int .i64 r) ∧ Below w.heap.size w w' := by
 have hu107 := Try.underlying107
 have HR0 := Aside0.mk hr0
 have HC0 := Aside0.mk hc0
 clear hr0 hc0
 have HR1 := Aside0.mk hr1
 have HC1 := Aside0.mk hc1
 clear hr1 hc1
 have HB := Aside0.mk (Below.refl w.heap.size w)
 have H : (impl_scaledAt.l0 k l1 0 l0 (l0.length : Int) 0) = some r := h
 clear h
 have H' := Aside0.mk H
 clear H
 go_enter Try.func82, Try.ntmps82
 go_wp2
 go_loopg [5, 13] k (fun kq v5 v13 w' => ∃ (x5_1 : Int) (x13_1 : Int), v5 = .int .i64 x5_1 ∧ v13 = .int .i64 x13_1 ∧ Aside0 (impl_scaledAt.l0 kq l1 x5_1 l0 (l0.length : Int) x13_1 = some r) ∧ Aside0 (kq ≤ k) ∧ Aside0 (Below w.heap.size w w'))
 case atStart => exact ⟨(0), (0), sr, sr, H', ⟨Nat.le_refl _⟩, ⟨bz⟩⟩
 case round =>
  clear H'
  try clear c1; try clear p2
  obtain ⟨x5_1, x13_1, rfl, rfl, HA, HK1, HB⟩ := hrel
  cases gk with
  | zero => exact absurd HA.out (by simp [impl_scaledAt.l0])
  | succ k1 =>
   have H := HA.out
   clear HA
   simp only [impl_scaledAt.l0] at H
   by_cases c3 : x13_1 < (l0.length : Int)
   ·rw [if_pos c3] at H
    have c3b0 : decide (x13_1 < (l0.length : Int)) = true := decide_eq_true c3
    clear c3
    by_cases c4 : 0 ≤ x13_1
    ·rw [if_pos c4] at H
     have c4b0 : decide (0 ≤ x13_1) = true := decide_eq_true c4
     clear c4
     by_cases c5 : x13_1 < (l0.length : Int)
     ·rw [if_pos c5] at H
      have c5b0 : decide (x13_1 < (l0.length : Int)) = true := decide_eq_true c5
      clear c5
      obtain ⟨t231, A6, H⟩ := bi H
      obtain ⟨ji7, hji7⟩ : ∃ j_ : Int, (wrap64 (9 * (wrap64 (4 - t231)))) = j_ := ⟨_, rfl⟩
      first | rw [hji7] at H | simp only [hji7] at H
      (try rw [hji7] at A6)
      have hji7w : (IntKind.i64.wrap (9 * (wrap64 (4 - t231)))) = ji7 := (i64_w _).trans hji7
      by_cases c8 : 0 ≤ (ji7)
      ·rw [if_pos c8] at H
       have c8b0 := eq_true c8
       have c8b1 : decide (0 ≤ (ji7)) = true := decide_eq_true c8
       clear c8
       obtain ⟨ji9, hji9⟩ : ∃ j_ : Int, (shl .i64 ((rd_T107 l0 x13_1).f0) (ji7)) = j_ := ⟨_, rfl⟩
       first | rw [hji9] at H | simp only [hji9] at H
       (try rw [hji9] at A6)
       have hji9_ : (IntKind.i64.wrap (((rd_T107 l0 x13_1).f0) * 2 ^ min (ji7).toNat 64)) = ji9 := hji9
       have hji9z : (ji7) ≤ 64 → (IntKind.i64.wrap (((rd_T107 l0 x13_1).f0) * 2 ^ (ji7).toNat)) = ji9 := shl_small hji9
       have hji9y : (wrap64 (((rd_T107 l0 x13_1).f0) * 2 ^ min (ji7).toNat 64)) = ji9 := (i64_w _).symm.trans hji9_
       have hji9x : (ji7) ≤ 64 → (wrap64 (((rd_T107 l0 x13_1).f0) * 2 ^ (ji7).toNat)) = ji9 := fun h_ => (i64_w _).symm.trans (hji9z h_)
       obtain ⟨⟨t232, t233, t234⟩, A10, H⟩ := bi H
       try dsimp only at H
       have H' := Aside0.mk H
       clear H
       have p229 : 0 ≤ (x13_1 : Int) := of_decide_eq_true am
       have q229 : x13_1 < (l0.length : Int) := of_decide_eq_true am
       obtain ⟨ad229, e229, hx229_0, hx229_1, hx229_2, hx229_3⟩ := at_T107 HR0.out x13_1 p229 q229
       cases e229
       replace hx229_0 := (HB.out.cell (World.block_lt_of_cell? w _ hx229_0)).trans hx229_0
       replace hx229_1 := (HB.out.cell (World.block_lt_of_cell? w _ hx229_1)).trans hx229_1
       replace hx229_2 := (HB.out.cell (World.block_lt_of_cell? w _ hx229_2)).trans hx229_2
       replace hx229_3 := (HB.out.cell (World.block_lt_of_cell? w _ hx229_3)).trans hx229_3
       replace p229 := eq_true p229
       replace q229 := eq_true q229
       try go_wp2_with (first | ((with_reducible refine gate_dst (N := 7) rfl ?_); refine bv (N := 7) (cs := #[.int .i64 0, .int .i64 0, .int .i64 0, .int .i64 0]) (t := 107) ?_; intro gb230 hg w11 hbox hb; have n0_ := Aside0.mk (below_step bz hb); have n1_ := Aside0.mk (hbox); have n2_ := (gz hg : Aside0 (w.heap.size ≤ _)); have n3_ := (gz hg : Aside0 (w.heap.size ≤ _)); clear HB; have HB := n0_; have BK230 := n1_; have GW230 := n2_; have GE230 := n3_; clear n0_ n1_ n2_ n3_; clear hb hbox hg; have hcz12_0 : w11.cell? ⟨gb230, 0, none⟩ = some (.int .i64 0) := (blk_cell BK230.out 0).trans rfl; have hcz12_1 : w11.cell? ⟨gb230, 1, none⟩ = some (.int .i64 0) := (blk_cell BK230.out 1).trans rfl; have hcz12_2 : w11.cell? ⟨gb230, 2, none⟩ = some (.int .i64 0) := (blk_cell BK230.out 2).trans rfl; have hcz12_3 : w11.cell? ⟨gb230, 3, none⟩ = some (.int .i64 0) := (blk_cell BK230.out 3).trans rfl; have hfz12_0 := blk_frozen BK230.out 0; have hfz12_1 := blk_frozen BK230.out 1; have hfz12_2 := blk_frozen BK230.out 2; have hfz12_3 := blk_frozen BK230.out 3))
       have n0_ : Aside0 (((((w11.setCell ⟨gb230, 0, none⟩ (.int .i64 ((rd_T107 l0 x13_1).f0))).setCell ⟨gb230, 1, none⟩ (.int .i64 ((rd_T107 l0 x13_1).f1))).setCell ⟨gb230, 2, none⟩ (.int .i64 ((rd_T107 l0 x13_1).f2))).setCell ⟨gb230, 3, none⟩ (.int .i64 ((rd_T107 l0 x13_1).f3))).heap[gb230]? = some (.cells #[.int .i64 ((rd_T107 l0 x13_1).f0), .int .i64 ((rd_T107 l0 x13_1).f1), .int .i64 ((rd_T107 l0 x13_1).f2), .int .i64 ((rd_T107 l0 x13_1).f3)] 107 (0, 0))) := ⟨by (with_reducible repeat (first | refine blk_drewN ?_ _ | refine blk_drew ?_ | refine blk_alloc ?_ _)); refine blk_put (cs := #[.int .i64 ((rd_T107 l0 x13_1).f0), .int .i64 ((rd_T107 l0 x13_1).f1), .int .i64 ((rd_T107 l0 x13_1).f2), .int .i64 0]) ?_ 3 _ rfl; (with_reducible repeat (first | refine blk_drewN ?_ _ | refine blk_drew ?_ | refine blk_alloc ?_ _)); refine blk_put (cs := #[.int .i64 ((rd_T107 l0 x13_1).f0), .int .i64 ((rd_T107 l0 x13_1).f1), .int .i64 0, .int .i64 0]) ?_ 2 _ rfl; (with_reducible repeat (first | refine blk_drewN ?_ _ | refine blk_drew ?_ | refine blk_alloc ?_ _)); refine blk_put (cs := #[.int .i64 ((rd_T107 l0 x13_1).f0), .int .i64 0, .int .i64 0, .int .i64 0]) ?_ 1 _ rfl; (with_reducible repeat (first | refine blk_drewN ?_ _ | refine blk_drew ?_ | refine blk_alloc ?_ _)); refine blk_put (cs := #[.int .i64 0, .int .i64 0, .int .i64 0, .int .i64 0]) ?_ 0 _ rfl; (with_reducible repeat (first | refine blk_drewN ?_ _ | refine blk_drew ?_ | refine blk_alloc ?_ _)); exact BK230.out⟩
       have n1_ : Aside0 (Below w.heap.size w ((((w11.setCell ⟨gb230, 0, none⟩ (.int .i64 ((rd_T107 l0 x13_1).f0))).setCell ⟨gb230, 1, none⟩ (.int .i64 ((rd_T107 l0 x13_1).f1))).setCell ⟨gb230, 2, none⟩ (.int .i64 ((rd_T107 l0 x13_1).f2))).setCell ⟨gb230, 3, none⟩ (.int .i64 ((rd_T107 l0 x13_1).f3)))) := ⟨bz1 GE230⟩
       (try clear BK230)
       (try clear HB)
       generalize ((((w11.setCell ⟨gb230, 0, none⟩ (.int .i64 ((rd_T107 l0 x13_1).f0))).setCell ⟨gb230, 1, none⟩ (.int .i64 ((rd_T107 l0 x13_1).f1))).setCell ⟨gb230, 2, none⟩ (.int .i64 ((rd_T107 l0 x13_1).f2))).setCell ⟨gb230, 3, none⟩ (.int .i64 ((rd_T107 l0 x13_1).f3))) = w13 at n0_ n1_ ⊢
       have BK230 := n0_
       have HB := n1_
       clear n0_ n1_
       have n0_ := Aside0.mk (blk_drew BK230.out)
       have n1_ := Aside0.mk (below_drew1 HB.out)
       clear BK230 HB
       have BK230 := n0_
       have HB := n1_
       clear n0_ n1_
       refine start_ (n := 8) (S := fun w' => w'.cell? ⟨gb230, 0, none⟩ = some (.int .i64 ((rd_T107 l0 x13_1).f0)) ∧ w'.cell? ⟨gb230, 1, none⟩ = some (.int .i64 ((rd_T107 l0 x13_1).f1)) ∧ w'.cell? ⟨gb230, 2, none⟩ = some (.int .i64 ((rd_T107 l0 x13_1).f2)) ∧ w'.cell? ⟨gb230, 3, none⟩ = some (.int .i64 ((rd_T107 l0 x13_1).f3))) (ds := []) #[fF, fF, fF, fF, fF, fF, fF, fF] kf rfl rfl ⟨(blk_cell BK230.out 0).trans rfl, (blk_cell BK230.out 1).trans rfl, (blk_cell BK230.out 2).trans rfl, (blk_cell BK230.out 3).trans rfl⟩ (fun hHeld => ?_); refine with_tabW impl_scaledAt.tab5 impl_scaledAt.bits5 (fun HT_ HW_ => ?_)
       generalize w13.drew = w14 at BK230 HB hHeld ⊢
       refine pq (i := 0) (N := some 17) #[tT, fF, fF, fF, fF, fF, fF, fF] rfl rfl HT_.out ?_
       refine tq4 (i := 1) (N := some 18) #[tT, tT, fF, fF, fF, fF, fF, fF] rfl rfl HT_.out HW_.out hHeld ?_
       refine tq4 (i := 2) (N := some 19) #[tT, tT, tT, fF, fF, fF, fF, fF] rfl rfl HT_.out HW_.out hHeld ?_
       refine one_ (i := 3) (N := some 20) #[tT, tT, tT, tT, fF, fF, fF, fF] rfl rfl (one_of HT_.out kf) (by decide) (fun K hK => ?_)
       refine goes_ Try.func122 kf rfl #[.agg #[.int .i64 ((rd_T107 l0 x13_1).f0), .int .i64 ((rd_T107 l0 x13_1).f1), .int .i64 ((rd_T107 l0 x13_1).f2), .int .i64 ((rd_T107 l0 x13_1).f3)]] (by rfl) rfl rfl sm ?_
       with_reducible refine (impl_Term_degree.calls ((rd_T107 l0 x13_1).f0) ((rd_T107 l0 x13_1).f1) ((rd_T107 l0 x13_1).f2) ((rd_T107 l0 x13_1).f3) t231 _ A6.out).mono ?_
       rintro e w15 ⟨rfl, hb⟩
       refine ⟨_, rfl, ?_⟩
       have n0_ := bb BK230 hb
       have n1_ := Aside0.mk (below_step (bz1 GE230) hb)
       clear BK230 HB
       have BK230 := n0_
       have HB := n1_
       clear n0_ n1_
       (try clear hb)
       (try clear hb2)
       (try clear hk)
       (try clear hi)
       refine hK.out _ _ ⟨(blk_cell BK230.out 0).trans rfl, (blk_cell BK230.out 1).trans rfl, (blk_cell BK230.out 2).trans rfl, (blk_cell BK230.out 3).trans rfl⟩ (fun hHeld => ?_)
       clear hK K
       refine norm_ (a' := ?_) ?_ ?_
       rotate_left
       ·show Act.put _ (some 20) _ = _
        simp only [Act.put, List.setIfInBounds_toArray, List.set_cons_zero, List.set_cons_succ, i64_w, i32_w]
        rfl
       refine pq (i := 4) (N := some 21) #[tT, tT, tT, tT, tT, fF, fF, fF] rfl rfl HT_.out ?_
       refine pq (i := 5) (N := some 22) #[tT, tT, tT, tT, tT, tT, fF, fF] rfl rfl HT_.out ?_
       refine pq (i := 6) (N := some 23) #[tT, tT, tT, tT, tT, tT, tT, fF] rfl rfl HT_.out ?_
       refine pq (i := 7) (N := some 8) #[tT, tT, tT, tT, tT, tT, tT, tT] rfl rfl HT_.out ?_
       refine done_ (done_of HT_.out kf) ?_
       have hcz16_0 : w15.cell? ⟨gb230, 0, none⟩ = some (.int .i64 ((rd_T107 l0 x13_1).f0)) := (blk_cell BK230.out 0).trans rfl
       have hcz16_1 : w15.cell? ⟨gb230, 1, none⟩ = some (.int .i64 ((rd_T107 l0 x13_1).f1)) := (blk_cell BK230.out 1).trans rfl
       have hcz16_2 : w15.cell? ⟨gb230, 2, none⟩ = some (.int .i64 ((rd_T107 l0 x13_1).f2)) := (blk_cell BK230.out 2).trans rfl
       have hcz16_3 : w15.cell? ⟨gb230, 3, none⟩ = some (.int .i64 ((rd_T107 l0 x13_1).f3)) := (blk_cell BK230.out 3).trans rfl
       have hfz16_0 := blk_frozen BK230.out 0
       have hfz16_1 := blk_frozen BK230.out 1
       have hfz16_2 := blk_frozen BK230.out 2
       have hfz16_3 := blk_frozen BK230.out 3
       try go_wp2_with (first | ((with_reducible refine gate_callee (f := 123) rfl ?_); refine goesL_ (some 25) rfl rfl Try.func123 kf rfl #[.agg #[.int .i64 ((rd_T107 l0 x13_1).f0), .int .i64 ((rd_T107 l0 x13_1).f1), .int .i64 ((rd_T107 l0 x13_1).f2), .int .i64 ((rd_T107 l0 x13_1).f3)]] rfl sm ?_; (with_reducible refine (impl_Term_exponents.calls ((rd_T107 l0 x13_1).f0) ((rd_T107 l0 x13_1).f1) ((rd_T107 l0 x13_1).f2) ((rd_T107 l0 x13_1).f3) t232 t233 t234 _ A10.out).mono ?_); rintro e w17 ⟨rfl, hb⟩; refine ⟨_, rfl, ?_⟩; have n0_ := bb BK230 hb; have n1_ := Aside0.mk (below_step (bz1 GE230) hb); clear BK230; clear HB; have BK230 := n0_; have HB := n1_; clear n0_ n1_; (try clear hb); (try clear hb2); (try clear hk); (try clear hi)))
       go_loopg [8, 26] k1 (fun kq v8 v26 w' => ∃ (x8_2 : Int) (x26_2 : Int), v8 = .int .i64 x8_2 ∧ v26 = .int .i64 x26_2 ∧ Aside0 (impl_scaledAt.l1 kq l1 x5_1 x8_2 l0 (l0.length : Int) x13_1 x26_2 t232 t233 t234 = some r) ∧ Aside0 (kq ≤ k1) ∧ Aside0 (w'.heap[gb230]? = some (.cells #[.int .i64 ((rd_T107 l0 x13_1).f0), .int .i64 ((rd_T107 l0 x13_1).f1), .int .i64 ((rd_T107 l0 x13_1).f2), .int .i64 ((rd_T107 l0 x13_1).f3)] 107 (0, 0))) ∧ Aside0 (Below w.heap.size w w'))
       case atStart => exact ⟨(ji9), (0), (by first | rfl | (simp; done) | (simp only [← hji9] <;> (first | rfl | simp)) | (simp [*]; done)), sr, H', ⟨Nat.le_refl _⟩, ⟨bk BK230⟩, ⟨bz1 GE230⟩⟩
       case round =>
        clear H'
        try clear c1; try clear p2; try clear q2; try clear hx2; try clear c3; try clear c3b0; try clear c4; try clear c4b0; try clear c5; try clear c5b0; try clear p6; try clear c8; try clear c8b0; try clear c8b1; try clear c12; try clear hcz12_0; try clear hcz12_1; try clear hcz12_2; try clear hcz12_3; try clear hcz16_0; try clear hcz16_1; try clear hcz16_2; try clear hcz16_3; try clear hfz12_0; try clear hfz12_1; try clear hfz12_2; try clear hfz12_3; try clear hfz16_0; try clear hfz16_1; try clear hfz16_2; try clear hfz16_3; try clear hx229_0; try clear hx229_1; try clear hx229_2; try clear hx229_3; try clear p2; try clear p229; try clear q229
        obtain ⟨x8_2, x26_2, rfl, rfl, HA, HK2, BK230, HB⟩ := hrel
        cases gk with
        | zero => exact absurd HA.out (by simp [impl_scaledAt.l1])
        | succ k2 =>
         have H := HA.out
         clear HA
         simp only [impl_scaledAt.l1] at H
         by_cases c18 : x26_2 < 3
         ·rw [if_pos c18] at H
          have c18b0 : decide (x26_2 < 3) = true := decide_eq_true c18
          clear c18
          by_cases c19 : 0 ≤ x26_2
          ·rw [if_pos c19] at H
           have c19b0 : decide (0 ≤ x26_2) = true := decide_eq_true c19
           clear c19
           have H' := Aside0.mk H
           clear H
           have p20 : 0 ≤ (x26_2 : Int) := of_decide_eq_true am
           have q20 : x26_2 < (3 : Int) := of_decide_eq_true am
           have hx20 : ∀ W_ : World, (Instr.index 133 (.agg #[.int .i64 t232, .int .i64 t233, .int .i64 t234]) (.int .i64 x26_2)).run Try.prog W_ = .ok (.int .i64 (ix3 t232 t233 t234 x26_2)) W_ := fun W_ => index3_133 t232 t233 t234 x26_2 p20 q20 W_
           replace p20 := eq_true p20
           replace q20 := eq_true q20
           go_wp2
           go_loopg [8, 31] k2 (fun kq v8 v31 w' => ∃ (x8_3 : Int) (x31_3 : Int), v8 = .int .i64 x8_3 ∧ v31 = .int .i64 x31_3 ∧ Aside0 (impl_scaledAt.l2 kq l1 x5_1 x8_3 x26_2 l0 (l0.length : Int) x13_1 x26_2 (ix3 t232 t233 t234 x26_2) x31_3 t232 t233 t234 = some r) ∧ Aside0 (kq ≤ k2) ∧ Aside0 (w'.heap[gb230]? = some (.cells #[.int .i64 ((rd_T107 l0 x13_1).f0), .int .i64 ((rd_T107 l0 x13_1).f1), .int .i64 ((rd_T107 l0 x13_1).f2), .int .i64 ((rd_T107 l0 x13_1).f3)] 107 (0, 0))) ∧ Aside0 (Below w.heap.size w w'))
           case atStart => exact ⟨(x8_2), (0), sr, sr, H', ⟨Nat.le_refl _⟩, ⟨bk BK230⟩, ⟨bz1 GE230⟩⟩
           case round =>
            clear H'
            try clear c1; try clear p2; try clear q2; try clear hx2; try clear c3; try clear c3b0; try clear c4; try clear c4b0; try clear c5; try clear c5b0; try clear p6; try clear c8; try clear c8b0; try clear c8b1; try clear c12; try clear c18; try clear c18b0; try clear c19; try clear c19b0; try clear p20; try clear q20; try clear hx20; try clear hcz12_0; try clear hcz12_1; try clear hcz12_2; try clear hcz12_3; try clear hcz16_0; try clear hcz16_1; try clear hcz16_2; try clear hcz16_3; try clear hfz12_0; try clear hfz12_1; try clear hfz12_2; try clear hfz12_3; try clear hfz16_0; try clear hfz16_1; try clear hfz16_2; try clear hfz16_3; try clear hx229_0; try clear hx229_1; try clear hx229_2; try clear hx229_3; try clear p2; try clear p20; try clear p229; try clear p6; try clear q2; try clear q20; try clear q229
            obtain ⟨x8_3, x31_3, rfl, rfl, HA, HK3, BK230, HB⟩ := hrel
            cases gk with
            | zero => exact absurd HA.out (by simp [impl_scaledAt.l2])
            | succ k3 =>
             have H := HA.out
             clear HA
             simp only [impl_scaledAt.l2] at H
             by_cases c21 : x31_3 < (ix3 t232 t233 t234 x26_2)
             ·rw [if_pos c21] at H
              have c21b0 : decide (x31_3 < (ix3 t232 t233 t234 x26_2)) = true := decide_eq_true c21
              clear c21
              by_cases c22 : 0 ≤ x26_2
              ·rw [if_pos c22] at H
               have c22b0 : decide (0 ≤ x26_2) = true := decide_eq_true c22
               clear c22
               by_cases c23 : x26_2 < (l1.length : Int)
               ·rw [if_pos c23] at H
                have c23b0 : decide (x26_2 < (l1.length : Int)) = true := decide_eq_true c23
                clear c23
                obtain ⟨ji24, hji24⟩ : ∃ j_ : Int, (wrap64 (9 - ((rd_T44 l1 x26_2).f1))) = j_ := ⟨_, rfl⟩
                first | rw [hji24] at H | simp only [hji24] at H
                have hji24w : (IntKind.i64.wrap (9 - ((rd_T44 l1 x26_2).f1))) = ji24 := (i64_w _).trans hji24
                by_cases c25 : 0 ≤ (ji24)
                ·rw [if_pos c25] at H
                 have c25b0 := eq_true c25
                 have c25b1 : decide (0 ≤ (ji24)) = true := decide_eq_true c25
                 clear c25
                 obtain ⟨ji26, hji26⟩ : ∃ j_ : Int, (shl .i64 ((rd_T44 l1 x26_2).f0) (ji24)) = j_ := ⟨_, rfl⟩
                 first | rw [hji26] at H | simp only [hji26] at H
                 have hji26_ : (IntKind.i64.wrap (((rd_T44 l1 x26_2).f0) * 2 ^ min (ji24).toNat 64)) = ji26 := hji26
                 have hji26z : (ji24) ≤ 64 → (IntKind.i64.wrap (((rd_T44 l1 x26_2).f0) * 2 ^ (ji24).toNat)) = ji26 := shl_small hji26
                 have hji26y : (wrap64 (((rd_T44 l1 x26_2).f0) * 2 ^ min (ji24).toNat 64)) = ji26 := (i64_w _).symm.trans hji26_
                 have hji26x : (ji24) ≤ 64 → (wrap64 (((rd_T44 l1 x26_2).f0) * 2 ^ (ji24).toNat)) = ji26 := fun h_ => (i64_w _).symm.trans (hji26z h_)
                 have H' := Aside0.mk H
                 clear H
                 try go_wp2
                 have n0_ := Aside0.mk (blk_drew BK230.out)
                 have n1_ := Aside0.mk (below_drew1 HB.out)
                 clear BK230 HB
                 have BK230 := n0_
                 have HB := n1_
                 clear n0_ n1_
                 have p235 : 0 ≤ (x26_2 : Int) := of_decide_eq_true am
                 have q235 : x26_2 < (l1.length : Int) := of_decide_eq_true am
                 obtain ⟨ad235, e235, hx235_0, hx235_1⟩ := at_T44 HR1.out x26_2 p235 q235
                 have hw235_1 := hx235_1
                 have hw235_0 := hx235_0
                 cases e235
                 replace hx235_0 := (HB.out.cell (World.block_lt_of_cell? w _ hx235_0)).trans hx235_0
                 replace hx235_1 := (HB.out.cell (World.block_lt_of_cell? w _ hx235_1)).trans hx235_1
                 replace p235 := eq_true p235
                 replace q235 := eq_true q235
                 have p236 : 0 ≤ (x26_2 : Int) := of_decide_eq_true am
                 have q236 : x26_2 < (l1.length : Int) := of_decide_eq_true am
                 obtain ⟨ad236, e236, hx236_0, hx236_1⟩ := at_T44 HR1.out x26_2 p236 q236
                 have hw236_1 := hx236_1
                 have hw236_0 := hx236_0
                 obtain rfl : ad235 = ad236 := (by injection e236)
                 replace hx236_0 := (HB.out.cell (World.block_lt_of_cell? w _ hx236_0)).trans hx236_0
                 replace hx236_1 := (HB.out.cell (World.block_lt_of_cell? w _ hx236_1)).trans hx236_1
                 replace p236 := eq_true p236
                 replace q236 := eq_true q236
                 refine start_ (n := 15) (S := fun w' => w'.cell? (ad235.add ((x26_2).toNat * 2)) = some (.int .i64 ((rd_T44 l1 x26_2).f0)) ∧ w'.cell? ⟨(ad235.add ((x26_2).toNat * 2)).block, (ad235.add ((x26_2).toNat * 2)).off + 1, none⟩ = some (.int .i64 ((rd_T44 l1 x26_2).f1)) ∧ w'.cell? (ad235.add ((x26_2).toNat * 2)) = some (.int .i64 ((rd_T44 l1 x26_2).f0)) ∧ w'.cell? ⟨(ad235.add ((x26_2).toNat * 2)).block, (ad235.add ((x26_2).toNat * 2)).off + 1, none⟩ = some (.int .i64 ((rd_T44 l1 x26_2).f1))) (ds := []) #[fF, fF, fF, fF, fF, fF, fF, fF, fF, fF, fF, fF, fF, fF, fF] kf rfl rfl ⟨((HB.out.cell (World.block_lt_of_cell? w _ hw235_0)).trans hw235_0), ((HB.out.cell (World.block_lt_of_cell? w _ hw235_1)).trans hw235_1), ((HB.out.cell (World.block_lt_of_cell? w _ hw236_0)).trans hw236_0), ((HB.out.cell (World.block_lt_of_cell? w _ hw236_1)).trans hw236_1)⟩ (fun hHeld => ?_); refine with_tabW impl_scaledAt.tab11 impl_scaledAt.bits11 (fun HT_ HW_ => ?_)
                 generalize wr.drew = w27 at BK230 HB hx235_0 hx235_1 hx236_0 hx236_1 hHeld ⊢
                 refine pq (i := 0) (N := some 33) #[tT, fF, fF, fF, fF, fF, fF, fF, fF, fF, fF, fF, fF, fF, fF] rfl rfl HT_.out ?_
                 refine pq (i := 1) (N := some 34) #[tT, tT, fF, fF, fF, fF, fF, fF, fF, fF, fF, fF, fF, fF, fF] rfl rfl HT_.out ?_
                 refine pq (i := 2) (N := some 35) #[tT, tT, tT, fF, fF, fF, fF, fF, fF, fF, fF, fF, fF, fF, fF] rfl rfl HT_.out ?_
                 refine pq (i := 3) (N := some 36) #[tT, tT, tT, tT, fF, fF, fF, fF, fF, fF, fF, fF, fF, fF, fF] rfl rfl HT_.out ?_
                 refine pq (i := 4) (N := some 37) #[tT, tT, tT, tT, tT, fF, fF, fF, fF, fF, fF, fF, fF, fF, fF] rfl rfl HT_.out ?_
                 refine pq (i := 6) (N := some 39) #[tT, tT, tT, tT, tT, fF, tT, fF, fF, fF, fF, fF, fF, fF, fF] rfl rfl HT_.out ?_
                 refine pq (i := 7) (N := some 40) #[tT, tT, tT, tT, tT, fF, tT, tT, fF, fF, fF, fF, fF, fF, fF] rfl rfl HT_.out ?_
                 refine pq (i := 8) (N := some 41) #[tT, tT, tT, tT, tT, fF, tT, tT, tT, fF, fF, fF, fF, fF, fF] rfl rfl HT_.out ?_
                 refine pq (i := 9) (N := some 42) #[tT, tT, tT, tT, tT, fF, tT, tT, tT, tT, fF, fF, fF, fF, fF] rfl rfl HT_.out ?_
                 refine tq4 (i := 5) (N := some 38) #[tT, tT, tT, tT, tT, tT, tT, tT, tT, tT, fF, fF, fF, fF, fF] rfl rfl HT_.out HW_.out hHeld ?_
                 refine tq4 (i := 10) (N := some 43) #[tT, tT, tT, tT, tT, tT, tT, tT, tT, tT, tT, fF, fF, fF, fF] rfl rfl HT_.out HW_.out hHeld ?_
                 refine pq (i := 11) (N := some 44) #[tT, tT, tT, tT, tT, tT, tT, tT, tT, tT, tT, tT, fF, fF, fF] rfl rfl HT_.out ?_
                 refine pq (i := 12) (N := some 45) #[tT, tT, tT, tT, tT, tT, tT, tT, tT, tT, tT, tT, tT, fF, fF] rfl rfl HT_.out ?_
                 refine pq (i := 13) (N := some 46) #[tT, tT, tT, tT, tT, tT, tT, tT, tT, tT, tT, tT, tT, tT, fF] rfl rfl HT_.out ?_
                 refine pq (i := 14) (N := some 8) #[tT, tT, tT, tT, tT, tT, tT, tT, tT, tT, tT, tT, tT, tT, tT] rfl rfl HT_.out ?_
                 refine done_ (done_of HT_.out kf) ?_
                 try go_wp2
                 go_roundg k3
                 case measure => have := HK1.out; have := HK2.out; have := HK3.out; omega
                 case rel => exact ⟨(wrap64 (x8_3 * (ji26))), (wrap64 (x31_3 + 1)), (by first | rfl | (simp; done) | (simp only [← hji26] <;> (first | rfl | simp)) | (simp [*]; done)), sr, H', ⟨by have := HK1.out; have := HK2.out; have := HK3.out; omega⟩, ⟨bk BK230⟩, ⟨bz1 GE230⟩⟩
                ·rw [if_neg c25] at H
                 exact absurd H (by simp)
               ·rw [if_neg c23] at H
                exact absurd H (by simp)
              ·rw [if_neg c22] at H
               exact absurd H (by simp)
             ·rw [if_neg c21] at H
              have c21b0 : decide (x31_3 < (ix3 t232 t233 t234 x26_2)) = false := decide_eq_false c21
              clear c21
              have H' := Aside0.mk H
              clear H
              go_wp2
              go_roundg k3
              case measure => have := HK1.out; have := HK2.out; have := HK3.out; omega
              case rel => exact ⟨(x8_3), (wrap64 (x26_2 + 1)), sr, sr, H', ⟨by have := HK1.out; have := HK2.out; have := HK3.out; omega⟩, ⟨bk BK230⟩, ⟨bz1 GE230⟩⟩
          ·rw [if_neg c19] at H
           exact absurd H (by simp)
         ·rw [if_neg c18] at H
          have c18b0 : decide (x26_2 < 3) = false := decide_eq_false c18
          clear c18
          have H' := Aside0.mk H
          clear H
          go_wp2
          go_roundg k2
          case measure => have := HK1.out; have := HK2.out; omega
          case rel => exact ⟨(wrap64 (x5_1 + x8_2)), (wrap64 (x13_1 + 1)), sr, sr, H', ⟨by have := HK1.out; have := HK2.out; omega⟩, ⟨bz1 GE230⟩⟩
      ·rw [if_neg c8] at H
       exact absurd H (by simp)
     ·rw [if_neg c5] at H
      exact absurd H (by simp)
    ·rw [if_neg c4] at H
     exact absurd H (by simp)
   ·rw [if_neg c3] at H
    have c3b0 : decide (x13_1 < (l0.length : Int)) = false := decide_eq_false c3
    clear c3
    obtain rfl := Option.some.inj H
    go_wp2
    go_ret
    exact ⟨er, bz⟩
def impl_size.f (a0 : Int) : Option (Int) := if a0 < 0 then (some (IntKind.u64.wrap (wrap64 (-a0)))) else (some (IntKind.u64.wrap (a0)))
set_option maxHeartbeats 8000000 in
set_option maxRecDepth 100000 in
theorem impl_size.calls (a0 : Int) (r : Int) (w : World) (h : impl_size.f a0 = some r) :
 Calls Try.prog 145 #[.int .i64 a0] w fun e w' => e = .returned (.int .u64 r) ∧ Drawn0 w w' := by
 have H : (if a0 < 0 then (some (IntKind.u64.wrap (wrap64 (-a0)))) else (some (IntKind.u64.wrap (a0)))) = some r := h
 clear h
 by_cases c2 : a0 < 0
 ·rw [if_pos c2] at H
  have c2b0 : decide (a0 < 0) = true := decide_eq_true c2
  clear c2
  obtain rfl := Option.some.inj H
  go_enter Try.func145, Try.ntmps145
  go_wp2
  go_ret
  exact ⟨sr, dz⟩
 ·rw [if_neg c2] at H
  have c2b0 : decide (a0 < 0) = false := decide_eq_false c2
  clear c2
  obtain rfl := Option.some.inj H
  go_enter Try.func145, Try.ntmps145
  go_wp2
  go_ret
  exact ⟨sr, dz⟩
def impl_wideOf.f (a0 : Int) : Option (Bool × Int × Int) := (impl_size.f a0).bind fun t238 => (some (decide (a0 < 0), 0, t238))
set_option maxHeartbeats 8000000 in
set_option maxRecDepth 100000 in
theorem impl_wideOf.calls (a0 : Int) (r1 : Bool) (r2 : Int) (r3 : Int) (w : World) (h : impl_wideOf.f a0 = some (r1, r2, r3)) :
 Calls Try.prog 128 #[.int .i64 a0] w fun e w' => e = .returned (.agg #[.bool r1, .int .u64 r2, .int .u64 r3]) ∧ Below w.heap.size w w' := by
 have hu140 := Try.underlying140
 have HB := Aside0.mk (Below.refl w.heap.size w)
 have H : ((impl_size.f a0).bind fun t238 => (some (decide (a0 < 0), 0, t238))) = some (r1, r2, r3) := h
 clear h
 obtain ⟨t238, A2, H⟩ := bi H
 simp only [Option.some.injEq, Prod.mk.injEq] at H
 obtain ⟨rfl, rfl, rfl⟩ := H
 go_enter Try.func128, Try.ntmps128
 go_wp2_with (first | ((with_reducible refine gate_dst (N := 2) rfl ?_); refine bv (N := 2) (cs := #[.bool false, .int .u64 0, .int .u64 0]) (t := 140) ?_; intro gb237 hg w3 hbox hb; have n0_ := Aside0.mk (below_step bz hb); have n1_ := Aside0.mk (hbox); have n2_ := (gz hg : Aside0 (w.heap.size ≤ _)); have n3_ := (gz hg : Aside0 (w.heap.size ≤ _)); clear HB; have HB := n0_; have BK237 := n1_; have GW237 := n2_; have GE237 := n3_; clear n0_ n1_ n2_ n3_; clear hb hbox hg) | ((with_reducible refine gate_callee (f := 145) rfl ?_); refine goesL_ (some 6) rfl rfl Try.func145 kf rfl #[.int .i64 a0] rfl sm ?_; (with_reducible refine (impl_size.calls a0 t238 _ A2.out).mono ?_); rintro e w' ⟨rfl, ⟨nd, rfl⟩⟩; refine ⟨_, rfl, ?_⟩; (try (rw [drewN_self w3]; generalize hq_ : World.drewN w3 _ = w3; have n0_ : Aside0 (w3.heap[gb237]? = some (.cells #[.bool false, .int .u64 0, .int .u64 0] 140 (0, 0))) := ⟨by rw [← hq_]; exact (bk BK237)⟩; have n1_ : Aside0 (Below w.heap.size w w3) := ⟨by rw [← hq_]; exact (bz1 GE237)⟩; clear BK237 HB hq_; have BK237 := n0_; have HB := n1_; clear n0_ n1_)); have hcz4_0 : w3.cell? ⟨gb237, 0, none⟩ = some (.bool false) := (blk_cell BK237.out 0).trans rfl; have hcz4_1 : w3.cell? ⟨gb237, 1, none⟩ = some (.int .u64 0) := (blk_cell BK237.out 1).trans rfl; have hcz4_2 : w3.cell? ⟨gb237, 2, none⟩ = some (.int .u64 0) := (blk_cell BK237.out 2).trans rfl; have hfz4_0 := blk_frozen BK237.out 0; have hfz4_1 := blk_frozen BK237.out 1; have hfz4_2 := blk_frozen BK237.out 2))
 refine bodyPost_ret (results_cell_row rfl _ _ gb237 140 #[.bool (decide (a0 < 0)), .int .u64 0, .int .u64 t238] (0, 0) _ rfl (by (with_reducible repeat (first | refine blk_drewN ?_ _ | refine blk_drew ?_ | refine blk_alloc ?_ _)); refine blk_put (cs := #[.bool (decide (a0 < 0)), .int .u64 0, .int .u64 0]) ?_ 2 _ rfl; (with_reducible repeat (first | refine blk_drewN ?_ _ | refine blk_drew ?_ | refine blk_alloc ?_ _)); refine blk_put (cs := #[.bool (decide (a0 < 0)), .int .u64 0, .int .u64 0]) ?_ 1 _ rfl; (with_reducible repeat (first | refine blk_drewN ?_ _ | refine blk_drew ?_ | refine blk_alloc ?_ _)); refine blk_put (cs := #[.bool false, .int .u64 0, .int .u64 0]) ?_ 0 _ rfl; (with_reducible repeat (first | refine blk_drewN ?_ _ | refine blk_drew ?_ | refine blk_alloc ?_ _)); exact BK237.out) Try.underlying140 rfl kf) rfl ?_
 exact ⟨er, bz1 GE237⟩
def impl_wide_shift.f (a0_0 : Bool) (a0_1 : Int) (a0_2 : Int) (a1 : Int) : Option (Bool × Int × Int) := if a1 ≥ 0 then (if a1 ≥ 64 then (if 0 ≤ (wrap64 (a1 - 64)) then (some (a0_0, shl .u64 a0_2 (wrap64 (a1 - 64)), 0)) else (none)) else (if 0 ≤ a1 then (if 0 ≤ (wrap64 (64 - a1)) then (some (a0_0, Go.bits .or .u64 (shl .u64 a0_1 a1) (shr .u64 a0_2 (wrap64 (64 - a1))), shl .u64 a0_2 a1)) else (none)) else (none))) else (if (wrap64 (-a1)) ≥ 64 then (if 0 ≤ (wrap64 ((wrap64 (-a1)) - 64)) then (some (a0_0, 0, shr .u64 a0_1 (wrap64 ((wrap64 (-a1)) - 64)))) else (none)) else (if 0 ≤ (wrap64 (-a1)) then (if 0 ≤ (wrap64 (64 - (wrap64 (-a1)))) then (some (a0_0, shr .u64 a0_1 (wrap64 (-a1)), Go.bits .or .u64 (shr .u64 a0_2 (wrap64 (-a1))) (shl .u64 a0_1 (wrap64 (64 - (wrap64 (-a1))))))) else (none)) else (none)))
def impl_wide_shift.T3 : Bool × List (List Nat × List Nat) := (true, [([], []), ([0], [0]), ([], []), ([2], [2]), ([], []), ([4], [4]), ([3, 5], [3, 5]), ([1, 6], [1, 6]), ([7, 0, 1, 2, 3, 4, 5, 6, 7], [7])])
def impl_wide_shift.B3 : List Nat := [0, 1, 0, 4, 0, 16, 60, 127, 255]
theorem impl_wide_shift.tab3 : rtab .any (opsOf Try.f129 3) = impl_wide_shift.T3 := by kernel_rfl
theorem impl_wide_shift.bits3 : waitsOk impl_wide_shift.T3.2 impl_wide_shift.B3 = true := by kernel_rfl
def impl_wide_shift.T4 : Bool × List (List Nat × List Nat) := (true, [([], []), ([0], [0]), ([], []), ([2], [2]), ([], []), ([3, 4], [3, 4]), ([], []), ([6], [6]), ([], []), ([8], [8]), ([7, 9], [7, 9]), ([5, 10], [5, 10]), ([], []), ([12], [12]), ([], []), ([13, 14], [13, 14]), ([1, 11, 15], [1, 11, 15]), ([16, 0, 1, 2, 3, 4, 5, 6, 7, 8, 9, 10, 11, 12, 13, 14, 15, 16], [16])])
def impl_wide_shift.B4 : List Nat := [0, 1, 0, 4, 0, 28, 0, 64, 0, 256, 960, 2044, 0, 4096, 0, 28672, 65535, 131071]
theorem impl_wide_shift.tab4 : rtab .any (opsOf Try.f129 4) = impl_wide_shift.T4 := by kernel_rfl
theorem impl_wide_shift.bits4 : waitsOk impl_wide_shift.T4.2 impl_wide_shift.B4 = true := by kernel_rfl
def impl_wide_shift.T7 : Bool × List (List Nat × List Nat) := (true, [([], []), ([0], [0]), ([], []), ([2], [2]), ([], []), ([4], [4]), ([3, 5], [3, 5]), ([1, 6], [1, 6]), ([7, 0, 1, 2, 3, 4, 5, 6, 7], [7])])
def impl_wide_shift.B7 : List Nat := [0, 1, 0, 4, 0, 16, 60, 127, 255]
theorem impl_wide_shift.tab7 : rtab .any (opsOf Try.f129 7) = impl_wide_shift.T7 := by kernel_rfl
theorem impl_wide_shift.bits7 : waitsOk impl_wide_shift.T7.2 impl_wide_shift.B7 = true := by kernel_rfl
def impl_wide_shift.T8 : Bool × List (List Nat × List Nat) := (true, [([], []), ([0], [0]), ([], []), ([2], [2]), ([], []), ([3, 4], [3, 4]), ([], []), ([6], [6]), ([], []), ([7, 8], [7, 8]), ([], []), ([10], [10]), ([], []), ([12], [12]), ([11, 13], [11, 13]), ([9, 14], [9, 14]), ([1, 5, 15], [1, 5, 15]), ([16, 0, 1, 2, 3, 4, 5, 6, 7, 8, 9, 10, 11, 12, 13, 14, 15, 16], [16])])
def impl_wide_shift.B8 : List Nat := [0, 1, 0, 4, 0, 28, 0, 64, 0, 448, 0, 1024, 0, 4096, 15360, 32704, 65535, 131071]
theorem impl_wide_shift.tab8 : rtab .any (opsOf Try.f129 8) = impl_wide_shift.T8 := by kernel_rfl
theorem impl_wide_shift.bits8 : waitsOk impl_wide_shift.T8.2 impl_wide_shift.B8 = true := by kernel_rfl
set_option maxHeartbeats 8000000 in
set_option maxRecDepth 100000 in
theorem impl_wide_shift.calls (a0_0 : Bool) (a0_1 : Int) (a0_2 : Int) (a1 : Int) (r1 : Bool) (r2 : Int) (r3 : Int) (w : World) (h : impl_wide_shift.f a0_0 a0_1 a0_2 a1 = some (r1, r2, r3)) :
 Calls Try.prog 129 #[.agg #[.bool a0_0, .int .u64 a0_1, .int .u64 a0_2], .int .i64 a1] w fun e w' => e = .returned (.agg #[.bool r1, .int .u64 r2, .int .u64 r3]) ∧ Below w.heap.size w w' := by
 have hu140 := Try.underlying140
 have HB := Aside0.mk (Below.refl w.heap.size w)
 have H : (if a1 ≥ 0 then (if a1 ≥ 64 then (if 0 ≤ (wrap64 (a1 - 64)) then (some (a0_0, shl .u64 a0_2 (wrap64 (a1 - 64)), 0)) else (none)) else (if 0 ≤ a1 then (if 0 ≤ (wrap64 (64 - a1)) then (some (a0_0, Go.bits .or .u64 (shl .u64 a0_1 a1) (shr .u64 a0_2 (wrap64 (64 - a1))), shl .u64 a0_2 a1)) else (none)) else (none))) else (if (wrap64 (-a1)) ≥ 64 then (if 0 ≤ (wrap64 ((wrap64 (-a1)) - 64)) then (some (a0_0, 0, shr .u64 a0_1 (wrap64 ((wrap64 (-a1)) - 64)))) else (none)) else (if 0 ≤ (wrap64 (-a1)) then (if 0 ≤ (wrap64 (64 - (wrap64 (-a1)))) then (some (a0_0, shr .u64 a0_1 (wrap64 (-a1)), Go.bits .or .u64 (shr .u64 a0_2 (wrap64 (-a1))) (shl .u64 a0_1 (wrap64 (64 - (wrap64 (-a1))))))) else (none)) else (none)))) = some (r1, r2, r3) := h
 clear h
 by_cases c3 : a1 ≥ 0
 ·rw [if_pos c3] at H
  have c3b0 : decide (0 ≤ a1) = true := decide_eq_true c3
  clear c3
  by_cases c4 : a1 ≥ 64
  ·rw [if_pos c4] at H
   have c4b0 : decide (64 ≤ a1) = true := decide_eq_true c4
   clear c4
   obtain ⟨ji5, hji5⟩ : ∃ j_ : Int, (wrap64 (a1 - 64)) = j_ := ⟨_, rfl⟩
   first | rw [hji5] at H | simp only [hji5] at H
   have hji5w : (IntKind.i64.wrap (a1 - 64)) = ji5 := (i64_w _).trans hji5
   by_cases c6 : 0 ≤ (ji5)
   ·rw [if_pos c6] at H
    have c6b0 := eq_true c6
    have c6b1 : decide (0 ≤ (ji5)) = true := decide_eq_true c6
    clear c6
    obtain ⟨ji7, hji7⟩ : ∃ j_ : Int, (shl .u64 a0_2 (ji5)) = j_ := ⟨_, rfl⟩
    first | rw [hji7] at H | simp only [hji7] at H
    have hji7_ : (IntKind.u64.wrap (a0_2 * 2 ^ min (ji5).toNat 64)) = ji7 := hji7
    have hji7z : (ji5) ≤ 64 → (IntKind.u64.wrap (a0_2 * 2 ^ (ji5).toNat)) = ji7 := shl_small hji7
    simp only [Option.some.injEq, Prod.mk.injEq] at H
    obtain ⟨rfl, rfl, rfl⟩ := H
    go_enter Try.func129, Try.ntmps129
    try go_wp2_with (first | ((with_reducible refine gate_dst (N := 2) rfl ?_); refine bv (N := 2) (cs := #[.bool a0_0, .int .u64 a0_1, .int .u64 a0_2]) (t := 140) ?_; intro gb239 hg w8 hbox hb; have n0_ := Aside0.mk (below_step bz hb); have n1_ := Aside0.mk (hbox); have n2_ := (gz hg : Aside0 (w.heap.size ≤ _)); have n3_ := (gz hg : Aside0 (w.heap.size ≤ _)); clear HB; have HB := n0_; have BK239 := n1_; have GW239 := n2_; have GE239 := n3_; clear n0_ n1_ n2_ n3_; clear hb hbox hg) | ((with_reducible refine gate_dst (N := 4) rfl ?_); refine bv (N := 4) (cs := #[.bool false, .int .u64 0, .int .u64 0]) (t := 140) ?_; intro gb240 hg w9 hbox hb; have n0_ := bb BK239 hb; have n1_ := Aside0.mk (below_step (bz1 GE239) hb); have n2_ := Aside0.mk (hbox); have n3_ := Aside0.mk ((by rw [hg]; exact (below_size (bz1 GE239)) : w.heap.size ≤ gb240)); have n4_ := Aside0.mk ((by rw [hg]; exact (below_size (bz1 GE239)) : w.heap.size ≤ gb240)); have n5_ := Aside0.mk ((by rw [hg]; exact Nat.ne_of_lt (blk_lt (g := gb239) (o := .cells #[.bool a0_0, .int .u64 a0_1, .int .u64 a0_2] 140 (0, 0)) (bk BK239)) : gb239 ≠ gb240)); have n6_ := Aside0.mk ((by rw [hg]; exact Nat.ne_of_gt (blk_lt (g := gb239) (o := .cells #[.bool a0_0, .int .u64 a0_1, .int .u64 a0_2] 140 (0, 0)) (bk BK239)) : gb240 ≠ gb239)); clear BK239; clear HB; have BK239 := n0_; have HB := n1_; have BK240 := n2_; have GW240 := n3_; have GE240 := n4_; have NB239_240 := n5_; have NB240_239 := n6_; clear n0_ n1_ n2_ n3_ n4_ n5_ n6_; clear hb hbox hg))
    have n0_ := Aside0.mk (blk_drew BK239.out)
    have n1_ := Aside0.mk (blk_drew BK240.out)
    have n2_ := Aside0.mk (below_drew1 HB.out)
    clear BK239 BK240 HB
    have BK239 := n0_
    have BK240 := n1_
    have HB := n2_
    clear n0_ n1_ n2_
    refine start_ (n := 9) (S := fun w' => w'.cell? ⟨gb239, 0, none⟩ = some (.bool a0_0) ∧ w'.cell? ⟨gb239, 1, none⟩ = some (.int .u64 a0_1) ∧ w'.cell? ⟨gb239, 2, none⟩ = some (.int .u64 a0_2)) (ds := []) #[fF, fF, fF, fF, fF, fF, fF, fF, fF] kf rfl rfl ⟨(blk_cell BK239.out 0).trans rfl, (blk_cell BK239.out 1).trans rfl, (blk_cell BK239.out 2).trans rfl⟩ (fun hHeld => ?_); refine with_tabW impl_wide_shift.tab3 impl_wide_shift.bits3 (fun HT_ HW_ => ?_)
    generalize w9.drew = w10 at BK239 BK240 HB hHeld ⊢
    refine pq (i := 0) (N := some 9) #[tT, fF, fF, fF, fF, fF, fF, fF, fF] rfl rfl HT_.out ?_
    refine pq (i := 2) (N := some 11) #[tT, fF, tT, fF, fF, fF, fF, fF, fF] rfl rfl HT_.out ?_
    refine pq (i := 4) (N := some 13) #[tT, fF, tT, fF, tT, fF, fF, fF, fF] rfl rfl HT_.out ?_
    refine pq (i := 5) (N := some 14) #[tT, fF, tT, fF, tT, tT, fF, fF, fF] rfl rfl HT_.out ?_
    refine tq3 (i := 1) (N := some 10) #[tT, tT, tT, fF, tT, tT, fF, fF, fF] rfl rfl HT_.out HW_.out hHeld ?_
    refine tq3 (i := 3) (N := some 12) #[tT, tT, tT, tT, tT, tT, fF, fF, fF] rfl rfl HT_.out HW_.out hHeld ?_
    refine pq (i := 6) (N := some 15) #[tT, tT, tT, tT, tT, tT, tT, fF, fF] rfl rfl HT_.out ?_
    refine pq (i := 7) (N := some 16) #[tT, tT, tT, tT, tT, tT, tT, tT, fF] rfl rfl HT_.out ?_
    refine one_ (i := 8) (N := none) #[tT, tT, tT, tT, tT, tT, tT, tT, tT] rfl rfl (one_of HT_.out kf) (by decide) (fun K hK => ?_)
    have hs11 : w10.cell? ⟨gb240, 0, none⟩ = some (.bool false) := (blk_cell BK240.out 0).trans rfl
    have hfs11 := blk_frozen BK240.out 0
    have hns11_0 := NB239_240.out
    have hms11_0 := NB240_239.out
    have hs12 : w10.cell? ⟨gb240, 1, none⟩ = some (.int .u64 0) := (blk_cell BK240.out 1).trans rfl
    have hfs12 := blk_frozen BK240.out 1
    have hns12_0 := NB239_240.out
    have hms12_0 := NB240_239.out
    have hs13 : w10.cell? ⟨gb240, 2, none⟩ = some (.int .u64 0) := (blk_cell BK240.out 2).trans rfl
    have hfs13 := blk_frozen BK240.out 2
    have hns13_0 := NB239_240.out
    have hms13_0 := NB240_239.out
    refine skip_ (w1 := ?_) (by rfl) rfl ?_ ?_
    rotate_left
    ·go_simp
     rfl
    refine hK.out _ _ ⟨((cell_far (p := ⟨gb240, _, none⟩) NB239_240.out _).trans (((cell_far (p := ⟨gb240, _, none⟩) NB239_240.out _).trans (((cell_far (p := ⟨gb240, _, none⟩) NB239_240.out _).trans (hHeld.1)))))), ((cell_far (p := ⟨gb240, _, none⟩) NB239_240.out _).trans (((cell_far (p := ⟨gb240, _, none⟩) NB239_240.out _).trans (((cell_far (p := ⟨gb240, _, none⟩) NB239_240.out _).trans (hHeld.2.1)))))), ((cell_far (p := ⟨gb240, _, none⟩) NB239_240.out _).trans (((cell_far (p := ⟨gb240, _, none⟩) NB239_240.out _).trans (((cell_far (p := ⟨gb240, _, none⟩) NB239_240.out _).trans (hHeld.2.2))))))⟩ (fun hHeld => ?_)
    clear hK K
    refine done_ (done_of HT_.out kf) ?_
    try go_wp2
    refine bodyPost_ret (results_cell_row rfl _ _ gb240 140 #[.bool a0_0, .int .u64 ji7, .int .u64 0] (0, 0) _ rfl (by (with_reducible repeat (first | refine blk_drewN ?_ _ | refine blk_drew ?_ | refine blk_alloc ?_ _)); refine blk_put (cs := #[.bool a0_0, .int .u64 ji7, .int .u64 0]) ?_ 2 _ rfl; (with_reducible repeat (first | refine blk_drewN ?_ _ | refine blk_drew ?_ | refine blk_alloc ?_ _)); refine blk_put (cs := #[.bool a0_0, .int .u64 0, .int .u64 0]) ?_ 1 _ rfl; (with_reducible repeat (first | refine blk_drewN ?_ _ | refine blk_drew ?_ | refine blk_alloc ?_ _)); refine blk_put (cs := #[.bool false, .int .u64 0, .int .u64 0]) ?_ 0 _ rfl; (with_reducible repeat (first | refine blk_drewN ?_ _ | refine blk_drew ?_ | refine blk_alloc ?_ _)); exact BK240.out) Try.underlying140 rfl kf) rfl ?_
    exact ⟨by first | rfl | (simp [errW_none, errW_some] <;> rfl) | (simp only [← hji5, ← hji7]; first | rfl | (simp [errW_none, errW_some] <;> rfl)) | (simp [*, errW_none, errW_some] <;> rfl), bz2 GE239 GE240⟩
   ·rw [if_neg c6] at H
    exact absurd H (by simp)
  ·rw [if_neg c4] at H
   have c4b0 : decide (64 ≤ a1) = false := decide_eq_false c4
   clear c4
   by_cases c14 : 0 ≤ a1
   ·rw [if_pos c14] at H
    have c14b0 := eq_true c14
    have c14b1 : decide (0 ≤ a1) = true := decide_eq_true c14
    clear c14
    obtain ⟨ji15, hji15⟩ : ∃ j_ : Int, (shl .u64 a0_1 a1) = j_ := ⟨_, rfl⟩
    first | rw [hji15] at H | simp only [hji15] at H
    have hji15_ : (IntKind.u64.wrap (a0_1 * 2 ^ min a1.toNat 64)) = ji15 := hji15
    have hji15z : a1 ≤ 64 → (IntKind.u64.wrap (a0_1 * 2 ^ a1.toNat)) = ji15 := shl_small hji15
    obtain ⟨ji16, hji16⟩ : ∃ j_ : Int, (wrap64 (64 - a1)) = j_ := ⟨_, rfl⟩
    first | rw [hji16] at H | simp only [hji16] at H
    have hji16w : (IntKind.i64.wrap (64 - a1)) = ji16 := (i64_w _).trans hji16
    by_cases c17 : 0 ≤ (ji16)
    ·rw [if_pos c17] at H
     have c17b0 := eq_true c17
     have c17b1 : decide (0 ≤ (ji16)) = true := decide_eq_true c17
     clear c17
     obtain ⟨ji18, hji18⟩ : ∃ j_ : Int, (shr .u64 a0_2 (ji16)) = j_ := ⟨_, rfl⟩
     first | rw [hji18] at H | simp only [hji18] at H
     have hji18_ : (a0_2 / 2 ^ min (ji16).toNat 64) = ji18 := hji18
     have hji18z : (ji16) ≤ 64 → (a0_2 / 2 ^ (ji16).toNat) = ji18 := shr_small hji18
     have c19b0 := eq_true (of_decide_eq_true am : 0 ≤ a1)
     obtain ⟨ji20, hji20⟩ : ∃ j_ : Int, (shl .u64 a0_2 a1) = j_ := ⟨_, rfl⟩
     first | rw [hji20] at H | simp only [hji20] at H
     have hji20_ : (IntKind.u64.wrap (a0_2 * 2 ^ min a1.toNat 64)) = ji20 := hji20
     have hji20z : a1 ≤ 64 → (IntKind.u64.wrap (a0_2 * 2 ^ a1.toNat)) = ji20 := shl_small hji20
     simp only [Option.some.injEq, Prod.mk.injEq] at H
     obtain ⟨rfl, rfl, rfl⟩ := H
     go_enter Try.func129, Try.ntmps129
     try go_wp2_with (first | ((with_reducible refine gate_dst (N := 2) rfl ?_); refine bv (N := 2) (cs := #[.bool a0_0, .int .u64 a0_1, .int .u64 a0_2]) (t := 140) ?_; intro gb239 hg w21 hbox hb; have n0_ := Aside0.mk (below_step bz hb); have n1_ := Aside0.mk (hbox); have n2_ := (gz hg : Aside0 (w.heap.size ≤ _)); have n3_ := (gz hg : Aside0 (w.heap.size ≤ _)); clear HB; have HB := n0_; have BK239 := n1_; have GW239 := n2_; have GE239 := n3_; clear n0_ n1_ n2_ n3_; clear hb hbox hg) | ((with_reducible refine gate_dst (N := 4) rfl ?_); refine bv (N := 4) (cs := #[.bool false, .int .u64 0, .int .u64 0]) (t := 140) ?_; intro gb240 hg w22 hbox hb; have n0_ := bb BK239 hb; have n1_ := Aside0.mk (below_step (bz1 GE239) hb); have n2_ := Aside0.mk (hbox); have n3_ := Aside0.mk ((by rw [hg]; exact (below_size (bz1 GE239)) : w.heap.size ≤ gb240)); have n4_ := Aside0.mk ((by rw [hg]; exact (below_size (bz1 GE239)) : w.heap.size ≤ gb240)); have n5_ := Aside0.mk ((by rw [hg]; exact Nat.ne_of_lt (blk_lt (g := gb239) (o := .cells #[.bool a0_0, .int .u64 a0_1, .int .u64 a0_2] 140 (0, 0)) (bk BK239)) : gb239 ≠ gb240)); have n6_ := Aside0.mk ((by rw [hg]; exact Nat.ne_of_gt (blk_lt (g := gb239) (o := .cells #[.bool a0_0, .int .u64 a0_1, .int .u64 a0_2] 140 (0, 0)) (bk BK239)) : gb240 ≠ gb239)); clear BK239; clear HB; have BK239 := n0_; have HB := n1_; have BK240 := n2_; have GW240 := n3_; have GE240 := n4_; have NB239_240 := n5_; have NB240_239 := n6_; clear n0_ n1_ n2_ n3_ n4_ n5_ n6_; clear hb hbox hg))
     have n0_ := Aside0.mk (blk_drew BK239.out)
     have n1_ := Aside0.mk (blk_drew BK240.out)
     have n2_ := Aside0.mk (below_drew1 HB.out)
     clear BK239 BK240 HB
     have BK239 := n0_
     have BK240 := n1_
     have HB := n2_
     clear n0_ n1_ n2_
     refine start_ (n := 18) (S := fun w' => w'.cell? ⟨gb239, 0, none⟩ = some (.bool a0_0) ∧ w'.cell? ⟨gb239, 1, none⟩ = some (.int .u64 a0_1) ∧ w'.cell? ⟨gb239, 2, none⟩ = some (.int .u64 a0_2)) (ds := []) #[fF, fF, fF, fF, fF, fF, fF, fF, fF, fF, fF, fF, fF, fF, fF, fF, fF, fF] kf rfl rfl ⟨(blk_cell BK239.out 0).trans rfl, (blk_cell BK239.out 1).trans rfl, (blk_cell BK239.out 2).trans rfl⟩ (fun hHeld => ?_); refine with_tabW impl_wide_shift.tab4 impl_wide_shift.bits4 (fun HT_ HW_ => ?_)
     generalize w22.drew = w23 at BK239 BK240 HB hHeld ⊢
     refine pq (i := 0) (N := some 17) #[tT, fF, fF, fF, fF, fF, fF, fF, fF, fF, fF, fF, fF, fF, fF, fF, fF, fF] rfl rfl HT_.out ?_
     refine pq (i := 2) (N := some 19) #[tT, fF, tT, fF, fF, fF, fF, fF, fF, fF, fF, fF, fF, fF, fF, fF, fF, fF] rfl rfl HT_.out ?_
     refine pq (i := 4) (N := some 21) #[tT, fF, tT, fF, tT, fF, fF, fF, fF, fF, fF, fF, fF, fF, fF, fF, fF, fF] rfl rfl HT_.out ?_
     refine pq (i := 6) (N := some 23) #[tT, fF, tT, fF, tT, fF, tT, fF, fF, fF, fF, fF, fF, fF, fF, fF, fF, fF] rfl rfl HT_.out ?_
     refine pq (i := 8) (N := some 25) #[tT, fF, tT, fF, tT, fF, tT, fF, tT, fF, fF, fF, fF, fF, fF, fF, fF, fF] rfl rfl HT_.out ?_
     refine pq (i := 9) (N := some 26) #[tT, fF, tT, fF, tT, fF, tT, fF, tT, tT, fF, fF, fF, fF, fF, fF, fF, fF] rfl rfl HT_.out ?_
     refine pq (i := 12) (N := some 29) #[tT, fF, tT, fF, tT, fF, tT, fF, tT, tT, fF, fF, tT, fF, fF, fF, fF, fF] rfl rfl HT_.out ?_
     refine pq (i := 14) (N := some 31) #[tT, fF, tT, fF, tT, fF, tT, fF, tT, tT, fF, fF, tT, fF, tT, fF, fF, fF] rfl rfl HT_.out ?_
     refine tq3 (i := 1) (N := some 18) #[tT, tT, tT, fF, tT, fF, tT, fF, tT, tT, fF, fF, tT, fF, tT, fF, fF, fF] rfl rfl HT_.out HW_.out hHeld ?_
     refine tq3 (i := 3) (N := some 20) #[tT, tT, tT, tT, tT, fF, tT, fF, tT, tT, fF, fF, tT, fF, tT, fF, fF, fF] rfl rfl HT_.out HW_.out hHeld ?_
     refine pq (i := 5) (N := some 22) #[tT, tT, tT, tT, tT, tT, tT, fF, tT, tT, fF, fF, tT, fF, tT, fF, fF, fF] rfl rfl HT_.out ?_
     refine tq3 (i := 7) (N := some 24) #[tT, tT, tT, tT, tT, tT, tT, tT, tT, tT, fF, fF, tT, fF, tT, fF, fF, fF] rfl rfl HT_.out HW_.out hHeld ?_
     refine pq (i := 10) (N := some 27) #[tT, tT, tT, tT, tT, tT, tT, tT, tT, tT, tT, fF, tT, fF, tT, fF, fF, fF] rfl rfl HT_.out ?_
     refine pq (i := 11) (N := some 28) #[tT, tT, tT, tT, tT, tT, tT, tT, tT, tT, tT, tT, tT, fF, tT, fF, fF, fF] rfl rfl HT_.out ?_
     refine tq3 (i := 13) (N := some 30) #[tT, tT, tT, tT, tT, tT, tT, tT, tT, tT, tT, tT, tT, tT, tT, fF, fF, fF] rfl rfl HT_.out HW_.out hHeld ?_
     refine pq (i := 15) (N := some 32) #[tT, tT, tT, tT, tT, tT, tT, tT, tT, tT, tT, tT, tT, tT, tT, tT, fF, fF] rfl rfl HT_.out ?_
     refine pq (i := 16) (N := some 33) #[tT, tT, tT, tT, tT, tT, tT, tT, tT, tT, tT, tT, tT, tT, tT, tT, tT, fF] rfl rfl HT_.out ?_
     refine one_ (i := 17) (N := none) #[tT, tT, tT, tT, tT, tT, tT, tT, tT, tT, tT, tT, tT, tT, tT, tT, tT, tT] rfl rfl (one_of HT_.out kf) (by decide) (fun K hK => ?_)
     have hs24 : w23.cell? ⟨gb240, 0, none⟩ = some (.bool false) := (blk_cell BK240.out 0).trans rfl
     have hfs24 := blk_frozen BK240.out 0
     have hns24_0 := NB239_240.out
     have hms24_0 := NB240_239.out
     have hs25 : w23.cell? ⟨gb240, 1, none⟩ = some (.int .u64 0) := (blk_cell BK240.out 1).trans rfl
     have hfs25 := blk_frozen BK240.out 1
     have hns25_0 := NB239_240.out
     have hms25_0 := NB240_239.out
     have hs26 : w23.cell? ⟨gb240, 2, none⟩ = some (.int .u64 0) := (blk_cell BK240.out 2).trans rfl
     have hfs26 := blk_frozen BK240.out 2
     have hns26_0 := NB239_240.out
     have hms26_0 := NB240_239.out
     refine skip_ (w1 := ?_) (by rfl) rfl ?_ ?_
     rotate_left
     ·go_simp
      rfl
     refine hK.out _ _ ⟨((cell_far (p := ⟨gb240, _, none⟩) NB239_240.out _).trans (((cell_far (p := ⟨gb240, _, none⟩) NB239_240.out _).trans (((cell_far (p := ⟨gb240, _, none⟩) NB239_240.out _).trans (hHeld.1)))))), ((cell_far (p := ⟨gb240, _, none⟩) NB239_240.out _).trans (((cell_far (p := ⟨gb240, _, none⟩) NB239_240.out _).trans (((cell_far (p := ⟨gb240, _, none⟩) NB239_240.out _).trans (hHeld.2.1)))))), ((cell_far (p := ⟨gb240, _, none⟩) NB239_240.out _).trans (((cell_far (p := ⟨gb240, _, none⟩) NB239_240.out _).trans (((cell_far (p := ⟨gb240, _, none⟩) NB239_240.out _).trans (hHeld.2.2))))))⟩ (fun hHeld => ?_)
     clear hK K
     refine done_ (done_of HT_.out kf) ?_
     try go_wp2
     refine bodyPost_ret (results_cell_row rfl _ _ gb240 140 #[.bool a0_0, .int .u64 (Go.bits .or .u64 (ji15) (ji18)), .int .u64 ji20] (0, 0) _ rfl (by (with_reducible repeat (first | refine blk_drewN ?_ _ | refine blk_drew ?_ | refine blk_alloc ?_ _)); refine blk_put (cs := #[.bool a0_0, .int .u64 (Go.bits .or .u64 (ji15) (ji18)), .int .u64 0]) ?_ 2 _ rfl; (with_reducible repeat (first | refine blk_drewN ?_ _ | refine blk_drew ?_ | refine blk_alloc ?_ _)); refine blk_put (cs := #[.bool a0_0, .int .u64 0, .int .u64 0]) ?_ 1 _ rfl; (with_reducible repeat (first | refine blk_drewN ?_ _ | refine blk_drew ?_ | refine blk_alloc ?_ _)); refine blk_put (cs := #[.bool false, .int .u64 0, .int .u64 0]) ?_ 0 _ rfl; (with_reducible repeat (first | refine blk_drewN ?_ _ | refine blk_drew ?_ | refine blk_alloc ?_ _)); exact BK240.out) Try.underlying140 rfl kf) rfl ?_
     exact ⟨by first | rfl | (simp [errW_none, errW_some] <;> rfl) | (simp only [← hji15, ← hji16, ← hji18, ← hji20]; first | rfl | (simp [errW_none, errW_some] <;> rfl)) | (simp [*, errW_none, errW_some] <;> rfl), bz2 GE239 GE240⟩
    ·rw [if_neg c17] at H
     exact absurd H (by simp)
   ·rw [if_neg c14] at H
    exact absurd H (by simp)
 ·rw [if_neg c3] at H
  have c3b0 : decide (0 ≤ a1) = false := decide_eq_false c3
  clear c3
  by_cases c27 : (wrap64 (-a1)) ≥ 64
  ·rw [if_pos c27] at H
   have c27b0 : decide (64 ≤ (wrap64 (-a1))) = true := decide_eq_true c27
   (try (have c27b0w : decide (64 ≤ (IntKind.i64.wrap (-a1))) = true := by simp only [i64_w]; exact c27b0))
   clear c27
   obtain ⟨ji28, hji28⟩ : ∃ j_ : Int, (wrap64 ((wrap64 (-a1)) - 64)) = j_ := ⟨_, rfl⟩
   first | rw [hji28] at H | simp only [hji28] at H
   have hji28w : (IntKind.i64.wrap ((wrap64 (-a1)) - 64)) = ji28 := (i64_w _).trans hji28
   by_cases c29 : 0 ≤ (ji28)
   ·rw [if_pos c29] at H
    have c29b0 := eq_true c29
    have c29b1 : decide (0 ≤ (ji28)) = true := decide_eq_true c29
    clear c29
    obtain ⟨ji30, hji30⟩ : ∃ j_ : Int, (shr .u64 a0_1 (ji28)) = j_ := ⟨_, rfl⟩
    first | rw [hji30] at H | simp only [hji30] at H
    have hji30_ : (a0_1 / 2 ^ min (ji28).toNat 64) = ji30 := hji30
    have hji30z : (ji28) ≤ 64 → (a0_1 / 2 ^ (ji28).toNat) = ji30 := shr_small hji30
    simp only [Option.some.injEq, Prod.mk.injEq] at H
    obtain ⟨rfl, rfl, rfl⟩ := H
    go_enter Try.func129, Try.ntmps129
    try go_wp2_with (first | ((with_reducible refine gate_dst (N := 2) rfl ?_); refine bv (N := 2) (cs := #[.bool a0_0, .int .u64 a0_1, .int .u64 a0_2]) (t := 140) ?_; intro gb239 hg w31 hbox hb; have n0_ := Aside0.mk (below_step bz hb); have n1_ := Aside0.mk (hbox); have n2_ := (gz hg : Aside0 (w.heap.size ≤ _)); have n3_ := (gz hg : Aside0 (w.heap.size ≤ _)); clear HB; have HB := n0_; have BK239 := n1_; have GW239 := n2_; have GE239 := n3_; clear n0_ n1_ n2_ n3_; clear hb hbox hg) | ((with_reducible refine gate_dst (N := 4) rfl ?_); refine bv (N := 4) (cs := #[.bool false, .int .u64 0, .int .u64 0]) (t := 140) ?_; intro gb240 hg w32 hbox hb; have n0_ := bb BK239 hb; have n1_ := Aside0.mk (below_step (bz1 GE239) hb); have n2_ := Aside0.mk (hbox); have n3_ := Aside0.mk ((by rw [hg]; exact (below_size (bz1 GE239)) : w.heap.size ≤ gb240)); have n4_ := Aside0.mk ((by rw [hg]; exact (below_size (bz1 GE239)) : w.heap.size ≤ gb240)); have n5_ := Aside0.mk ((by rw [hg]; exact Nat.ne_of_lt (blk_lt (g := gb239) (o := .cells #[.bool a0_0, .int .u64 a0_1, .int .u64 a0_2] 140 (0, 0)) (bk BK239)) : gb239 ≠ gb240)); have n6_ := Aside0.mk ((by rw [hg]; exact Nat.ne_of_gt (blk_lt (g := gb239) (o := .cells #[.bool a0_0, .int .u64 a0_1, .int .u64 a0_2] 140 (0, 0)) (bk BK239)) : gb240 ≠ gb239)); clear BK239; clear HB; have BK239 := n0_; have HB := n1_; have BK240 := n2_; have GW240 := n3_; have GE240 := n4_; have NB239_240 := n5_; have NB240_239 := n6_; clear n0_ n1_ n2_ n3_ n4_ n5_ n6_; clear hb hbox hg))
    have n0_ := Aside0.mk (blk_drew BK239.out)
    have n1_ := Aside0.mk (blk_drew BK240.out)
    have n2_ := Aside0.mk (below_drew1 HB.out)
    clear BK239 BK240 HB
    have BK239 := n0_
    have BK240 := n1_
    have HB := n2_
    clear n0_ n1_ n2_
    refine start_ (n := 9) (S := fun w' => w'.cell? ⟨gb239, 0, none⟩ = some (.bool a0_0) ∧ w'.cell? ⟨gb239, 1, none⟩ = some (.int .u64 a0_1) ∧ w'.cell? ⟨gb239, 2, none⟩ = some (.int .u64 a0_2)) (ds := []) #[fF, fF, fF, fF, fF, fF, fF, fF, fF] kf rfl rfl ⟨(blk_cell BK239.out 0).trans rfl, (blk_cell BK239.out 1).trans rfl, (blk_cell BK239.out 2).trans rfl⟩ (fun hHeld => ?_); refine with_tabW impl_wide_shift.tab7 impl_wide_shift.bits7 (fun HT_ HW_ => ?_)
    generalize w32.drew = w33 at BK239 BK240 HB hHeld ⊢
    refine pq (i := 0) (N := some 38) #[tT, fF, fF, fF, fF, fF, fF, fF, fF] rfl rfl HT_.out ?_
    refine pq (i := 2) (N := some 40) #[tT, fF, tT, fF, fF, fF, fF, fF, fF] rfl rfl HT_.out ?_
    refine pq (i := 4) (N := some 42) #[tT, fF, tT, fF, tT, fF, fF, fF, fF] rfl rfl HT_.out ?_
    refine pq (i := 5) (N := some 43) #[tT, fF, tT, fF, tT, tT, fF, fF, fF] rfl rfl HT_.out ?_
    refine tq3 (i := 1) (N := some 39) #[tT, tT, tT, fF, tT, tT, fF, fF, fF] rfl rfl HT_.out HW_.out hHeld ?_
    refine tq3 (i := 3) (N := some 41) #[tT, tT, tT, tT, tT, tT, fF, fF, fF] rfl rfl HT_.out HW_.out hHeld ?_
    refine pq (i := 6) (N := some 44) #[tT, tT, tT, tT, tT, tT, tT, fF, fF] rfl rfl HT_.out ?_
    refine pq (i := 7) (N := some 45) #[tT, tT, tT, tT, tT, tT, tT, tT, fF] rfl rfl HT_.out ?_
    refine one_ (i := 8) (N := none) #[tT, tT, tT, tT, tT, tT, tT, tT, tT] rfl rfl (one_of HT_.out kf) (by decide) (fun K hK => ?_)
    have hs34 : w33.cell? ⟨gb240, 0, none⟩ = some (.bool false) := (blk_cell BK240.out 0).trans rfl
    have hfs34 := blk_frozen BK240.out 0
    have hns34_0 := NB239_240.out
    have hms34_0 := NB240_239.out
    have hs35 : w33.cell? ⟨gb240, 1, none⟩ = some (.int .u64 0) := (blk_cell BK240.out 1).trans rfl
    have hfs35 := blk_frozen BK240.out 1
    have hns35_0 := NB239_240.out
    have hms35_0 := NB240_239.out
    have hs36 : w33.cell? ⟨gb240, 2, none⟩ = some (.int .u64 0) := (blk_cell BK240.out 2).trans rfl
    have hfs36 := blk_frozen BK240.out 2
    have hns36_0 := NB239_240.out
    have hms36_0 := NB240_239.out
    refine skip_ (w1 := ?_) (by rfl) rfl ?_ ?_
    rotate_left
    ·go_simp
     rfl
    refine hK.out _ _ ⟨((cell_far (p := ⟨gb240, _, none⟩) NB239_240.out _).trans (((cell_far (p := ⟨gb240, _, none⟩) NB239_240.out _).trans (((cell_far (p := ⟨gb240, _, none⟩) NB239_240.out _).trans (hHeld.1)))))), ((cell_far (p := ⟨gb240, _, none⟩) NB239_240.out _).trans (((cell_far (p := ⟨gb240, _, none⟩) NB239_240.out _).trans (((cell_far (p := ⟨gb240, _, none⟩) NB239_240.out _).trans (hHeld.2.1)))))), ((cell_far (p := ⟨gb240, _, none⟩) NB239_240.out _).trans (((cell_far (p := ⟨gb240, _, none⟩) NB239_240.out _).trans (((cell_far (p := ⟨gb240, _, none⟩) NB239_240.out _).trans (hHeld.2.2))))))⟩ (fun hHeld => ?_)
    clear hK K
    refine done_ (done_of HT_.out kf) ?_
    try go_wp2
    refine bodyPost_ret (results_cell_row rfl _ _ gb240 140 #[.bool a0_0, .int .u64 0, .int .u64 ji30] (0, 0) _ rfl (by (with_reducible repeat (first | refine blk_drewN ?_ _ | refine blk_drew ?_ | refine blk_alloc ?_ _)); refine blk_put (cs := #[.bool a0_0, .int .u64 0, .int .u64 0]) ?_ 2 _ rfl; (with_reducible repeat (first | refine blk_drewN ?_ _ | refine blk_drew ?_ | refine blk_alloc ?_ _)); refine blk_put (cs := #[.bool a0_0, .int .u64 0, .int .u64 0]) ?_ 1 _ rfl; (with_reducible repeat (first | refine blk_drewN ?_ _ | refine blk_drew ?_ | refine blk_alloc ?_ _)); refine blk_put (cs := #[.bool false, .int .u64 0, .int .u64 0]) ?_ 0 _ rfl; (with_reducible repeat (first | refine blk_drewN ?_ _ | refine blk_drew ?_ | refine blk_alloc ?_ _)); exact BK240.out) Try.underlying140 rfl kf) rfl ?_
    exact ⟨by first | rfl | (simp [errW_none, errW_some] <;> rfl) | (simp only [← hji28, ← hji30]; first | rfl | (simp [errW_none, errW_some] <;> rfl)) | (simp [*, errW_none, errW_some] <;> rfl), bz2 GE239 GE240⟩
   ·rw [if_neg c29] at H
    exact absurd H (by simp)
  ·rw [if_neg c27] at H
   have c27b0 : decide (64 ≤ (wrap64 (-a1))) = false := decide_eq_false c27
   (try (have c27b0w : decide (64 ≤ (IntKind.i64.wrap (-a1))) = false := by simp only [i64_w]; exact c27b0))
   clear c27
   obtain ⟨ji37, hji37⟩ : ∃ j_ : Int, (wrap64 (-a1)) = j_ := ⟨_, rfl⟩
   first | rw [hji37] at H | simp only [hji37] at H
   (try rw [hji37] at c27b0)
   have hji37w : (IntKind.i64.wrap (-a1)) = ji37 := (i64_w _).trans hji37
   by_cases c38 : 0 ≤ (ji37)
   ·rw [if_pos c38] at H
    have c38b0 := eq_true c38
    have c38b1 : decide (0 ≤ (ji37)) = true := decide_eq_true c38
    clear c38
    obtain ⟨ji39, hji39⟩ : ∃ j_ : Int, (shr .u64 a0_1 (ji37)) = j_ := ⟨_, rfl⟩
    first | rw [hji39] at H | simp only [hji39] at H
    have hji39_ : (a0_1 / 2 ^ min (ji37).toNat 64) = ji39 := hji39
    have hji39z : (ji37) ≤ 64 → (a0_1 / 2 ^ (ji37).toNat) = ji39 := shr_small hji39
    have c40b0 := eq_true (of_decide_eq_true am : 0 ≤ (ji37))
    obtain ⟨ji41, hji41⟩ : ∃ j_ : Int, (shr .u64 a0_2 (ji37)) = j_ := ⟨_, rfl⟩
    first | rw [hji41] at H | simp only [hji41] at H
    have hji41_ : (a0_2 / 2 ^ min (ji37).toNat 64) = ji41 := hji41
    have hji41z : (ji37) ≤ 64 → (a0_2 / 2 ^ (ji37).toNat) = ji41 := shr_small hji41
    obtain ⟨ji42, hji42⟩ : ∃ j_ : Int, (wrap64 (64 - (ji37))) = j_ := ⟨_, rfl⟩
    first | rw [hji42] at H | simp only [hji42] at H
    have hji42w : (IntKind.i64.wrap (64 - (ji37))) = ji42 := (i64_w _).trans hji42
    by_cases c43 : 0 ≤ (ji42)
    ·rw [if_pos c43] at H
     have c43b0 := eq_true c43
     have c43b1 : decide (0 ≤ (ji42)) = true := decide_eq_true c43
     clear c43
     obtain ⟨ji44, hji44⟩ : ∃ j_ : Int, (shl .u64 a0_1 (ji42)) = j_ := ⟨_, rfl⟩
     first | rw [hji44] at H | simp only [hji44] at H
     have hji44_ : (IntKind.u64.wrap (a0_1 * 2 ^ min (ji42).toNat 64)) = ji44 := hji44
     have hji44z : (ji42) ≤ 64 → (IntKind.u64.wrap (a0_1 * 2 ^ (ji42).toNat)) = ji44 := shl_small hji44
     simp only [Option.some.injEq, Prod.mk.injEq] at H
     obtain ⟨rfl, rfl, rfl⟩ := H
     go_enter Try.func129, Try.ntmps129
     try go_wp2_with (first | ((with_reducible refine gate_dst (N := 2) rfl ?_); refine bv (N := 2) (cs := #[.bool a0_0, .int .u64 a0_1, .int .u64 a0_2]) (t := 140) ?_; intro gb239 hg w45 hbox hb; have n0_ := Aside0.mk (below_step bz hb); have n1_ := Aside0.mk (hbox); have n2_ := (gz hg : Aside0 (w.heap.size ≤ _)); have n3_ := (gz hg : Aside0 (w.heap.size ≤ _)); clear HB; have HB := n0_; have BK239 := n1_; have GW239 := n2_; have GE239 := n3_; clear n0_ n1_ n2_ n3_; clear hb hbox hg) | ((with_reducible refine gate_dst (N := 4) rfl ?_); refine bv (N := 4) (cs := #[.bool false, .int .u64 0, .int .u64 0]) (t := 140) ?_; intro gb240 hg w46 hbox hb; have n0_ := bb BK239 hb; have n1_ := Aside0.mk (below_step (bz1 GE239) hb); have n2_ := Aside0.mk (hbox); have n3_ := Aside0.mk ((by rw [hg]; exact (below_size (bz1 GE239)) : w.heap.size ≤ gb240)); have n4_ := Aside0.mk ((by rw [hg]; exact (below_size (bz1 GE239)) : w.heap.size ≤ gb240)); have n5_ := Aside0.mk ((by rw [hg]; exact Nat.ne_of_lt (blk_lt (g := gb239) (o := .cells #[.bool a0_0, .int .u64 a0_1, .int .u64 a0_2] 140 (0, 0)) (bk BK239)) : gb239 ≠ gb240)); have n6_ := Aside0.mk ((by rw [hg]; exact Nat.ne_of_gt (blk_lt (g := gb239) (o := .cells #[.bool a0_0, .int .u64 a0_1, .int .u64 a0_2] 140 (0, 0)) (bk BK239)) : gb240 ≠ gb239)); clear BK239; clear HB; have BK239 := n0_; have HB := n1_; have BK240 := n2_; have GW240 := n3_; have GE240 := n4_; have NB239_240 := n5_; have NB240_239 := n6_; clear n0_ n1_ n2_ n3_ n4_ n5_ n6_; clear hb hbox hg))
     have n0_ := Aside0.mk (blk_drew BK239.out)
     have n1_ := Aside0.mk (blk_drew BK240.out)
     have n2_ := Aside0.mk (below_drew1 HB.out)
     clear BK239 BK240 HB
     have BK239 := n0_
     have BK240 := n1_
     have HB := n2_
     clear n0_ n1_ n2_
     refine start_ (n := 18) (S := fun w' => w'.cell? ⟨gb239, 0, none⟩ = some (.bool a0_0) ∧ w'.cell? ⟨gb239, 1, none⟩ = some (.int .u64 a0_1) ∧ w'.cell? ⟨gb239, 2, none⟩ = some (.int .u64 a0_2)) (ds := []) #[fF, fF, fF, fF, fF, fF, fF, fF, fF, fF, fF, fF, fF, fF, fF, fF, fF, fF] kf rfl rfl ⟨(blk_cell BK239.out 0).trans rfl, (blk_cell BK239.out 1).trans rfl, (blk_cell BK239.out 2).trans rfl⟩ (fun hHeld => ?_); refine with_tabW impl_wide_shift.tab8 impl_wide_shift.bits8 (fun HT_ HW_ => ?_)
     generalize w46.drew = w47 at BK239 BK240 HB hHeld ⊢
     refine pq (i := 0) (N := some 46) #[tT, fF, fF, fF, fF, fF, fF, fF, fF, fF, fF, fF, fF, fF, fF, fF, fF, fF] rfl rfl HT_.out ?_
     refine pq (i := 2) (N := some 48) #[tT, fF, tT, fF, fF, fF, fF, fF, fF, fF, fF, fF, fF, fF, fF, fF, fF, fF] rfl rfl HT_.out ?_
     refine pq (i := 4) (N := some 50) #[tT, fF, tT, fF, tT, fF, fF, fF, fF, fF, fF, fF, fF, fF, fF, fF, fF, fF] rfl rfl HT_.out ?_
     refine pq (i := 6) (N := some 52) #[tT, fF, tT, fF, tT, fF, tT, fF, fF, fF, fF, fF, fF, fF, fF, fF, fF, fF] rfl rfl HT_.out ?_
     refine pq (i := 8) (N := some 54) #[tT, fF, tT, fF, tT, fF, tT, fF, tT, fF, fF, fF, fF, fF, fF, fF, fF, fF] rfl rfl HT_.out ?_
     refine pq (i := 10) (N := some 56) #[tT, fF, tT, fF, tT, fF, tT, fF, tT, fF, tT, fF, fF, fF, fF, fF, fF, fF] rfl rfl HT_.out ?_
     refine pq (i := 12) (N := some 58) #[tT, fF, tT, fF, tT, fF, tT, fF, tT, fF, tT, fF, tT, fF, fF, fF, fF, fF] rfl rfl HT_.out ?_
     refine pq (i := 13) (N := some 59) #[tT, fF, tT, fF, tT, fF, tT, fF, tT, fF, tT, fF, tT, tT, fF, fF, fF, fF] rfl rfl HT_.out ?_
     refine tq3 (i := 1) (N := some 47) #[tT, tT, tT, fF, tT, fF, tT, fF, tT, fF, tT, fF, tT, tT, fF, fF, fF, fF] rfl rfl HT_.out HW_.out hHeld ?_
     refine tq3 (i := 3) (N := some 49) #[tT, tT, tT, tT, tT, fF, tT, fF, tT, fF, tT, fF, tT, tT, fF, fF, fF, fF] rfl rfl HT_.out HW_.out hHeld ?_
     refine pq (i := 5) (N := some 51) #[tT, tT, tT, tT, tT, tT, tT, fF, tT, fF, tT, fF, tT, tT, fF, fF, fF, fF] rfl rfl HT_.out ?_
     refine tq3 (i := 7) (N := some 53) #[tT, tT, tT, tT, tT, tT, tT, tT, tT, fF, tT, fF, tT, tT, fF, fF, fF, fF] rfl rfl HT_.out HW_.out hHeld ?_
     refine pq (i := 9) (N := some 55) #[tT, tT, tT, tT, tT, tT, tT, tT, tT, tT, tT, fF, tT, tT, fF, fF, fF, fF] rfl rfl HT_.out ?_
     refine tq3 (i := 11) (N := some 57) #[tT, tT, tT, tT, tT, tT, tT, tT, tT, tT, tT, tT, tT, tT, fF, fF, fF, fF] rfl rfl HT_.out HW_.out hHeld ?_
     refine pq (i := 14) (N := some 60) #[tT, tT, tT, tT, tT, tT, tT, tT, tT, tT, tT, tT, tT, tT, tT, fF, fF, fF] rfl rfl HT_.out ?_
     refine pq (i := 15) (N := some 61) #[tT, tT, tT, tT, tT, tT, tT, tT, tT, tT, tT, tT, tT, tT, tT, tT, fF, fF] rfl rfl HT_.out ?_
     refine pq (i := 16) (N := some 62) #[tT, tT, tT, tT, tT, tT, tT, tT, tT, tT, tT, tT, tT, tT, tT, tT, tT, fF] rfl rfl HT_.out ?_
     refine one_ (i := 17) (N := none) #[tT, tT, tT, tT, tT, tT, tT, tT, tT, tT, tT, tT, tT, tT, tT, tT, tT, tT] rfl rfl (one_of HT_.out kf) (by decide) (fun K hK => ?_)
     have hs48 : w47.cell? ⟨gb240, 0, none⟩ = some (.bool false) := (blk_cell BK240.out 0).trans rfl
     have hfs48 := blk_frozen BK240.out 0
     have hns48_0 := NB239_240.out
     have hms48_0 := NB240_239.out
     have hs49 : w47.cell? ⟨gb240, 1, none⟩ = some (.int .u64 0) := (blk_cell BK240.out 1).trans rfl
     have hfs49 := blk_frozen BK240.out 1
     have hns49_0 := NB239_240.out
     have hms49_0 := NB240_239.out
     have hs50 : w47.cell? ⟨gb240, 2, none⟩ = some (.int .u64 0) := (blk_cell BK240.out 2).trans rfl
     have hfs50 := blk_frozen BK240.out 2
     have hns50_0 := NB239_240.out
     have hms50_0 := NB240_239.out
     refine skip_ (w1 := ?_) (by rfl) rfl ?_ ?_
     rotate_left
     ·go_simp
      rfl
     refine hK.out _ _ ⟨((cell_far (p := ⟨gb240, _, none⟩) NB239_240.out _).trans (((cell_far (p := ⟨gb240, _, none⟩) NB239_240.out _).trans (((cell_far (p := ⟨gb240, _, none⟩) NB239_240.out _).trans (hHeld.1)))))), ((cell_far (p := ⟨gb240, _, none⟩) NB239_240.out _).trans (((cell_far (p := ⟨gb240, _, none⟩) NB239_240.out _).trans (((cell_far (p := ⟨gb240, _, none⟩) NB239_240.out _).trans (hHeld.2.1)))))), ((cell_far (p := ⟨gb240, _, none⟩) NB239_240.out _).trans (((cell_far (p := ⟨gb240, _, none⟩) NB239_240.out _).trans (((cell_far (p := ⟨gb240, _, none⟩) NB239_240.out _).trans (hHeld.2.2))))))⟩ (fun hHeld => ?_)
     clear hK K
     refine done_ (done_of HT_.out kf) ?_
     try go_wp2
     refine bodyPost_ret (results_cell_row rfl _ _ gb240 140 #[.bool a0_0, .int .u64 ji39, .int .u64 (Go.bits .or .u64 (ji41) (ji44))] (0, 0) _ rfl (by (with_reducible repeat (first | refine blk_drewN ?_ _ | refine blk_drew ?_ | refine blk_alloc ?_ _)); refine blk_put (cs := #[.bool a0_0, .int .u64 ji39, .int .u64 0]) ?_ 2 _ rfl; (with_reducible repeat (first | refine blk_drewN ?_ _ | refine blk_drew ?_ | refine blk_alloc ?_ _)); refine blk_put (cs := #[.bool a0_0, .int .u64 0, .int .u64 0]) ?_ 1 _ rfl; (with_reducible repeat (first | refine blk_drewN ?_ _ | refine blk_drew ?_ | refine blk_alloc ?_ _)); refine blk_put (cs := #[.bool false, .int .u64 0, .int .u64 0]) ?_ 0 _ rfl; (with_reducible repeat (first | refine blk_drewN ?_ _ | refine blk_drew ?_ | refine blk_alloc ?_ _)); exact BK240.out) Try.underlying140 rfl kf) rfl ?_
     exact ⟨by first | rfl | (simp [errW_none, errW_some] <;> rfl) | (simp only [← hji37, ← hji39, ← hji41, ← hji42, ← hji44]; first | rfl | (simp [errW_none, errW_some] <;> rfl)) | (simp [*, errW_none, errW_some] <;> rfl), bz2 GE239 GE240⟩
    ·rw [if_neg c43] at H
     exact absurd H (by simp)
   ·rw [if_neg c38] at H
    exact absurd H (by simp)
def impl_wide_isZero.f (a0_0 : Bool) (a0_1 : Int) (a0_2 : Int) : Option (Bool) := if a0_1 = 0 then (some (a0_2 == 0)) else (some false)
set_option maxHeartbeats 8000000 in
set_option maxRecDepth 100000 in
theorem impl_wide_isZero.calls (a0_0 : Bool) (a0_1 : Int) (a0_2 : Int) (r : Bool) (w : World) (h : impl_wide_isZero.f a0_0 a0_1 a0_2 = some r) :
 Calls Try.prog 143 #[.agg #[.bool a0_0, .int .u64 a0_1, .int .u64 a0_2]] w fun e w' => e = .returned (.bool r) ∧ Below w.heap.size w w' := by
 have hu140 := Try.underlying140
 have HB := Aside0.mk (Below.refl w.heap.size w)
 have H : (if a0_1 = 0 then (some (a0_2 == 0)) else (some false)) = some r := h
 clear h
 by_cases c2 : a0_1 = 0
 ·rw [if_pos c2] at H
  have c2b0 : (a0_1 == 0) = true := beq_iff_eq.mpr c2
  have c2b1 : (a0_1 != 0) = false := bne_eq_false_iff_eq.mpr c2
  clear c2
  obtain rfl := Option.some.inj H
  go_enter Try.func143, Try.ntmps143
  go_wp2_with (first | ((with_reducible refine gate_dst (N := 1) rfl ?_); refine bv (N := 1) (cs := #[.bool a0_0, .int .u64 a0_1, .int .u64 a0_2]) (t := 140) ?_; intro gb241 hg w3 hbox hb; have n0_ := Aside0.mk (below_step bz hb); have n1_ := Aside0.mk (hbox); have n2_ := (gz hg : Aside0 (w.heap.size ≤ _)); have n3_ := (gz hg : Aside0 (w.heap.size ≤ _)); clear HB; have HB := n0_; have BK241 := n1_; have GW241 := n2_; have GE241 := n3_; clear n0_ n1_ n2_ n3_; clear hb hbox hg; have hcz4_0 : w3.cell? ⟨gb241, 0, none⟩ = some (.bool a0_0) := (blk_cell BK241.out 0).trans rfl; have hcz4_1 : w3.cell? ⟨gb241, 1, none⟩ = some (.int .u64 a0_1) := (blk_cell BK241.out 1).trans rfl; have hcz4_2 : w3.cell? ⟨gb241, 2, none⟩ = some (.int .u64 a0_2) := (blk_cell BK241.out 2).trans rfl; have hfz4_0 := blk_frozen BK241.out 0; have hfz4_1 := blk_frozen BK241.out 1; have hfz4_2 := blk_frozen BK241.out 2))
  go_ret
  exact ⟨er, bz1 GE241⟩
 ·rw [if_neg c2] at H
  have c2b0 : (a0_1 == 0) = false := beq_eq_false_iff_ne.mpr c2
  have c2b1 : (a0_1 != 0) = true := bne_iff_ne.mpr c2
  obtain rfl := Option.some.inj H
  go_enter Try.func143, Try.ntmps143
  go_wp2_with (first | ((with_reducible refine gate_dst (N := 1) rfl ?_); refine bv (N := 1) (cs := #[.bool a0_0, .int .u64 a0_1, .int .u64 a0_2]) (t := 140) ?_; intro gb241 hg w5 hbox hb; have n0_ := Aside0.mk (below_step bz hb); have n1_ := Aside0.mk (hbox); have n2_ := (gz hg : Aside0 (w.heap.size ≤ _)); have n3_ := (gz hg : Aside0 (w.heap.size ≤ _)); clear HB; have HB := n0_; have BK241 := n1_; have GW241 := n2_; have GE241 := n3_; clear n0_ n1_ n2_ n3_; clear hb hbox hg; have hcz6_0 : w5.cell? ⟨gb241, 0, none⟩ = some (.bool a0_0) := (blk_cell BK241.out 0).trans rfl; have hcz6_1 : w5.cell? ⟨gb241, 1, none⟩ = some (.int .u64 a0_1) := (blk_cell BK241.out 1).trans rfl; have hcz6_2 : w5.cell? ⟨gb241, 2, none⟩ = some (.int .u64 a0_2) := (blk_cell BK241.out 2).trans rfl; have hfz6_0 := blk_frozen BK241.out 0; have hfz6_1 := blk_frozen BK241.out 1; have hfz6_2 := blk_frozen BK241.out 2))
  go_ret
  exact ⟨er, bz1 GE241⟩
mutual
def impl_wide_fit.j1 : Nat → Int → Bool → Int → Int → Option (Int × Int × Bool)
 | 0, _, _, _, _ => none
 | k + 1, x1, x243000, x243001, x243002 => if x1 > 24 then (impl_wide_fit.j2 k x1 true x243000 x243001 x243002) else (if x243001 > 0 then (impl_wide_fit.j2 k x1 true x243000 x243001 x243002) else (impl_wide_fit.j2 k x1 (decide (x243002 > 1099511627776)) x243000 x243001 x243002))
def impl_wide_fit.j2 : Nat → Int → Bool → Bool → Int → Int → Option (Int × Int × Bool)
 | 0, _, _, _, _, _ => none
 | k + 1, x1, x33, x243000, x243001, x243002 => if x33 = true then (some (0, 0, false)) else (if x243000 = true then (some (wrap64 (-(wrap64 (x243002))), x1, true)) else (some (wrap64 (x243002), x1, true)))
def impl_wide_fit.l0 : Nat → Int → Bool → Int → Int → Option (Int × Int × Bool)
 | 0, _, _, _, _ => none
 | k + 1, x1, x243000, x243001, x243002 => if x1 > 0 then (if (Int.tmod x243002 2) = 0 then ((impl_wide_shift.f x243000 x243001 x243002 (-1)).bind fun bt245 => (impl_wide_fit.l0 k (wrap64 (x1 - 1)) bt245.1 bt245.2.1 bt245.2.2)) else (impl_wide_fit.j1 k x1 x243000 x243001 x243002)) else (impl_wide_fit.j1 k x1 x243000 x243001 x243002)
end
def impl_wide_fit.f (k : Nat) (a0_0 : Bool) (a0_1 : Int) (a0_2 : Int) (a1 : Int) : Option (Int × Int × Bool) := (impl_wide_isZero.f a0_0 a0_1 a0_2).bind fun t244 => (if t244 = true then (some (0, 0, true)) else (impl_wide_fit.l0 k a1 a0_0 a0_1 a0_2))
set_option maxHeartbeats 8000000 in
set_option maxRecDepth 100000 in
theorem impl_wide_fit.calls (k : Nat) (a0_0 : Bool) (a0_1 : Int) (a0_2 : Int) (a1 : Int) (r1 : Int) (r2 : Int) (r3 : Bool) (w : World) (h : impl_wide_fit.f k a0_0 a0_1 a0_2 a1 = some (r1, r2, r3)) :
 Calls Try.prog 131 #[.agg #[.bool a0_0, .int .u64 a0_1, .int .u64 a0_2], .int .i64 a1] w fun e w' => e = .returned (.tuple #[.agg #[.int .i64 r1, .int .i64 r2], .bool r3]) ∧ Below w.heap.size w w' := by
 have hu140 := Try.underlying140
 have hu44 := Try.underlying44
 have HB := Aside0.mk (Below.refl w.heap.size w)
 have H : ((impl_wide_isZero.f a0_0 a0_1 a0_2).bind fun t244 => (if t244 = true then (some (0, 0, true)) else (impl_wide_fit.l0 k a1 a0_0 a0_1 a0_2))) = some (r1, r2, r3) := h
 clear h
 obtain ⟨t244, A3, H⟩ := bi H
 by_cases c4 : t244 = true
 ·subst c4
  rw [if_pos rfl] at H
  simp only [Option.some.injEq, Prod.mk.injEq] at H
  obtain ⟨rfl, rfl, rfl⟩ := H
  go_enter Try.func131, Try.ntmps131
  go_wp2_with (first | ((with_reducible refine gate_dst (N := 2) rfl ?_); refine bv (N := 2) (cs := #[.bool a0_0, .int .u64 a0_1, .int .u64 a0_2]) (t := 140) ?_; intro gb242 hg w5 hbox hb; have n0_ := Aside0.mk (below_step bz hb); have n1_ := Aside0.mk (hbox); have n2_ := (gz hg : Aside0 (w.heap.size ≤ _)); have n3_ := (gz hg : Aside0 (w.heap.size ≤ _)); clear HB; have HB := n0_; have BK242 := n1_; have GW242 := n2_; have GE242 := n3_; clear n0_ n1_ n2_ n3_; clear hb hbox hg) | ((with_reducible refine gate_dst (N := 4) rfl ?_); refine bv (N := 4) (cs := #[.int .i64 0, .int .i64 0]) (t := 44) ?_; intro gb243 hg w6 hbox hb; have n0_ := bb BK242 hb; have n1_ := Aside0.mk (below_step (bz1 GE242) hb); have n2_ := Aside0.mk (hbox); have n3_ := Aside0.mk ((by rw [hg]; exact (below_size (bz1 GE242)) : w.heap.size ≤ gb243)); have n4_ := Aside0.mk ((by rw [hg]; exact (below_size (bz1 GE242)) : w.heap.size ≤ gb243)); have n5_ := Aside0.mk ((by rw [hg]; exact Nat.ne_of_lt (blk_lt (g := gb242) (o := .cells #[.bool a0_0, .int .u64 a0_1, .int .u64 a0_2] 140 (0, 0)) (bk BK242)) : gb242 ≠ gb243)); have n6_ := Aside0.mk ((by rw [hg]; exact Nat.ne_of_gt (blk_lt (g := gb242) (o := .cells #[.bool a0_0, .int .u64 a0_1, .int .u64 a0_2] 140 (0, 0)) (bk BK242)) : gb243 ≠ gb242)); clear BK242; clear HB; have BK242 := n0_; have HB := n1_; have BK243 := n2_; have GW243 := n3_; have GE243 := n4_; have NB242_243 := n5_; have NB243_242 := n6_; clear n0_ n1_ n2_ n3_ n4_ n5_ n6_; clear hb hbox hg; have hnb7 := NB242_243.out; have hnc7 := NB243_242.out; have hcz8_0 : w6.cell? ⟨gb242, 0, none⟩ = some (.bool a0_0) := (blk_cell BK242.out 0).trans rfl; have hcz8_1 : w6.cell? ⟨gb242, 1, none⟩ = some (.int .u64 a0_1) := (blk_cell BK242.out 1).trans rfl; have hcz8_2 : w6.cell? ⟨gb242, 2, none⟩ = some (.int .u64 a0_2) := (blk_cell BK242.out 2).trans rfl; have hfz8_0 := blk_frozen BK242.out 0; have hfz8_1 := blk_frozen BK242.out 1; have hfz8_2 := blk_frozen BK242.out 2) | ((with_reducible refine gate_callee (f := 143) rfl ?_); refine goesL_ (some 8) rfl rfl Try.func143 kf rfl #[.agg #[.bool a0_0, .int .u64 a0_1, .int .u64 a0_2]] rfl sm ?_; (with_reducible refine (impl_wide_isZero.calls a0_0 a0_1 a0_2 true _ A3.out).mono ?_); rintro e w9 ⟨rfl, hb⟩; refine ⟨_, rfl, ?_⟩; have n0_ := bb BK242 hb; have n1_ := bb BK243 hb; have n2_ := Aside0.mk (below_step (bz2 GE242 GE243) hb); clear BK242; clear BK243; clear HB; have BK242 := n0_; have BK243 := n1_; have HB := n2_; clear n0_ n1_ n2_; (try clear hb); (try clear hb2); (try clear hk); (try clear hi); have hcz10_0 : w9.cell? ⟨gb243, 0, none⟩ = some (.int .i64 0) := (blk_cell BK243.out 0).trans rfl; have hcz10_1 : w9.cell? ⟨gb243, 1, none⟩ = some (.int .i64 0) := (blk_cell BK243.out 1).trans rfl; have hfz10_0 := blk_frozen BK243.out 0; have hfz10_1 := blk_frozen BK243.out 1))
  refine bodyPost_ret (results_ct rfl _ _ gb243 44 #[.int .i64 0, .int .i64 0] (0, 0) _ rfl (by (with_reducible repeat (first | refine blk_drewN ?_ _ | refine blk_drew ?_ | refine blk_alloc ?_ _)); refine blk_put (cs := #[.int .i64 0, .int .i64 0]) ?_ 1 _ rfl; (with_reducible repeat (first | refine blk_drewN ?_ _ | refine blk_drew ?_ | refine blk_alloc ?_ _)); refine blk_put (cs := #[.int .i64 0, .int .i64 0]) ?_ 0 _ rfl; (with_reducible repeat (first | refine blk_drewN ?_ _ | refine blk_drew ?_ | refine blk_alloc ?_ _)); exact BK243.out) Try.underlying44 rfl kf) rfl ?_
  exact ⟨er, bz2 GE242 GE243⟩
 ·replace c4 := Bool.eq_false_iff.mpr c4
  subst c4
  rw [if_neg (show ¬ (false = true) by decide)] at H
  have HC11 := Aside0.mk H
  clear H
  go_enter Try.func131, Try.ntmps131
  go_upto_block 0 with (first | ((with_reducible refine gate_dst (N := 2) rfl ?_); refine bv (N := 2) (cs := #[.bool a0_0, .int .u64 a0_1, .int .u64 a0_2]) (t := 140) ?_; intro gb242 hg w12 hbox hb; have n0_ := Aside0.mk (below_step bz hb); have n1_ := Aside0.mk (hbox); have n2_ := (gz hg : Aside0 (w.heap.size ≤ _)); have n3_ := (gz hg : Aside0 (w.heap.size ≤ _)); clear HB; have HB := n0_; have BK242 := n1_; have GW242 := n2_; have GE242 := n3_; clear n0_ n1_ n2_ n3_; clear hb hbox hg) | ((with_reducible refine gate_dst (N := 4) rfl ?_); refine bv (N := 4) (cs := #[.int .i64 0, .int .i64 0]) (t := 44) ?_; intro gb243 hg w13 hbox hb; have n0_ := bb BK242 hb; have n1_ := Aside0.mk (below_step (bz1 GE242) hb); have n2_ := Aside0.mk (hbox); have n3_ := Aside0.mk ((by rw [hg]; exact (below_size (bz1 GE242)) : w.heap.size ≤ gb243)); have n4_ := Aside0.mk ((by rw [hg]; exact (below_size (bz1 GE242)) : w.heap.size ≤ gb243)); have n5_ := Aside0.mk ((by rw [hg]; exact Nat.ne_of_lt (blk_lt (g := gb242) (o := .cells #[.bool a0_0, .int .u64 a0_1, .int .u64 a0_2] 140 (0, 0)) (bk BK242)) : gb242 ≠ gb243)); have n6_ := Aside0.mk ((by rw [hg]; exact Nat.ne_of_gt (blk_lt (g := gb242) (o := .cells #[.bool a0_0, .int .u64 a0_1, .int .u64 a0_2] 140 (0, 0)) (bk BK242)) : gb243 ≠ gb242)); clear BK242; clear HB; have BK242 := n0_; have HB := n1_; have BK243 := n2_; have GW243 := n3_; have GE243 := n4_; have NB242_243 := n5_; have NB243_242 := n6_; clear n0_ n1_ n2_ n3_ n4_ n5_ n6_; clear hb hbox hg; have hnb14 := NB242_243.out; have hnc14 := NB243_242.out; have hcz15_0 : w13.cell? ⟨gb242, 0, none⟩ = some (.bool a0_0) := (blk_cell BK242.out 0).trans rfl; have hcz15_1 : w13.cell? ⟨gb242, 1, none⟩ = some (.int .u64 a0_1) := (blk_cell BK242.out 1).trans rfl; have hcz15_2 : w13.cell? ⟨gb242, 2, none⟩ = some (.int .u64 a0_2) := (blk_cell BK242.out 2).trans rfl; have hfz15_0 := blk_frozen BK242.out 0; have hfz15_1 := blk_frozen BK242.out 1; have hfz15_2 := blk_frozen BK242.out 2) | ((with_reducible refine gate_callee (f := 143) rfl ?_); refine goesL_ (some 8) rfl rfl Try.func143 kf rfl #[.agg #[.bool a0_0, .int .u64 a0_1, .int .u64 a0_2]] rfl sm ?_; (with_reducible refine (impl_wide_isZero.calls a0_0 a0_1 a0_2 false _ A3.out).mono ?_); rintro e w16 ⟨rfl, hb⟩; refine ⟨_, rfl, ?_⟩; have n0_ := bb BK242 hb; have n1_ := bb BK243 hb; have n2_ := Aside0.mk (below_step (bz2 GE242 GE243) hb); clear BK242; clear BK243; clear HB; have BK242 := n0_; have BK243 := n1_; have HB := n2_; clear n0_ n1_ n2_; (try clear hb); (try clear hb2); (try clear hk); (try clear hi)))
  (try simp only [Act.put, List.setIfInBounds_toArray, List.set_cons_zero, List.set_cons_succ])
  go_cut [1] (fun v1 wc => ∃ (kq : Nat) (x1_10 : Int) (x243000_10 : Bool) (x243001_10 : Int) (x243002_10 : Int), v1 = .int .i64 x1_10 ∧ Aside0 (impl_wide_fit.j1 kq x1_10 x243000_10 x243001_10 x243002_10 = some (r1, r2, r3)) ∧ Aside0 (kq ≤ k) ∧ Aside0 (wc.heap[gb242]? = some (.cells #[.bool x243000_10, .int .u64 x243001_10, .int .u64 x243002_10] 140 (0, 0))) ∧ Aside0 (wc.heap[gb243]? = some (.cells #[.int .i64 0, .int .i64 0] 44 (0, 0))) ∧ Aside0 (Below w.heap.size w wc))
  case first =>
   have H := HC11.out
   clear HC11
   have H' := Aside0.mk H
   clear H
   go_wp2
   go_loopg [1] k (fun kq v1 w' => ∃ (x1_1 : Int) (x243000_1 : Bool) (x243001_1 : Int) (x243002_1 : Int), v1 = .int .i64 x1_1 ∧ Aside0 (impl_wide_fit.l0 kq x1_1 x243000_1 x243001_1 x243002_1 = some (r1, r2, r3)) ∧ Aside0 (kq ≤ k) ∧ Aside0 (w'.heap[gb242]? = some (.cells #[.bool x243000_1, .int .u64 x243001_1, .int .u64 x243002_1] 140 (0, 0))) ∧ Aside0 (w'.heap[gb243]? = some (.cells #[.int .i64 0, .int .i64 0] 44 (0, 0))) ∧ Aside0 (Below w.heap.size w w'))
   case atStart => exact ⟨(a1), (a0_0), (a0_1), (a0_2), sr, H', ⟨Nat.le_refl _⟩, ⟨bk BK242⟩, ⟨bk BK243⟩, ⟨bz2 GE242 GE243⟩⟩
   case round =>
    clear H'
    try clear c1; try clear p2; try clear c4; try clear c7; try clear c13; try clear c14; try clear hcz10_0; try clear hcz10_1; try clear hcz15_0; try clear hcz15_1; try clear hcz15_2; try clear hcz8_0; try clear hcz8_1; try clear hcz8_2; try clear hfz10_0; try clear hfz10_1; try clear hfz15_0; try clear hfz15_1; try clear hfz15_2; try clear hfz8_0; try clear hfz8_1; try clear hfz8_2
    obtain ⟨x1_1, x243000_1, x243001_1, x243002_1, rfl, HA, HK1, BK242, BK243, HB⟩ := hrel
    cases gk with
    | zero => exact absurd HA.out (by simp [impl_wide_fit.l0])
    | succ k1 =>
     have H := HA.out
     clear HA
     simp only [impl_wide_fit.l0] at H
     by_cases c17 : x1_1 > 0
     ·rw [if_pos c17] at H
      have c17b0 : decide (0 < x1_1) = true := decide_eq_true c17
      clear c17
      (first | rw [c17b0] | (simp only [i64_w, i32_w]; rw [c17b0]) | skip)
      by_cases c18 : (Int.tmod x243002_1 2) = 0
      ·rw [if_pos c18] at H
       have c18b0 : ((Int.tmod x243002_1 2) == 0) = true := beq_iff_eq.mpr c18
       have c18b1 : ((Int.tmod x243002_1 2) != 0) = false := bne_eq_false_iff_eq.mpr c18
       clear c18
       obtain ⟨⟨t245, t246, t247⟩, A19, H⟩ := bi H
       try dsimp only at H
       have H' := Aside0.mk H
       clear H
       have hnb20 := NB242_243.out
       have hnc20 := NB243_242.out
       have hcz21_0 : wr.cell? ⟨gb242, 0, none⟩ = some (.bool x243000_1) := (blk_cell BK242.out 0).trans rfl
       have hcz21_1 : wr.cell? ⟨gb242, 1, none⟩ = some (.int .u64 x243001_1) := (blk_cell BK242.out 1).trans rfl
       have hcz21_2 : wr.cell? ⟨gb242, 2, none⟩ = some (.int .u64 x243002_1) := (blk_cell BK242.out 2).trans rfl
       have hfz21_0 := blk_frozen BK242.out 0
       have hfz21_1 := blk_frozen BK242.out 1
       have hfz21_2 := blk_frozen BK242.out 2
       go_wp2_with (first | ((with_reducible refine gate_callee (f := 129) rfl ?_); refine goesL_ (some 19) rfl rfl Try.func129 kf rfl #[.agg #[.bool x243000_1, .int .u64 x243001_1, .int .u64 x243002_1], .int .i64 (-1)] rfl sm ?_; (with_reducible refine (impl_wide_shift.calls x243000_1 x243001_1 x243002_1 (-1) t245 t246 t247 _ A19.out).mono ?_); rintro e w22 ⟨rfl, hb⟩; refine ⟨_, rfl, ?_⟩; have n0_ := bb BK242 hb; have n1_ := bb BK243 hb; have n2_ := Aside0.mk (below_step (bz2 GE242 GE243) hb); clear BK242; clear BK243; clear HB; have BK242 := n0_; have BK243 := n1_; have HB := n2_; clear n0_ n1_ n2_; (try clear hb); (try clear hb2); (try clear hk); (try clear hi); have hcz23_0 : w22.cell? ⟨gb242, 0, none⟩ = some (.bool x243000_1) := (blk_cell BK242.out 0).trans rfl; have hcz23_1 : w22.cell? ⟨gb242, 1, none⟩ = some (.int .u64 x243001_1) := (blk_cell BK242.out 1).trans rfl; have hcz23_2 : w22.cell? ⟨gb242, 2, none⟩ = some (.int .u64 x243002_1) := (blk_cell BK242.out 2).trans rfl; have hfz23_0 := blk_frozen BK242.out 0; have hfz23_1 := blk_frozen BK242.out 1; have hfz23_2 := blk_frozen BK242.out 2))
       go_roundg k1
       case measure => have := HK1.out; omega
       case rel => exact ⟨(wrap64 (x1_1 - 1)), (t245), (t246), (t247), sr, H', ⟨by have := HK1.out; omega⟩, ⟨by (with_reducible repeat (first | refine blk_drewN ?_ _ | refine blk_drew ?_ | refine blk_alloc ?_ _)); refine blk_put (cs := #[.bool t245, .int .u64 t246, .int .u64 x243002_1]) ?_ 2 _ rfl; (with_reducible repeat (first | refine blk_drewN ?_ _ | refine blk_drew ?_ | refine blk_alloc ?_ _)); refine blk_put (cs := #[.bool t245, .int .u64 x243001_1, .int .u64 x243002_1]) ?_ 1 _ rfl; (with_reducible repeat (first | refine blk_drewN ?_ _ | refine blk_drew ?_ | refine blk_alloc ?_ _)); refine blk_put (cs := #[.bool x243000_1, .int .u64 x243001_1, .int .u64 x243002_1]) ?_ 0 _ rfl; (with_reducible repeat (first | refine blk_drewN ?_ _ | refine blk_drew ?_ | refine blk_alloc ?_ _)); exact BK242.out⟩, ⟨by (with_reducible repeat (first | refine blk_drewN ?_ _ | refine blk_drew ?_ | refine blk_alloc ?_ _)); refine blk_far ?_ NB243_242.out _; (with_reducible repeat (first | refine blk_drewN ?_ _ | refine blk_drew ?_ | refine blk_alloc ?_ _)); refine blk_far ?_ NB243_242.out _; (with_reducible repeat (first | refine blk_drewN ?_ _ | refine blk_drew ?_ | refine blk_alloc ?_ _)); refine blk_far ?_ NB243_242.out _; (with_reducible repeat (first | refine blk_drewN ?_ _ | refine blk_drew ?_ | refine blk_alloc ?_ _)); exact BK243.out⟩, ⟨bz2 GE242 GE243⟩⟩
      ·rw [if_neg c18] at H
       have c18b0 : ((Int.tmod x243002_1 2) == 0) = false := beq_eq_false_iff_ne.mpr c18
       have c18b1 : ((Int.tmod x243002_1 2) != 0) = true := bne_iff_ne.mpr c18
       have H' := Aside0.mk H
       clear H
       have hnb24 := NB242_243.out
       have hnc24 := NB243_242.out
       have hcz25_0 : wr.cell? ⟨gb242, 0, none⟩ = some (.bool x243000_1) := (blk_cell BK242.out 0).trans rfl
       have hcz25_1 : wr.cell? ⟨gb242, 1, none⟩ = some (.int .u64 x243001_1) := (blk_cell BK242.out 1).trans rfl
       have hcz25_2 : wr.cell? ⟨gb242, 2, none⟩ = some (.int .u64 x243002_1) := (blk_cell BK242.out 2).trans rfl
       have hfz25_0 := blk_frozen BK242.out 0
       have hfz25_1 := blk_frozen BK242.out 1
       have hfz25_2 := blk_frozen BK242.out 2
       go_wp2
       go_meet
       case rel => exact ⟨_, (x1_1), (x243000_1), (x243001_1), (x243002_1), sr, H', ⟨by have := HK1.out; first | omega | exact Nat.le_refl _⟩, ⟨bk BK242⟩, ⟨bk BK243⟩, ⟨bz2 GE242 GE243⟩⟩
     ·rw [if_neg c17] at H
      have c17b0 : decide (0 < x1_1) = false := decide_eq_false c17
      clear c17
      (first | rw [c17b0] | (simp only [i64_w, i32_w]; rw [c17b0]) | skip)
      have H' := Aside0.mk H
      clear H
      go_wp2
      go_meet
      case rel => exact ⟨_, (x1_1), (x243000_1), (x243001_1), (x243002_1), sr, H', ⟨by have := HK1.out; first | omega | exact Nat.le_refl _⟩, ⟨bk BK242⟩, ⟨bk BK243⟩, ⟨bz2 GE242 GE243⟩⟩
  case rest =>
   clear HC11
   try clear c1; try clear c2; try clear p2; try clear c4; try clear p6; try clear c7; try clear c12; try clear c13; try clear c14; try clear c17; try clear c17b0; try clear c18; try clear c18b0; try clear c18b1; try clear c20; try clear c24; try clear hcz10_0; try clear hcz10_1; try clear hcz15_0; try clear hcz15_1; try clear hcz15_2; try clear hcz21_0; try clear hcz21_1; try clear hcz21_2; try clear hcz23_0; try clear hcz23_1; try clear hcz23_2; try clear hcz25_0; try clear hcz25_1; try clear hcz25_2; try clear hcz8_0; try clear hcz8_1; try clear hcz8_2; try clear hfz10_0; try clear hfz10_1; try clear hfz15_0; try clear hfz15_1; try clear hfz15_2; try clear hfz21_0; try clear hfz21_1; try clear hfz21_2; try clear hfz23_0; try clear hfz23_1; try clear hfz23_2; try clear hfz25_0; try clear hfz25_1; try clear hfz25_2; try clear hfz8_0; try clear hfz8_1; try clear hfz8_2; try clear p2
   obtain ⟨kq, x1_10, x243000_10, x243001_10, x243002_10, rfl, HA, HJ10, BK242, BK243, HB⟩ := hcut
   cases kq with
   | zero => exact absurd HA.out (by simp [impl_wide_fit.j1])
   | succ kj10 =>
    have H := HA.out
    clear HA
    simp only [impl_wide_fit.j1] at H
    have HC26 := Aside0.mk H
    clear H
    go_upto_region 6 with (fail)
    go_cut [33] (fun v33 wc => ∃ (kq : Nat) (x33_25 : Bool), v33 = .bool x33_25 ∧ Aside0 (impl_wide_fit.j2 kq x1_10 x33_25 x243000_10 x243001_10 x243002_10 = some (r1, r2, r3)) ∧ Aside0 (kq ≤ kj10) ∧ Aside0 (wc.heap[gb242]? = some (.cells #[.bool x243000_10, .int .u64 x243001_10, .int .u64 x243002_10] 140 (0, 0))) ∧ Aside0 (wc.heap[gb243]? = some (.cells #[.int .i64 0, .int .i64 0] 44 (0, 0))) ∧ Aside0 (Below w.heap.size w wc))
    case first =>
     have H := HC26.out
     clear HC26
     by_cases c27 : x1_10 > 24
     ·rw [if_pos c27] at H
      have c27b0 : decide (24 < x1_10) = true := decide_eq_true c27
      clear c27
      (first | rw [c27b0] | (simp only [i64_w, i32_w]; rw [c27b0]) | skip)
      have H' := Aside0.mk H
      clear H
      go_wp2
      go_meet
      case rel => exact ⟨_, (true), sr, H', ⟨by have := HJ10.out; first | omega | exact Nat.le_refl _⟩, ⟨bk BK242⟩, ⟨bk BK243⟩, ⟨bz2 GE242 GE243⟩⟩
     ·rw [if_neg c27] at H
      have c27b0 : decide (24 < x1_10) = false := decide_eq_false c27
      clear c27
      (first | rw [c27b0] | (simp only [i64_w, i32_w]; rw [c27b0]) | skip)
      by_cases c28 : x243001_10 > 0
      ·rw [if_pos c28] at H
       have c28b0 : decide (0 < x243001_10) = true := decide_eq_true c28
       clear c28
       have H' := Aside0.mk H
       clear H
       have hnb29 := NB242_243.out
       have hnc29 := NB243_242.out
       have hcz30_0 : wc.cell? ⟨gb242, 0, none⟩ = some (.bool x243000_10) := (blk_cell BK242.out 0).trans rfl
       have hcz30_1 : wc.cell? ⟨gb242, 1, none⟩ = some (.int .u64 x243001_10) := (blk_cell BK242.out 1).trans rfl
       have hcz30_2 : wc.cell? ⟨gb242, 2, none⟩ = some (.int .u64 x243002_10) := (blk_cell BK242.out 2).trans rfl
       have hfz30_0 := blk_frozen BK242.out 0
       have hfz30_1 := blk_frozen BK242.out 1
       have hfz30_2 := blk_frozen BK242.out 2
       go_wp2
       go_meet
       case rel => exact ⟨_, (true), sr, H', ⟨by have := HJ10.out; first | omega | exact Nat.le_refl _⟩, ⟨bk BK242⟩, ⟨bk BK243⟩, ⟨bz2 GE242 GE243⟩⟩
      ·rw [if_neg c28] at H
       have c28b0 : decide (0 < x243001_10) = false := decide_eq_false c28
       clear c28
       have H' := Aside0.mk H
       clear H
       have hnb31 := NB242_243.out
       have hnc31 := NB243_242.out
       have hcz32_0 : wc.cell? ⟨gb242, 0, none⟩ = some (.bool x243000_10) := (blk_cell BK242.out 0).trans rfl
       have hcz32_1 : wc.cell? ⟨gb242, 1, none⟩ = some (.int .u64 x243001_10) := (blk_cell BK242.out 1).trans rfl
       have hcz32_2 : wc.cell? ⟨gb242, 2, none⟩ = some (.int .u64 x243002_10) := (blk_cell BK242.out 2).trans rfl
       have hfz32_0 := blk_frozen BK242.out 0
       have hfz32_1 := blk_frozen BK242.out 1
       have hfz32_2 := blk_frozen BK242.out 2
       go_wp2
       go_meet
       case rel => exact ⟨_, (decide (x243002_10 > 1099511627776)), sr, H', ⟨by have := HJ10.out; first | omega | exact Nat.le_refl _⟩, ⟨bk BK242⟩, ⟨bk BK243⟩, ⟨bz2 GE242 GE243⟩⟩
    case rest =>
     clear HC26
     try clear c1; try clear c2; try clear p2; try clear c3; try clear c4; try clear p6; try clear c7; try clear c12; try clear c13; try clear c14; try clear c17; try clear c17b0; try clear c18; try clear c18b0; try clear c18b1; try clear c20; try clear c24; try clear c27; try clear c27b0; try clear c28; try clear c28b0; try clear c29; try clear c31; try clear hcz10_0; try clear hcz10_1; try clear hcz15_0; try clear hcz15_1; try clear hcz15_2; try clear hcz21_0; try clear hcz21_1; try clear hcz21_2; try clear hcz23_0; try clear hcz23_1; try clear hcz23_2; try clear hcz25_0; try clear hcz25_1; try clear hcz25_2; try clear hcz30_0; try clear hcz30_1; try clear hcz30_2; try clear hcz32_0; try clear hcz32_1; try clear hcz32_2; try clear hcz8_0; try clear hcz8_1; try clear hcz8_2; try clear hfz10_0; try clear hfz10_1; try clear hfz15_0; try clear hfz15_1; try clear hfz15_2; try clear hfz21_0; try clear hfz21_1; try clear hfz21_2; try clear hfz23_0; try clear hfz23_1; try clear hfz23_2; try clear hfz25_0; try clear hfz25_1; try clear hfz25_2; try clear hfz30_0; try clear hfz30_1; try clear hfz30_2; try clear hfz32_0; try clear hfz32_1; try clear hfz32_2; try clear hfz8_0; try clear hfz8_1; try clear hfz8_2; try clear p2; try clear p6
     obtain ⟨kq, x33_25, rfl, HA, HJ25, BK242, BK243, HB⟩ := hcut
     cases kq with
     | zero => exact absurd HA.out (by simp [impl_wide_fit.j2])
     | succ kj25 =>
      have H := HA.out
      clear HA
      simp only [impl_wide_fit.j2] at H
      by_cases c33 : x33_25 = true
      ·subst c33
       rw [if_pos rfl] at H
       simp only [Option.some.injEq, Prod.mk.injEq] at H
       obtain ⟨rfl, rfl, rfl⟩ := H
       have hnb34 := NB243_242.out
       have hnc34 := NB242_243.out
       have hcz35_0 : wc.cell? ⟨gb243, 0, none⟩ = some (.int .i64 0) := (blk_cell BK243.out 0).trans rfl
       have hcz35_1 : wc.cell? ⟨gb243, 1, none⟩ = some (.int .i64 0) := (blk_cell BK243.out 1).trans rfl
       have hfz35_0 := blk_frozen BK243.out 0
       have hfz35_1 := blk_frozen BK243.out 1
       go_wp2
       refine bodyPost_ret (results_ct rfl _ _ gb243 44 #[.int .i64 0, .int .i64 0] (0, 0) _ rfl (by (with_reducible repeat (first | refine blk_drewN ?_ _ | refine blk_drew ?_ | refine blk_alloc ?_ _)); refine blk_put (cs := #[.int .i64 0, .int .i64 0]) ?_ 1 _ rfl; (with_reducible repeat (first | refine blk_drewN ?_ _ | refine blk_drew ?_ | refine blk_alloc ?_ _)); refine blk_put (cs := #[.int .i64 0, .int .i64 0]) ?_ 0 _ rfl; (with_reducible repeat (first | refine blk_drewN ?_ _ | refine blk_drew ?_ | refine blk_alloc ?_ _)); exact BK243.out) Try.underlying44 rfl kf) rfl ?_
       exact ⟨er, bz2 GE242 GE243⟩
      ·replace c33 := Bool.eq_false_iff.mpr c33
       subst c33
       rw [if_neg (show ¬ (false = true) by decide)] at H
       by_cases c36 : x243000_10 = true
       ·subst c36
        rw [if_pos rfl] at H
        simp only [Option.some.injEq, Prod.mk.injEq] at H
        obtain ⟨rfl, rfl, rfl⟩ := H
        have hnb37 := NB242_243.out
        have hnc37 := NB243_242.out
        have hcz38_0 : wc.cell? ⟨gb242, 0, none⟩ = some (.bool true) := (blk_cell BK242.out 0).trans rfl
        have hcz38_1 : wc.cell? ⟨gb242, 1, none⟩ = some (.int .u64 x243001_10) := (blk_cell BK242.out 1).trans rfl
        have hcz38_2 : wc.cell? ⟨gb242, 2, none⟩ = some (.int .u64 x243002_10) := (blk_cell BK242.out 2).trans rfl
        have hfz38_0 := blk_frozen BK242.out 0
        have hfz38_1 := blk_frozen BK242.out 1
        have hfz38_2 := blk_frozen BK242.out 2
        have hcz39_0 : wc.cell? ⟨gb243, 0, none⟩ = some (.int .i64 0) := (blk_cell BK243.out 0).trans rfl
        have hcz39_1 : wc.cell? ⟨gb243, 1, none⟩ = some (.int .i64 0) := (blk_cell BK243.out 1).trans rfl
        have hfz39_0 := blk_frozen BK243.out 0
        have hfz39_1 := blk_frozen BK243.out 1
        go_wp2
        refine bodyPost_ret (results_ct rfl _ _ gb243 44 #[.int .i64 (wrap64 (-(wrap64 (x243002_10)))), .int .i64 x1_10] (0, 0) _ rfl (by (with_reducible repeat (first | refine blk_drewN ?_ _ | refine blk_drew ?_ | refine blk_alloc ?_ _)); refine blk_put (cs := #[.int .i64 (wrap64 (-(wrap64 (x243002_10)))), .int .i64 0]) ?_ 1 _ rfl; (with_reducible repeat (first | refine blk_drewN ?_ _ | refine blk_drew ?_ | refine blk_alloc ?_ _)); refine blk_put (cs := #[.int .i64 0, .int .i64 0]) ?_ 0 _ rfl; (with_reducible repeat (first | refine blk_drewN ?_ _ | refine blk_drew ?_ | refine blk_alloc ?_ _)); exact BK243.out) Try.underlying44 rfl kf) rfl ?_
        exact ⟨er, bz2 GE242 GE243⟩
       ·replace c36 := Bool.eq_false_iff.mpr c36
        subst c36
        rw [if_neg (show ¬ (false = true) by decide)] at H
        simp only [Option.some.injEq, Prod.mk.injEq] at H
        obtain ⟨rfl, rfl, rfl⟩ := H
        have hnb40 := NB242_243.out
        have hnc40 := NB243_242.out
        have hcz41_0 : wc.cell? ⟨gb242, 0, none⟩ = some (.bool false) := (blk_cell BK242.out 0).trans rfl
        have hcz41_1 : wc.cell? ⟨gb242, 1, none⟩ = some (.int .u64 x243001_10) := (blk_cell BK242.out 1).trans rfl
        have hcz41_2 : wc.cell? ⟨gb242, 2, none⟩ = some (.int .u64 x243002_10) := (blk_cell BK242.out 2).trans rfl
        have hfz41_0 := blk_frozen BK242.out 0
        have hfz41_1 := blk_frozen BK242.out 1
        have hfz41_2 := blk_frozen BK242.out 2
        have hcz42_0 : wc.cell? ⟨gb243, 0, none⟩ = some (.int .i64 0) := (blk_cell BK243.out 0).trans rfl
        have hcz42_1 : wc.cell? ⟨gb243, 1, none⟩ = some (.int .i64 0) := (blk_cell BK243.out 1).trans rfl
        have hfz42_0 := blk_frozen BK243.out 0
        have hfz42_1 := blk_frozen BK243.out 1
        go_wp2
        refine bodyPost_ret (results_ct rfl _ _ gb243 44 #[.int .i64 (wrap64 (x243002_10)), .int .i64 x1_10] (0, 0) _ rfl (by (with_reducible repeat (first | refine blk_drewN ?_ _ | refine blk_drew ?_ | refine blk_alloc ?_ _)); refine blk_put (cs := #[.int .i64 (wrap64 (x243002_10)), .int .i64 0]) ?_ 1 _ rfl; (with_reducible repeat (first | refine blk_drewN ?_ _ | refine blk_drew ?_ | refine blk_alloc ?_ _)); refine blk_put (cs := #[.int .i64 0, .int .i64 0]) ?_ 0 _ rfl; (with_reducible repeat (first | refine blk_drewN ?_ _ | refine blk_drew ?_ | refine blk_alloc ?_ _)); exact BK243.out) Try.underlying44 rfl kf) rfl ?_
        exact ⟨er, bz2 GE242 GE243⟩
def impl_valueAt.f (k : Nat) (l0 : List (S107)) (l1 : List (S44)) : Option (Int × Int × Bool) := (impl_scaledAt.f k l0 l1).bind fun t249 => ((impl_wideOf.f t249).bind fun bt250 => ((impl_wide_fit.f k bt250.1 bt250.2.1 bt250.2.2 36).bind fun bt253 => (some (bt253.1, bt253.2.1, bt253.2.2))))
set_option maxHeartbeats 8000000 in
set_option maxRecDepth 100000 in
theorem impl_valueAt.calls (k : Nat) (A0 : Option Addr) (c0 : Nat) (l0 : List (S107)) (A1 : Option Addr) (c1 : Nat) (l1 : List (S44)) (r1 : Int) (r2 : Int) (r3 : Bool) (w : World) (hr0 : Kd.C k107 w A0 l0.length l0) (hc0 : l0.length ≤ c0) (hr1 : Kd.C k44 w A1 l1.length l1) (hc1 : l1.length ≤ c1) (h : impl_valueAt.f k l0 l1 = some (r1, r2, r3)) :
 Calls Try.prog 91 #[.slice A0 l0.length c0, .slice A1 l1.length c1] w fun e w' => e = .returned (.tuple #[.agg #[.int .i64 r1, .int .i64 r2], .bool r3]) ∧ Below w.heap.size w w' := by
 have hu44 := Try.underlying44
 have HR0 := Aside0.mk hr0
 have HC0 := Aside0.mk hc0
 clear hr0 hc0
 have HR1 := Aside0.mk hr1
 have HC1 := Aside0.mk hc1
 clear hr1 hc1
 have HB := Aside0.mk (Below.refl w.heap.size w)
 have H : ((impl_scaledAt.f k l0 l1).bind fun t249 => ((impl_wideOf.f t249).bind fun bt250 => ((impl_wide_fit.f k bt250.1 bt250.2.1 bt250.2.2 36).bind fun bt253 => (some (bt253.1, bt253.2.1, bt253.2.2))))) = some (r1, r2, r3) := h
 clear h
 obtain ⟨t249, A3, H⟩ := bi H
 obtain ⟨⟨t250, t251, t252⟩, A4, H⟩ := bi H
 try dsimp only at H
 obtain ⟨⟨t253, t254, t255⟩, A5, H⟩ := bi H
 try dsimp only at H
 simp only [Option.some.injEq, Prod.mk.injEq] at H
 obtain ⟨rfl, rfl, rfl⟩ := H
 go_enter Try.func91, Try.ntmps91
 go_wp2_with (first | ((with_reducible refine gate_dst (N := 4) rfl ?_); refine bv (N := 4) (cs := #[.int .i64 0, .int .i64 0]) (t := 44) ?_; intro gb248 hg w6 hbox hb; have n0_ := Aside0.mk (below_step bz hb); have n1_ := Aside0.mk (hbox); have n2_ := (gz hg : Aside0 (w.heap.size ≤ _)); have n3_ := (gz hg : Aside0 (w.heap.size ≤ _)); clear HB; have HB := n0_; have BK248 := n1_; have GW248 := n2_; have GE248 := n3_; clear n0_ n1_ n2_ n3_; clear hb hbox hg) | ((with_reducible refine gate_callee (f := 82) rfl ?_); refine goesL_ (some 8) rfl rfl Try.func82 kf rfl #[.slice A0 l0.length c0, .slice A1 l1.length c1] rfl sm ?_; (with_reducible refine (impl_scaledAt.calls k _ _ l0 _ _ l1 t249 _ ?side1 ?side2 ?side3 ?side4 A3.out).mono ?_); (case side1 => exact cb HR0); (case side2 => exact HC0.out); (case side3 => exact cb HR1); (case side4 => exact HC1.out); rintro e w7 ⟨rfl, hb⟩; refine ⟨_, rfl, ?_⟩; have n0_ := bb BK248 hb; have n1_ := Aside0.mk (below_step (bz1 GE248) hb); clear BK248; clear HB; have BK248 := n0_; have HB := n1_; clear n0_ n1_; (try clear hb); (try clear hb2); (try clear hk); (try clear hi)) | ((with_reducible refine gate_callee (f := 128) rfl ?_); refine goesL_ (some 9) rfl rfl Try.func128 kf rfl #[.int .i64 t249] rfl sm ?_; (with_reducible refine (impl_wideOf.calls t249 t250 t251 t252 _ A4.out).mono ?_); rintro e w8 ⟨rfl, hb⟩; refine ⟨_, rfl, ?_⟩; have n0_ := bb BK248 hb; have n1_ := Aside0.mk (below_step (bz1 GE248) hb); clear BK248; clear HB; have BK248 := n0_; have HB := n1_; clear n0_ n1_; (try clear hb); (try clear hb2); (try clear hk); (try clear hi)) | ((with_reducible refine gate_callee (f := 131) rfl ?_); refine goesL_ (some 10) rfl rfl Try.func131 kf rfl #[.agg #[.bool t250, .int .u64 t251, .int .u64 t252], .int .i64 36] rfl sm ?_; (with_reducible refine (impl_wide_fit.calls k t250 t251 t252 36 t253 t254 t255 _ A5.out).mono ?_); rintro e w9 ⟨rfl, hb⟩; refine ⟨_, rfl, ?_⟩; have n0_ := bb BK248 hb; have n1_ := Aside0.mk (below_step (bz1 GE248) hb); clear BK248; clear HB; have BK248 := n0_; have HB := n1_; clear n0_ n1_; (try clear hb); (try clear hb2); (try clear hk); (try clear hi); have hcz10_0 : w9.cell? ⟨gb248, 0, none⟩ = some (.int .i64 0) := (blk_cell BK248.out 0).trans rfl; have hcz10_1 : w9.cell? ⟨gb248, 1, none⟩ = some (.int .i64 0) := (blk_cell BK248.out 1).trans rfl; have hfz10_0 := blk_frozen BK248.out 0; have hfz10_1 := blk_frozen BK248.out 1))
 refine bodyPost_ret (results_ct rfl _ _ gb248 44 #[.int .i64 t253, .int .i64 t254] (0, 0) _ rfl (by (with_reducible repeat (first | refine blk_drewN ?_ _ | refine blk_drew ?_ | refine blk_alloc ?_ _)); refine blk_put (cs := #[.int .i64 t253, .int .i64 0]) ?_ 1 _ rfl; (with_reducible repeat (first | refine blk_drewN ?_ _ | refine blk_drew ?_ | refine blk_alloc ?_ _)); refine blk_put (cs := #[.int .i64 0, .int .i64 0]) ?_ 0 _ rfl; (with_reducible repeat (first | refine blk_drewN ?_ _ | refine blk_drew ?_ | refine blk_alloc ?_ _)); exact BK248.out) Try.underlying44 rfl kf) rfl ?_
 exact ⟨er, bz1 GE248⟩
def impl_ValueAt.f (k : Nat) (l0 : List (S107)) (l1 : List (S44)) : Option (Int × Int × Bool) := (impl_pointFits.f k l0 l1).bind fun t257 => (if t257 = true then ((impl_valueAt.f k l0 l1).bind fun bt258 => (some (bt258.1, bt258.2.1, bt258.2.2))) else (some (0, 0, false)))
set_option maxHeartbeats 8000000 in
set_option maxRecDepth 100000 in
theorem impl_ValueAt.calls (k : Nat) (A0 : Option Addr) (c0 : Nat) (l0 : List (S107)) (A1 : Option Addr) (c1 : Nat) (l1 : List (S44)) (r1 : Int) (r2 : Int) (r3 : Bool) (w : World) (hr0 : Kd.C k107 w A0 l0.length l0) (hc0 : l0.length ≤ c0) (hr1 : Kd.C k44 w A1 l1.length l1) (hc1 : l1.length ≤ c1) (h : impl_ValueAt.f k l0 l1 = some (r1, r2, r3)) :
 Calls Try.prog 38 #[.slice A0 l0.length c0, .slice A1 l1.length c1] w fun e w' => e = .returned (.tuple #[.agg #[.int .i64 r1, .int .i64 r2], .bool r3]) ∧ Below w.heap.size w w' := by
 have hu44 := Try.underlying44
 have HR0 := Aside0.mk hr0
 have HC0 := Aside0.mk hc0
 clear hr0 hc0
 have HR1 := Aside0.mk hr1
 have HC1 := Aside0.mk hc1
 clear hr1 hc1
 have HB := Aside0.mk (Below.refl w.heap.size w)
 have H : ((impl_pointFits.f k l0 l1).bind fun t257 => (if t257 = true then ((impl_valueAt.f k l0 l1).bind fun bt258 => (some (bt258.1, bt258.2.1, bt258.2.2))) else (some (0, 0, false)))) = some (r1, r2, r3) := h
 clear h
 obtain ⟨t257, A3, H⟩ := bi H
 by_cases c4 : t257 = true
 ·subst c4
  rw [if_pos rfl] at H
  obtain ⟨⟨t258, t259, t260⟩, A5, H⟩ := bi H
  try dsimp only at H
  simp only [Option.some.injEq, Prod.mk.injEq] at H
  obtain ⟨rfl, rfl, rfl⟩ := H
  go_enter Try.func38, Try.ntmps38
  go_wp2_with (first | ((with_reducible refine gate_dst (N := 4) rfl ?_); refine bv (N := 4) (cs := #[.int .i64 0, .int .i64 0]) (t := 44) ?_; intro gb256 hg w6 hbox hb; have n0_ := Aside0.mk (below_step bz hb); have n1_ := Aside0.mk (hbox); have n2_ := (gz hg : Aside0 (w.heap.size ≤ _)); have n3_ := (gz hg : Aside0 (w.heap.size ≤ _)); clear HB; have HB := n0_; have BK256 := n1_; have GW256 := n2_; have GE256 := n3_; clear n0_ n1_ n2_ n3_; clear hb hbox hg) | ((with_reducible refine gate_callee (f := 80) rfl ?_); refine goesL_ (some 8) rfl rfl Try.func80 kf rfl #[.slice A0 l0.length c0, .slice A1 l1.length c1] rfl sm ?_; (with_reducible refine (impl_pointFits.calls k _ _ l0 _ _ l1 true _ ?side1 ?side2 ?side3 ?side4 A3.out).mono ?_); (case side1 => exact cb HR0); (case side2 => exact HC0.out); (case side3 => exact cb HR1); (case side4 => exact HC1.out); rintro e w7 ⟨rfl, hb⟩; refine ⟨_, rfl, ?_⟩; have n0_ := bb BK256 hb; have n1_ := Aside0.mk (below_step (bz1 GE256) hb); clear BK256; clear HB; have BK256 := n0_; have HB := n1_; clear n0_ n1_; (try clear hb); (try clear hb2); (try clear hk); (try clear hi)) | ((with_reducible refine gate_callee (f := 91) rfl ?_); refine goesL_ (some 13) rfl rfl Try.func91 kf rfl #[.slice A0 l0.length c0, .slice A1 l1.length c1] rfl sm ?_; (with_reducible refine (impl_valueAt.calls k _ _ l0 _ _ l1 t258 t259 t260 _ ?side1 ?side2 ?side3 ?side4 A5.out).mono ?_); (case side1 => exact cb HR0); (case side2 => exact HC0.out); (case side3 => exact cb HR1); (case side4 => exact HC1.out); rintro e w8 ⟨rfl, hb⟩; refine ⟨_, rfl, ?_⟩; have n0_ := bb BK256 hb; have n1_ := Aside0.mk (below_step (bz1 GE256) hb); clear BK256; clear HB; have BK256 := n0_; have HB := n1_; clear n0_ n1_; (try clear hb); (try clear hb2); (try clear hk); (try clear hi); have hcz9_0 : w8.cell? ⟨gb256, 0, none⟩ = some (.int .i64 0) := (blk_cell BK256.out 0).trans rfl; have hcz9_1 : w8.cell? ⟨gb256, 1, none⟩ = some (.int .i64 0) := (blk_cell BK256.out 1).trans rfl; have hfz9_0 := blk_frozen BK256.out 0; have hfz9_1 := blk_frozen BK256.out 1))
  refine bodyPost_ret (results_ct rfl _ _ gb256 44 #[.int .i64 t258, .int .i64 t259] (0, 0) _ rfl (by (with_reducible repeat (first | refine blk_drewN ?_ _ | refine blk_drew ?_ | refine blk_alloc ?_ _)); refine blk_put (cs := #[.int .i64 t258, .int .i64 0]) ?_ 1 _ rfl; (with_reducible repeat (first | refine blk_drewN ?_ _ | refine blk_drew ?_ | refine blk_alloc ?_ _)); refine blk_put (cs := #[.int .i64 0, .int .i64 0]) ?_ 0 _ rfl; (with_reducible repeat (first | refine blk_drewN ?_ _ | refine blk_drew ?_ | refine blk_alloc ?_ _)); exact BK256.out) Try.underlying44 rfl kf) rfl ?_
  exact ⟨er, bz1 GE256⟩
 ·replace c4 := Bool.eq_false_iff.mpr c4
  subst c4
  rw [if_neg (show ¬ (false = true) by decide)] at H
  simp only [Option.some.injEq, Prod.mk.injEq] at H
  obtain ⟨rfl, rfl, rfl⟩ := H
  go_enter Try.func38, Try.ntmps38
  go_wp2_with (first | ((with_reducible refine gate_dst (N := 4) rfl ?_); refine bv (N := 4) (cs := #[.int .i64 0, .int .i64 0]) (t := 44) ?_; intro gb256 hg w10 hbox hb; have n0_ := Aside0.mk (below_step bz hb); have n1_ := Aside0.mk (hbox); have n2_ := (gz hg : Aside0 (w.heap.size ≤ _)); have n3_ := (gz hg : Aside0 (w.heap.size ≤ _)); clear HB; have HB := n0_; have BK256 := n1_; have GW256 := n2_; have GE256 := n3_; clear n0_ n1_ n2_ n3_; clear hb hbox hg) | ((with_reducible refine gate_callee (f := 80) rfl ?_); refine goesL_ (some 8) rfl rfl Try.func80 kf rfl #[.slice A0 l0.length c0, .slice A1 l1.length c1] rfl sm ?_; (with_reducible refine (impl_pointFits.calls k _ _ l0 _ _ l1 false _ ?side1 ?side2 ?side3 ?side4 A3.out).mono ?_); (case side1 => exact cb HR0); (case side2 => exact HC0.out); (case side3 => exact cb HR1); (case side4 => exact HC1.out); rintro e w11 ⟨rfl, hb⟩; refine ⟨_, rfl, ?_⟩; have n0_ := bb BK256 hb; have n1_ := Aside0.mk (below_step (bz1 GE256) hb); clear BK256; clear HB; have BK256 := n0_; have HB := n1_; clear n0_ n1_; (try clear hb); (try clear hb2); (try clear hk); (try clear hi); have hcz12_0 : w11.cell? ⟨gb256, 0, none⟩ = some (.int .i64 0) := (blk_cell BK256.out 0).trans rfl; have hcz12_1 : w11.cell? ⟨gb256, 1, none⟩ = some (.int .i64 0) := (blk_cell BK256.out 1).trans rfl; have hfz12_0 := blk_frozen BK256.out 0; have hfz12_1 := blk_frozen BK256.out 1))
  refine bodyPost_ret (results_ct rfl _ _ gb256 44 #[.int .i64 0, .int .i64 0] (0, 0) _ rfl (by (with_reducible repeat (first | refine blk_drewN ?_ _ | refine blk_drew ?_ | refine blk_alloc ?_ _)); refine blk_put (cs := #[.int .i64 0, .int .i64 0]) ?_ 1 _ rfl; (with_reducible repeat (first | refine blk_drewN ?_ _ | refine blk_drew ?_ | refine blk_alloc ?_ _)); refine blk_put (cs := #[.int .i64 0, .int .i64 0]) ?_ 0 _ rfl; (with_reducible repeat (first | refine blk_drewN ?_ _ | refine blk_drew ?_ | refine blk_alloc ?_ _)); exact BK256.out) Try.underlying44 rfl kf) rfl ?_
  exact ⟨er, bz1 GE256⟩
def laws_roomBehind.f (a0 : Int) : Option (Int) := if (Int.tmod a0 6) = 5 then (some 0) else (if (Int.tmod a0 3) = 0 then (some 1) else (some a0))
set_option maxHeartbeats 8000000 in
set_option maxRecDepth 100000 in
theorem laws_roomBehind.calls (a0 : Int) (r : Int) (w : World) (h : laws_roomBehind.f a0 = some r) :
 Calls Try.prog 55 #[.int .i64 a0] w fun e w' => e = .returned (.int .i64 r) ∧ Drawn0 w w' := by
 have H : (if (Int.tmod a0 6) = 5 then (some 0) else (if (Int.tmod a0 3) = 0 then (some 1) else (some a0))) = some r := h
 clear h
 by_cases c2 : (Int.tmod a0 6) = 5
 ·rw [if_pos c2] at H
  have c2b0 : ((Int.tmod a0 6) == 5) = true := beq_iff_eq.mpr c2
  have c2b1 : ((Int.tmod a0 6) != 5) = false := bne_eq_false_iff_eq.mpr c2
  clear c2
  obtain rfl := Option.some.inj H
  go_enter Try.func55, Try.ntmps55
  go_wp2
  go_ret
  exact ⟨sr, dz⟩
 ·rw [if_neg c2] at H
  have c2b0 : ((Int.tmod a0 6) == 5) = false := beq_eq_false_iff_ne.mpr c2
  have c2b1 : ((Int.tmod a0 6) != 5) = true := bne_iff_ne.mpr c2
  by_cases c3 : (Int.tmod a0 3) = 0
  ·rw [if_pos c3] at H
   have c3b0 : ((Int.tmod a0 3) == 0) = true := beq_iff_eq.mpr c3
   have c3b1 : ((Int.tmod a0 3) != 0) = false := bne_eq_false_iff_eq.mpr c3
   clear c3
   obtain rfl := Option.some.inj H
   go_enter Try.func55, Try.ntmps55
   go_wp2
   go_ret
   exact ⟨sr, dz⟩
  ·rw [if_neg c3] at H
   have c3b0 : ((Int.tmod a0 3) == 0) = false := beq_eq_false_iff_ne.mpr c3
   have c3b1 : ((Int.tmod a0 3) != 0) = true := bne_iff_ne.mpr c3
   obtain rfl := Option.some.inj H
   go_enter Try.func55, Try.ntmps55
   go_wp2
   go_ret
   exact ⟨sr, dz⟩
def laws_toDyadic.f (a0_0 : Int) (a0_1 : Int) : Option (Int × Int) := some (a0_0, a0_1)
set_option maxHeartbeats 8000000 in
set_option maxRecDepth 100000 in
theorem laws_toDyadic.calls (a0_0 : Int) (a0_1 : Int) (r1 : Int) (r2 : Int) (w : World) (h : laws_toDyadic.f a0_0 a0_1 = some (r1, r2)) :
 Calls Try.prog 56 #[.agg #[.int .i64 a0_0, .int .i64 a0_1]] w fun e w' => e = .returned (.agg #[.int .i64 r1, .int .i64 r2]) ∧ Below w.heap.size w w' := by
 have hu82 := Try.underlying82
 have hu44 := Try.underlying44
 have HB := Aside0.mk (Below.refl w.heap.size w)
 have H : (some (a0_0, a0_1)) = some (r1, r2) := h
 clear h
 simp only [Option.some.injEq, Prod.mk.injEq] at H
 obtain ⟨rfl, rfl⟩ := H
 go_enter Try.func56, Try.ntmps56
 go_wp2_with (first | ((with_reducible refine gate_dst (N := 1) rfl ?_); refine bv (N := 1) (cs := #[.int .i64 a0_0, .int .i64 a0_1]) (t := 82) ?_; intro gb261 hg w2 hbox hb; have n0_ := Aside0.mk (below_step bz hb); have n1_ := Aside0.mk (hbox); have n2_ := (gz hg : Aside0 (w.heap.size ≤ _)); have n3_ := (gz hg : Aside0 (w.heap.size ≤ _)); clear HB; have HB := n0_; have BK261 := n1_; have GW261 := n2_; have GE261 := n3_; clear n0_ n1_ n2_ n3_; clear hb hbox hg) | ((with_reducible refine gate_dst (N := 2) rfl ?_); refine bv (N := 2) (cs := #[.int .i64 0, .int .i64 0]) (t := 44) ?_; intro gb262 hg w3 hbox hb; have n0_ := bb BK261 hb; have n1_ := Aside0.mk (below_step (bz1 GE261) hb); have n2_ := Aside0.mk (hbox); have n3_ := Aside0.mk ((by rw [hg]; exact (below_size (bz1 GE261)) : w.heap.size ≤ gb262)); have n4_ := Aside0.mk ((by rw [hg]; exact (below_size (bz1 GE261)) : w.heap.size ≤ gb262)); have n5_ := Aside0.mk ((by rw [hg]; exact Nat.ne_of_lt (blk_lt (g := gb261) (o := .cells #[.int .i64 a0_0, .int .i64 a0_1] 82 (0, 0)) (bk BK261)) : gb261 ≠ gb262)); have n6_ := Aside0.mk ((by rw [hg]; exact Nat.ne_of_gt (blk_lt (g := gb261) (o := .cells #[.int .i64 a0_0, .int .i64 a0_1] 82 (0, 0)) (bk BK261)) : gb262 ≠ gb261)); clear BK261; clear HB; have BK261 := n0_; have HB := n1_; have BK262 := n2_; have GW262 := n3_; have GE262 := n4_; have NB261_262 := n5_; have NB262_261 := n6_; clear n0_ n1_ n2_ n3_ n4_ n5_ n6_; clear hb hbox hg) | ((with_reducible refine gate_dst (N := 3) rfl ?_); refine bv (N := 3) (cs := #[.int .i64 0, .int .i64 0]) (t := 44) ?_; intro gb263 hg w4 hbox hb; have n0_ := bb BK261 hb; have n1_ := bb BK262 hb; have n2_ := Aside0.mk (below_step (bz2 GE261 GE262) hb); have n3_ := Aside0.mk (hbox); have n4_ := Aside0.mk ((by rw [hg]; exact (below_size (bz2 GE261 GE262)) : w.heap.size ≤ gb263)); have n5_ := Aside0.mk ((by rw [hg]; exact (below_size (bz2 GE261 GE262)) : w.heap.size ≤ gb263)); have n6_ := Aside0.mk ((by rw [hg]; exact Nat.ne_of_lt (blk_lt (g := gb261) (o := .cells #[.int .i64 a0_0, .int .i64 a0_1] 82 (0, 0)) (bk BK261)) : gb261 ≠ gb263)); have n7_ := Aside0.mk ((by rw [hg]; exact Nat.ne_of_gt (blk_lt (g := gb261) (o := .cells #[.int .i64 a0_0, .int .i64 a0_1] 82 (0, 0)) (bk BK261)) : gb263 ≠ gb261)); have n8_ := Aside0.mk ((by rw [hg]; exact Nat.ne_of_lt (blk_lt (g := gb262) (o := .cells #[.int .i64 0, .int .i64 0] 44 (0, 0)) (bk BK262)) : gb262 ≠ gb263)); have n9_ := Aside0.mk ((by rw [hg]; exact Nat.ne_of_gt (blk_lt (g := gb262) (o := .cells #[.int .i64 0, .int .i64 0] 44 (0, 0)) (bk BK262)) : gb263 ≠ gb262)); clear BK261; clear BK262; clear HB; have BK261 := n0_; have BK262 := n1_; have HB := n2_; have BK263 := n3_; have GW263 := n4_; have GE263 := n5_; have NB261_263 := n6_; have NB263_261 := n7_; have NB262_263 := n8_; have NB263_262 := n9_; clear n0_ n1_ n2_ n3_ n4_ n5_ n6_ n7_ n8_ n9_; clear hb hbox hg; have hnb5 := NB261_262.out; have hnc5 := NB262_261.out; have hnb6 := NB261_263.out; have hnc6 := NB263_261.out; have hcz7_0 : w4.cell? ⟨gb261, 0, none⟩ = some (.int .i64 a0_0) := (blk_cell BK261.out 0).trans rfl; have hcz7_1 : w4.cell? ⟨gb261, 1, none⟩ = some (.int .i64 a0_1) := (blk_cell BK261.out 1).trans rfl; have hfz7_0 := blk_frozen BK261.out 0; have hfz7_1 := blk_frozen BK261.out 1; have hnb8 := NB263_262.out; have hnc8 := NB262_263.out; have hcz9_0 : w4.cell? ⟨gb263, 0, none⟩ = some (.int .i64 0) := (blk_cell BK263.out 0).trans rfl; have hcz9_1 : w4.cell? ⟨gb263, 1, none⟩ = some (.int .i64 0) := (blk_cell BK263.out 1).trans rfl; have hfz9_0 := blk_frozen BK263.out 0; have hfz9_1 := blk_frozen BK263.out 1; have hcz10_0 : w4.cell? ⟨gb262, 0, none⟩ = some (.int .i64 0) := (blk_cell BK262.out 0).trans rfl; have hcz10_1 : w4.cell? ⟨gb262, 1, none⟩ = some (.int .i64 0) := (blk_cell BK262.out 1).trans rfl; have hfz10_0 := blk_frozen BK262.out 0; have hfz10_1 := blk_frozen BK262.out 1))
 refine bodyPost_ret (results_cell_row rfl _ _ gb262 44 #[.int .i64 a0_0, .int .i64 a0_1] (0, 0) _ rfl (by (with_reducible repeat (first | refine blk_drewN ?_ _ | refine blk_drew ?_ | refine blk_alloc ?_ _)); refine blk_put (cs := #[.int .i64 a0_0, .int .i64 0]) ?_ 1 _ rfl; (with_reducible repeat (first | refine blk_drewN ?_ _ | refine blk_drew ?_ | refine blk_alloc ?_ _)); refine blk_put (cs := #[.int .i64 0, .int .i64 0]) ?_ 0 _ rfl; (with_reducible repeat (first | refine blk_drewN ?_ _ | refine blk_drew ?_ | refine blk_alloc ?_ _)); refine blk_far ?_ NB262_263.out _; (with_reducible repeat (first | refine blk_drewN ?_ _ | refine blk_drew ?_ | refine blk_alloc ?_ _)); refine blk_far ?_ NB262_263.out _; (with_reducible repeat (first | refine blk_drewN ?_ _ | refine blk_drew ?_ | refine blk_alloc ?_ _)); exact BK262.out) Try.underlying44 rfl kf) rfl ?_
 exact ⟨er, bz3 GE261 GE262 GE263⟩
def laws_fillerDyadic.f  : Option (Int × Int) := some ((-7000000000000000101), (-7000000000000000101))
set_option maxHeartbeats 8000000 in
set_option maxRecDepth 100000 in
theorem laws_fillerDyadic.calls  (r1 : Int) (r2 : Int) (w : World) (h : laws_fillerDyadic.f  = some (r1, r2)) :
 Calls Try.prog 57 #[] w fun e w' => e = .returned (.agg #[.int .i64 r1, .int .i64 r2]) ∧ Below w.heap.size w w' := by
 have hu44 := Try.underlying44
 have HB := Aside0.mk (Below.refl w.heap.size w)
 have H : (some ((-7000000000000000101), (-7000000000000000101))) = some (r1, r2) := h
 clear h
 simp only [Option.some.injEq, Prod.mk.injEq] at H
 obtain ⟨rfl, rfl⟩ := H
 go_enter Try.func57, Try.ntmps57
 go_wp2_with (first | ((with_reducible refine gate_dst (N := 0) rfl ?_); refine bv (N := 0) (cs := #[.int .i64 0, .int .i64 0]) (t := 44) ?_; intro gb264 hg w1 hbox hb; have n0_ := Aside0.mk (below_step bz hb); have n1_ := Aside0.mk (hbox); have n2_ := (gz hg : Aside0 (w.heap.size ≤ _)); have n3_ := (gz hg : Aside0 (w.heap.size ≤ _)); clear HB; have HB := n0_; have BK264 := n1_; have GW264 := n2_; have GE264 := n3_; clear n0_ n1_ n2_ n3_; clear hb hbox hg; have hcz2_0 : w1.cell? ⟨gb264, 0, none⟩ = some (.int .i64 0) := (blk_cell BK264.out 0).trans rfl; have hcz2_1 : w1.cell? ⟨gb264, 1, none⟩ = some (.int .i64 0) := (blk_cell BK264.out 1).trans rfl; have hfz2_0 := blk_frozen BK264.out 0; have hfz2_1 := blk_frozen BK264.out 1))
 refine bodyPost_ret (results_cell_row rfl _ _ gb264 44 #[.int .i64 (-7000000000000000101), .int .i64 (-7000000000000000101)] (0, 0) _ rfl (by (with_reducible repeat (first | refine blk_drewN ?_ _ | refine blk_drew ?_ | refine blk_alloc ?_ _)); refine blk_put (cs := #[.int .i64 (-7000000000000000101), .int .i64 0]) ?_ 1 _ rfl; (with_reducible repeat (first | refine blk_drewN ?_ _ | refine blk_drew ?_ | refine blk_alloc ?_ _)); refine blk_put (cs := #[.int .i64 0, .int .i64 0]) ?_ 0 _ rfl; (with_reducible repeat (first | refine blk_drewN ?_ _ | refine blk_drew ?_ | refine blk_alloc ?_ _)); exact BK264.out) Try.underlying44 rfl kf) rfl ?_
 exact ⟨er, bz1 GE264⟩
end Go.Proofs.Ytalcohajbcijlaa.QValueAt
