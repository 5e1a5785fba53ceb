import Derived.Test.YtalcohajbcijlaaZSignsAtSq
import Derived.Test.YtalcohajbcijlaaZSignsAtQSiAx9
import Derived.Test.YtalcohajbcijlaaZSignsAtQSiAx2
import Derived.Test.YtalcohajbcijlaaZSignsAtQSiAx4
import Derived.Test.YtalcohajbcijlaaZSignsAtQSiAx6
import Derived.Test.YtalcohajbcijlaaZSignsAtQSiAx11
import Derived.Test.YtalcohajbcijlaaZSignsAtQSiAx13
import Derived.Test.YtalcohajbcijlaaZSignsAtQSiAx15
namespace Go.Proofs.Ytalcohajbcijlaa.QSiA
open Go.RowKit Go.Proofs.YtalcohajbcijlaaW.PrintWords Go.Proofs.YtalcohajbcijlaaW.PrintLast Go.Proofs.YtalcohajbcijlaaW.PrintMore
attribute [local go_sem] max2_int min2_int max_two min_two max_three min_three max_four min_four
set_option linter.unusedVariables false
set_option linter.unusedSimpArgs false
mutual
def spec_vaSum.l0 : Nat → List (S107) → List (S44) → Int → List (S44) → Int → Int → Option (Int × Int)
 | 0, _, _, _, _, _, _ => none
 | k + 1, x0, x1, x6, x19, x20, x21 => if x21 < x20 then (if 0 ≤ x21 then (if x21 < (x19.length : Int) then ((spec_l1Most.f x6 ((rd_T44 x19 x21).f1)).bind fun t168 => (spec_vaSum.l0 k x0 x1 t168 x19 x20 (wrap64 (x21 + 1)))) else (none)) else (none)) else (spec_vaSum.l1 k x1 x6 0 x0 (x0.length : Int) 0)
def spec_vaSum.l1 : Nat → List (S44) → Int → Int → List (S107) → Int → Int → Option (Int × Int)
 | 0, _, _, _, _, _, _ => none
 | k + 1, x1, x6, x9, x30, x31, x32 => if x32 < x31 then (if 0 ≤ x32 then (if x32 < (x30.length : Int) then (spec_vaSum.l2 k x1 x6 x9 ((rd_T107 x30 x32).f0) x30 x31 x32 x1 (x1.length : Int) 0 ((rd_T107 x30 x32).f0) ((rd_T107 x30 x32).f1) ((rd_T107 x30 x32).f2) ((rd_T107 x30 x32).f3)) else (none)) else (none)) else (some (x9, wrap64 (4 * x6)))
def spec_vaSum.l2 : Nat → List (S44) → Int → Int → Int → List (S107) → Int → Int → List (S44) → Int → Int → Int → Int → Int → Int → Option (Int × Int)
 | 0, _, _, _, _, _, _, _, _, _, _, _, _, _, _ => none
 | k + 1, x1, x6, x9, x12, x30, x31, x32, x38, x39, x40, x171000, x171001, x171002, x171003 => if x40 < x39 then (if 0 ≤ x40 then (if x40 < (x38.length : Int) then ((spec_dyAt.f k ((rd_T44 x38 x40).f0) ((rd_T44 x38 x40).f1) x6).bind fun bt173 => ((spec_poPower.f x171000 x171001 x171002 x171003 x40).bind fun t175 => (spec_vaSum.l3 k x1 x6 x9 x12 bt173.1 t175 x30 x31 x32 x38 x39 x40 x171000 x171001 x171002 x171003))) else (none)) else (none)) else (spec_vaSum.l4 k x1 x6 x9 x12 (wrap64 ((wrap64 (x171001 + x171002)) + x171003)) x30 x31 x32)
def spec_vaSum.l3 : Nat → List (S44) → Int → Int → Int → Int → Int → List (S107) → Int → Int → List (S44) → Int → Int → Int → Int → Int → Int → Option (Int × Int)
 | 0, _, _, _, _, _, _, _, _, _, _, _, _, _, _, _, _ => none
 | k + 1, x1, x6, x9, x12, x15, x17, x30, x31, x32, x38, x39, x40, x171000, x171001, x171002, x171003 => if x17 > 0 then (spec_vaSum.l3 k x1 x6 x9 (wrap64 (x12 * x15)) x15 (wrap64 (x17 - 1)) x30 x31 x32 x38 x39 x40 x171000 x171001 x171002 x171003) else (spec_vaSum.l2 k x1 x6 x9 x12 x30 x31 x32 x38 x39 (wrap64 (x40 + 1)) x171000 x171001 x171002 x171003)
def spec_vaSum.l4 : Nat → List (S44) → Int → Int → Int → Int → List (S107) → Int → Int → Option (Int × Int)
 | 0, _, _, _, _, _, _, _, _ => none
 | k + 1, x1, x6, x9, x12, x18, x30, x31, x32 => if x18 < 4 then ((spec_dyPower.f x6).bind fun t176 => (spec_vaSum.l4 k x1 x6 x9 (wrap64 (x12 * t176)) (wrap64 (x18 + 1)) x30 x31 x32)) else (spec_vaSum.l1 k x1 x6 (wrap64 (x9 + x12)) x30 x31 (wrap64 (x32 + 1)))
end
def spec_vaSum.f (k : Nat) (l0 : List (S107)) (l1 : List (S44)) : Option (Int × Int) := spec_vaSum.l0 k l0 l1 0 l1 (l1.length : Int) 0
set_option maxHeartbeats 8000000 in
set_option maxRecDepth 100000 in
theorem spec_vaSum.calls (k : Nat) (A0 : Option Addr) (c0 : Nat) (l0 : List (S107)) (A1 : Option Addr) (c1 : Nat) (l1 : List (S44)) (r1 : Int) (r2 : Int) (w : World) (hr0 : Kd.C k107 w A0 l0.length l0) (hc0 : l0.length ≤ c0) (hr1 : Kd.C k44 w A1 l1.length l1) (hc1 : l1.length ≤ c1) (h : spec_vaSum.f k l0 l1 = some (r1, r2)) :
 Calls Try.prog 76 #[.slice A0 l0.length c0, .slice A1 l1.length c1] w fun e w' => e = .returned (.tuple #[.int .i64 r1, .int .i64 r2]) ∧ Below w.heap.size w w' := by
 have hu44 := Try.underlying44
 have hu107 := Try.underlying107
 have HR0 := Aside0.mk hr0
 have HC0 := Aside0.mk hc0
 clear hr0 hc0
 have HR1 := Aside0.mk hr1
 have HC1 := Aside0.mk hc1
 clear hr1 hc1
 have HB := Aside0.mk (Below.refl w.heap.size w)
 have H : (spec_vaSum.l0 k l0 l1 0 l1 (l1.length : Int) 0) = some (r1, r2) := h
 clear h
 have H' := Aside0.mk H
 clear H
 go_enter Try.func76, Try.ntmps76
 go_wp2
 go_loopg [6, 21] k (fun kq v6 v21 w' => ∃ (x6_1 : Int) (x21_1 : Int), v6 = .int .i64 x6_1 ∧ v21 = .int .i64 x21_1 ∧ Aside0 (spec_vaSum.l0 kq l0 l1 x6_1 l1 (l1.length : Int) x21_1 = some (r1, r2)) ∧ Aside0 (kq ≤ k) ∧ Aside0 (Below w.heap.size w w'))
 case atStart => exact ⟨(0), (0), sr, sr, H', ⟨Nat.le_refl _⟩, ⟨bz⟩⟩
 case round =>
  clear H'
  try clear c1; try clear p2
  obtain ⟨x6_1, x21_1, rfl, rfl, HA, HK1, HB⟩ := hrel
  cases gk with
  | zero => exact absurd HA.out (by simp [spec_vaSum.l0])
  | succ k1 =>
   have H := HA.out
   clear HA
   simp only [spec_vaSum.l0] at H
   by_cases c3 : x21_1 < (l1.length : Int)
   ·rw [if_pos c3] at H
    have c3b0 : decide (x21_1 < (l1.length : Int)) = true := decide_eq_true c3
    clear c3
    by_cases c4 : 0 ≤ x21_1
    ·rw [if_pos c4] at H
     have c4b0 : decide (0 ≤ x21_1) = true := decide_eq_true c4
     clear c4
     by_cases c5 : x21_1 < (l1.length : Int)
     ·rw [if_pos c5] at H
      have c5b0 : decide (x21_1 < (l1.length : Int)) = true := decide_eq_true c5
      clear c5
      obtain ⟨t168, A6, H⟩ := bi H
      have H' := Aside0.mk H
      clear H
      have p166 : 0 ≤ (x21_1 : Int) := of_decide_eq_true am
      have q166 : x21_1 < (l1.length : Int) := of_decide_eq_true am
      obtain ⟨ad166, e166, hx166_0, hx166_1⟩ := at_T44 HR1.out x21_1 p166 q166
      cases e166
      replace hx166_0 := (HB.out.cell (World.block_lt_of_cell? w _ hx166_0)).trans hx166_0
      replace hx166_1 := (HB.out.cell (World.block_lt_of_cell? w _ hx166_1)).trans hx166_1
      replace p166 := eq_true p166
      replace q166 := eq_true q166
      go_wp2_with (first | ((with_reducible refine gate_dst (N := 8) rfl ?_); refine bv (N := 8) (cs := #[.int .i64 0, .int .i64 0]) (t := 44) ?_; intro gb167 hg w7 hbox hb; have n0_ := Aside0.mk (below_step bz hb); have n1_ := Aside0.mk (hbox); have n2_ := (gz hg : Aside0 (w.heap.size ≤ _)); have n3_ := (gz hg : Aside0 (w.heap.size ≤ _)); clear HB; have HB := n0_; have BK167 := n1_; have GW167 := n2_; have GE167 := n3_; clear n0_ n1_ n2_ n3_; clear hb hbox hg; have hcz8_0 : w7.cell? ⟨gb167, 0, none⟩ = some (.int .i64 0) := (blk_cell BK167.out 0).trans rfl; have hcz8_1 : w7.cell? ⟨gb167, 1, none⟩ = some (.int .i64 0) := (blk_cell BK167.out 1).trans rfl; have hfz8_0 := blk_frozen BK167.out 0; have hfz8_1 := blk_frozen BK167.out 1) | ((with_reducible refine gate_callee (f := 116) rfl ?_); refine goesL_ (some 28) rfl rfl Try.func116 kf rfl #[.int .i64 x6_1, .int .i64 ((rd_T44 l1 x21_1).f1)] rfl sm ?_; (with_reducible refine (spec_l1Most.calls x6_1 ((rd_T44 l1 x21_1).f1) t168 _ A6.out).mono ?_); rintro e w' ⟨rfl, ⟨nd, rfl⟩⟩; refine ⟨_, rfl, ?_⟩))
      go_roundg k1
      case measure => have := HK1.out; omega
      case rel => exact ⟨(t168), (wrap64 (x21_1 + 1)), sr, sr, H', ⟨by have := HK1.out; omega⟩, ⟨bz1 GE167⟩⟩
     ·rw [if_neg c5] at H
      exact absurd H (by simp)
    ·rw [if_neg c4] at H
     exact absurd H (by simp)
   ·rw [if_neg c3] at H
    have c3b0 : decide (x21_1 < (l1.length : Int)) = false := decide_eq_false c3
    clear c3
    have H' := Aside0.mk H
    clear H
    go_wp2
    go_loopg [9, 32] k1 (fun kq v9 v32 w' => ∃ (x9_2 : Int) (x32_2 : Int), v9 = .int .i64 x9_2 ∧ v32 = .int .i64 x32_2 ∧ Aside0 (spec_vaSum.l1 kq l1 x6_1 x9_2 l0 (l0.length : Int) x32_2 = some (r1, r2)) ∧ Aside0 (kq ≤ k1) ∧ Aside0 (Below w.heap.size w w'))
    case atStart => exact ⟨(0), (0), sr, sr, H', ⟨Nat.le_refl _⟩, ⟨bz⟩⟩
    case round =>
     clear H'
     try clear c1; try clear p1; try clear q1; try clear hx1; try clear p2; try clear c3; try clear c3b0; try clear c4; try clear c4b0; try clear c5; try clear c5b0; try clear p6; try clear c7; try clear hcz8_0; try clear hcz8_1; try clear hfz8_0; try clear hfz8_1; try clear hx166_0; try clear hx166_1; try clear p166; try clear p2; try clear q166
     obtain ⟨x9_2, x32_2, rfl, rfl, HA, HK2, HB⟩ := hrel
     cases gk with
     | zero => exact absurd HA.out (by simp [spec_vaSum.l1])
     | succ k2 =>
      have H := HA.out
      clear HA
      simp only [spec_vaSum.l1] at H
      by_cases c9 : x32_2 < (l0.length : Int)
      ·rw [if_pos c9] at H
       have c9b0 : decide (x32_2 < (l0.length : Int)) = true := decide_eq_true c9
       clear c9
       by_cases c10 : 0 ≤ x32_2
       ·rw [if_pos c10] at H
        have c10b0 : decide (0 ≤ x32_2) = true := decide_eq_true c10
        clear c10
        by_cases c11 : x32_2 < (l0.length : Int)
        ·rw [if_pos c11] at H
         have c11b0 : decide (x32_2 < (l0.length : Int)) = true := decide_eq_true c11
         clear c11
         have H' := Aside0.mk H
         clear H
         have p169 : 0 ≤ (x32_2 : Int) := of_decide_eq_true am
         have q169 : x32_2 < (l0.length : Int) := of_decide_eq_true am
         obtain ⟨ad169, e169, hx169_0, hx169_1, hx169_2, hx169_3⟩ := at_T107 HR0.out x32_2 p169 q169
         cases e169
         replace hx169_0 := (HB.out.cell (World.block_lt_of_cell? w _ hx169_0)).trans hx169_0
         replace hx169_1 := (HB.out.cell (World.block_lt_of_cell? w _ hx169_1)).trans hx169_1
         replace hx169_2 := (HB.out.cell (World.block_lt_of_cell? w _ hx169_2)).trans hx169_2
         replace hx169_3 := (HB.out.cell (World.block_lt_of_cell? w _ hx169_3)).trans hx169_3
         replace p169 := eq_true p169
         replace q169 := eq_true q169
         go_wp2_with (first | ((with_reducible refine gate_dst (N := 11) rfl ?_); refine bv (N := 11) (cs := #[.int .i64 0, .int .i64 0, .int .i64 0, .int .i64 0]) (t := 107) ?_; intro gb170 hg w12 hbox hb; have n0_ := Aside0.mk (below_step bz hb); have n1_ := Aside0.mk (hbox); have n2_ := (gz hg : Aside0 (w.heap.size ≤ _)); have n3_ := (gz hg : Aside0 (w.heap.size ≤ _)); clear HB; have HB := n0_; have BK170 := n1_; have GW170 := n2_; have GE170 := n3_; clear n0_ n1_ n2_ n3_; clear hb hbox hg; have hcz13_0 : w12.cell? ⟨gb170, 0, none⟩ = some (.int .i64 0) := (blk_cell BK170.out 0).trans rfl; have hcz13_1 : w12.cell? ⟨gb170, 1, none⟩ = some (.int .i64 0) := (blk_cell BK170.out 1).trans rfl; have hcz13_2 : w12.cell? ⟨gb170, 2, none⟩ = some (.int .i64 0) := (blk_cell BK170.out 2).trans rfl; have hcz13_3 : w12.cell? ⟨gb170, 3, none⟩ = some (.int .i64 0) := (blk_cell BK170.out 3).trans rfl; have hfz13_0 := blk_frozen BK170.out 0; have hfz13_1 := blk_frozen BK170.out 1; have hfz13_2 := blk_frozen BK170.out 2; have hfz13_3 := blk_frozen BK170.out 3))
         go_loopg [12, 40] k2 (fun kq v12 v40 w' => ∃ (x12_3 : Int) (x40_3 : Int), v12 = .int .i64 x12_3 ∧ v40 = .int .i64 x40_3 ∧ Aside0 (spec_vaSum.l2 kq l1 x6_1 x9_2 x12_3 l0 (l0.length : Int) x32_2 l1 (l1.length : Int) x40_3 ((rd_T107 l0 x32_2).f0) ((rd_T107 l0 x32_2).f1) ((rd_T107 l0 x32_2).f2) ((rd_T107 l0 x32_2).f3) = some (r1, r2)) ∧ Aside0 (kq ≤ k2) ∧ Aside0 (w'.heap[gb170]? = some (.cells #[.int .i64 ((rd_T107 l0 x32_2).f0), .int .i64 ((rd_T107 l0 x32_2).f1), .int .i64 ((rd_T107 l0 x32_2).f2), .int .i64 ((rd_T107 l0 x32_2).f3)] 107 (0, 0))) ∧ Aside0 (Below w.heap.size w w'))
         case atStart => exact ⟨((rd_T107 l0 x32_2).f0), (0), sr, sr, H', ⟨Nat.le_refl _⟩, ⟨by (with_reducible repeat (first | refine blk_drewN ?_ _ | refine blk_drew ?_ | refine blk_alloc ?_ _)); refine blk_put (cs := #[.int .i64 ((rd_T107 l0 x32_2).f0), .int .i64 ((rd_T107 l0 x32_2).f1), .int .i64 ((rd_T107 l0 x32_2).f2), .int .i64 0]) ?_ 3 _ rfl; (with_reducible repeat (first | refine blk_drewN ?_ _ | refine blk_drew ?_ | refine blk_alloc ?_ _)); refine blk_put (cs := #[.int .i64 ((rd_T107 l0 x32_2).f0), .int .i64 ((rd_T107 l0 x32_2).f1), .int .i64 0, .int .i64 0]) ?_ 2 _ rfl; (with_reducible repeat (first | refine blk_drewN ?_ _ | refine blk_drew ?_ | refine blk_alloc ?_ _)); refine blk_put (cs := #[.int .i64 ((rd_T107 l0 x32_2).f0), .int .i64 0, .int .i64 0, .int .i64 0]) ?_ 1 _ rfl; (with_reducible repeat (first | refine blk_drewN ?_ _ | refine blk_drew ?_ | refine blk_alloc ?_ _)); refine blk_put (cs := #[.int .i64 0, .int .i64 0, .int .i64 0, .int .i64 0]) ?_ 0 _ rfl; (with_reducible repeat (first | refine blk_drewN ?_ _ | refine blk_drew ?_ | refine blk_alloc ?_ _)); exact BK170.out⟩, ⟨bz1 GE170⟩⟩
         case round =>
          clear H'
          try clear c1; try clear p1; try clear q1; try clear hx1; try clear p2; try clear c3; try clear c3b0; try clear c4; try clear c4b0; try clear c5; try clear c5b0; try clear p6; try clear c7; try clear c9; try clear c9b0; try clear c10; try clear c10b0; try clear c11; try clear c11b0; try clear hcz13_0; try clear hcz13_1; try clear hcz13_2; try clear hcz13_3; try clear hcz8_0; try clear hcz8_1; try clear hfz13_0; try clear hfz13_1; try clear hfz13_2; try clear hfz13_3; try clear hfz8_0; try clear hfz8_1; try clear hx166_0; try clear hx166_1; try clear hx169_0; try clear hx169_1; try clear hx169_2; try clear hx169_3; try clear p1; try clear p166; try clear p169; try clear p2; try clear p6; try clear q1; try clear q166; try clear q169
          obtain ⟨x12_3, x40_3, rfl, rfl, HA, HK3, BK170, HB⟩ := hrel
          cases gk with
          | zero => exact absurd HA.out (by simp [spec_vaSum.l2])
          | succ k3 =>
           have H := HA.out
           clear HA
           simp only [spec_vaSum.l2] at H
           by_cases c14 : x40_3 < (l1.length : Int)
           ·rw [if_pos c14] at H
            have c14b0 : decide (x40_3 < (l1.length : Int)) = true := decide_eq_true c14
            clear c14
            by_cases c15 : 0 ≤ x40_3
            ·rw [if_pos c15] at H
             have c15b0 : decide (0 ≤ x40_3) = true := decide_eq_true c15
             clear c15
             by_cases c16 : x40_3 < (l1.length : Int)
             ·rw [if_pos c16] at H
              have c16b0 : decide (x40_3 < (l1.length : Int)) = true := decide_eq_true c16
              clear c16
              obtain ⟨⟨t173, t174⟩, A17, H⟩ := bi H
              try dsimp only at H
              obtain ⟨t175, A18, H⟩ := bi H
              have H' := Aside0.mk H
              clear H
              have p171 : 0 ≤ (x40_3 : Int) := of_decide_eq_true am
              have q171 : x40_3 < (l1.length : Int) := of_decide_eq_true am
              obtain ⟨ad171, e171, hx171_0, hx171_1⟩ := at_T44 HR1.out x40_3 p171 q171
              cases e171
              replace hx171_0 := (HB.out.cell (World.block_lt_of_cell? w _ hx171_0)).trans hx171_0
              replace hx171_1 := (HB.out.cell (World.block_lt_of_cell? w _ hx171_1)).trans hx171_1
              replace p171 := eq_true p171
              replace q171 := eq_true q171
              go_wp2_with (first | ((with_reducible refine gate_dst (N := 14) rfl ?_); refine bv (N := 14) (cs := #[.int .i64 0, .int .i64 0]) (t := 44) ?_; intro gb172 hg w19 hbox hb; have n0_ := bb BK170 hb; have n1_ := Aside0.mk (below_step (bz1 GE170) hb); have n2_ := Aside0.mk (hbox); have n3_ := Aside0.mk ((by rw [hg]; exact (below_size (bz1 GE170)) : w.heap.size ≤ gb172)); have n4_ := Aside0.mk ((by rw [hg]; exact (below_size (bz1 GE170)) : w.heap.size ≤ gb172)); have n5_ := Aside0.mk ((by rw [hg]; exact Nat.ne_of_lt (blk_lt (g := gb170) (o := .cells #[.int .i64 ((rd_T107 l0 x32_2).f0), .int .i64 ((rd_T107 l0 x32_2).f1), .int .i64 ((rd_T107 l0 x32_2).f2), .int .i64 ((rd_T107 l0 x32_2).f3)] 107 (0, 0)) (bk BK170)) : gb170 ≠ gb172)); have n6_ := Aside0.mk ((by rw [hg]; exact Nat.ne_of_gt (blk_lt (g := gb170) (o := .cells #[.int .i64 ((rd_T107 l0 x32_2).f0), .int .i64 ((rd_T107 l0 x32_2).f1), .int .i64 ((rd_T107 l0 x32_2).f2), .int .i64 ((rd_T107 l0 x32_2).f3)] 107 (0, 0)) (bk BK170)) : gb172 ≠ gb170)); clear BK170; clear HB; have BK170 := n0_; have HB := n1_; have BK172 := n2_; have GW172 := n3_; have GE172 := n4_; have NB170_172 := n5_; have NB172_170 := n6_; clear n0_ n1_ n2_ n3_ n4_ n5_ n6_; clear hb hbox hg; have hnb20 := NB172_170.out; have hnc20 := NB170_172.out; have hcz21_0 : w19.cell? ⟨gb172, 0, none⟩ = some (.int .i64 0) := (blk_cell BK172.out 0).trans rfl; have hcz21_1 : w19.cell? ⟨gb172, 1, none⟩ = some (.int .i64 0) := (blk_cell BK172.out 1).trans rfl; have hfz21_0 := blk_frozen BK172.out 0; have hfz21_1 := blk_frozen BK172.out 1) | ((with_reducible refine gate_callee (f := 117) rfl ?_); refine goesL_ (some 48) rfl rfl Try.func117 kf rfl #[.agg #[.int .i64 ((rd_T44 l1 x40_3).f0), .int .i64 ((rd_T44 l1 x40_3).f1)], .int .i64 x6_1] rfl sm ?_; (with_reducible refine (spec_dyAt.calls k3 ((rd_T44 l1 x40_3).f0) ((rd_T44 l1 x40_3).f1) x6_1 t173 t174 _ A17.out).mono ?_); rintro e w22 ⟨rfl, hb⟩; refine ⟨_, rfl, ?_⟩; have n0_ := Aside0.mk (blk_below (g := gb170) (o := .cells #[.int .i64 ((rd_T107 l0 x32_2).f0), .int .i64 ((rd_T107 l0 x32_2).f1), .int .i64 ((rd_T107 l0 x32_2).f2), .int .i64 ((rd_T107 l0 x32_2).f3)] 107 (0, 0)) (by (with_reducible repeat (first | refine blk_drewN ?_ _ | refine blk_drew ?_ | refine blk_alloc ?_ _)); refine blk_far ?_ NB170_172.out _; (with_reducible repeat (first | refine blk_drewN ?_ _ | refine blk_drew ?_ | refine blk_alloc ?_ _)); refine blk_far ?_ NB170_172.out _; (with_reducible repeat (first | refine blk_drewN ?_ _ | refine blk_drew ?_ | refine blk_alloc ?_ _)); exact BK170.out) hb); have n1_ := Aside0.mk (blk_below (g := gb172) (o := .cells #[.int .i64 ((rd_T44 l1 x40_3).f0), .int .i64 ((rd_T44 l1 x40_3).f1)] 44 (0, 0)) (by (with_reducible repeat (first | refine blk_drewN ?_ _ | refine blk_drew ?_ | refine blk_alloc ?_ _)); refine blk_put (cs := #[.int .i64 ((rd_T44 l1 x40_3).f0), .int .i64 0]) ?_ 1 _ rfl; (with_reducible repeat (first | refine blk_drewN ?_ _ | refine blk_drew ?_ | refine blk_alloc ?_ _)); refine blk_put (cs := #[.int .i64 0, .int .i64 0]) ?_ 0 _ rfl; (with_reducible repeat (first | refine blk_drewN ?_ _ | refine blk_drew ?_ | refine blk_alloc ?_ _)); exact BK172.out) hb); have n2_ := Aside0.mk (below_step (bz2 GE170 GE172) hb); clear BK170; clear BK172; clear HB; have BK170 := n0_; have BK172 := n1_; have HB := n2_; clear n0_ n1_ n2_; (try clear hb); (try clear hb2); (try clear hk); (try clear hi); have hcz23_0 : w22.cell? ⟨gb170, 0, none⟩ = some (.int .i64 ((rd_T107 l0 x32_2).f0)) := (blk_cell BK170.out 0).trans rfl; have hcz23_1 : w22.cell? ⟨gb170, 1, none⟩ = some (.int .i64 ((rd_T107 l0 x32_2).f1)) := (blk_cell BK170.out 1).trans rfl; have hcz23_2 : w22.cell? ⟨gb170, 2, none⟩ = some (.int .i64 ((rd_T107 l0 x32_2).f2)) := (blk_cell BK170.out 2).trans rfl; have hcz23_3 : w22.cell? ⟨gb170, 3, none⟩ = some (.int .i64 ((rd_T107 l0 x32_2).f3)) := (blk_cell BK170.out 3).trans rfl; have hfz23_0 := blk_frozen BK170.out 0; have hfz23_1 := blk_frozen BK170.out 1; have hfz23_2 := blk_frozen BK170.out 2; have hfz23_3 := blk_frozen BK170.out 3) | ((with_reducible refine gate_callee (f := 118) rfl ?_); refine goesL_ (some 53) rfl rfl Try.func118 kf rfl #[.agg #[.int .i64 ((rd_T107 l0 x32_2).f0), .int .i64 ((rd_T107 l0 x32_2).f1), .int .i64 ((rd_T107 l0 x32_2).f2), .int .i64 ((rd_T107 l0 x32_2).f3)], .int .i64 x40_3] rfl sm ?_; (with_reducible refine (spec_poPower.calls ((rd_T107 l0 x32_2).f0) ((rd_T107 l0 x32_2).f1) ((rd_T107 l0 x32_2).f2) ((rd_T107 l0 x32_2).f3) x40_3 t175 _ A18.out).mono ?_); rintro e w24 ⟨rfl, hb⟩; refine ⟨_, rfl, ?_⟩; have n0_ := bb BK170 hb; have n1_ := bb BK172 hb; have n2_ := Aside0.mk (below_step (bz2 GE170 GE172) hb); clear BK170; clear BK172; clear HB; have BK170 := n0_; have BK172 := n1_; have HB := n2_; clear n0_ n1_ n2_; (try clear hb); (try clear hb2); (try clear hk); (try clear hi)))
              go_loopg [12, 17] k3 (fun kq v12 v17 w' => ∃ (x12_4 : Int) (x17_4 : Int), v12 = .int .i64 x12_4 ∧ v17 = .int .i64 x17_4 ∧ Aside0 (spec_vaSum.l3 kq l1 x6_1 x9_2 x12_4 t173 x17_4 l0 (l0.length : Int) x32_2 l1 (l1.length : Int) x40_3 ((rd_T107 l0 x32_2).f0) ((rd_T107 l0 x32_2).f1) ((rd_T107 l0 x32_2).f2) ((rd_T107 l0 x32_2).f3) = some (r1, r2)) ∧ Aside0 (kq ≤ k3) ∧ Aside0 (w'.heap[gb170]? = some (.cells #[.int .i64 ((rd_T107 l0 x32_2).f0), .int .i64 ((rd_T107 l0 x32_2).f1), .int .i64 ((rd_T107 l0 x32_2).f2), .int .i64 ((rd_T107 l0 x32_2).f3)] 107 (0, 0))) ∧ Aside0 (w'.heap[gb172]? = some (.cells #[.int .i64 ((rd_T44 l1 x40_3).f0), .int .i64 ((rd_T44 l1 x40_3).f1)] 44 (0, 0))) ∧ Aside0 (Below w.heap.size w w'))
              case atStart => exact ⟨(x12_3), (t175), sr, sr, H', ⟨Nat.le_refl _⟩, ⟨bk BK170⟩, ⟨bk BK172⟩, ⟨bz2 GE170 GE172⟩⟩
              case round =>
               clear H'
               try clear c1; try clear p1; try clear q1; try clear hx1; try clear c2; try clear p2; try clear c3; try clear c3b0; try clear c4; try clear c4b0; try clear c5; try clear c5b0; try clear p6; try clear c7; try clear c9; try clear c9b0; try clear c10; try clear c10b0; try clear c11; try clear c11b0; try clear c14; try clear c14b0; try clear c15; try clear c15b0; try clear c16; try clear c16b0; try clear p16; try clear q16; try clear hx16; try clear p17; try clear q17; try clear hx17; try clear c20; try clear hcz13_0; try clear hcz13_1; try clear hcz13_2; try clear hcz13_3; try clear hcz21_0; try clear hcz21_1; try clear hcz23_0; try clear hcz23_1; try clear hcz23_2; try clear hcz23_3; try clear hcz8_0; try clear hcz8_1; try clear hfz13_0; try clear hfz13_1; try clear hfz13_2; try clear hfz13_3; try clear hfz21_0; try clear hfz21_1; try clear hfz23_0; try clear hfz23_1; try clear hfz23_2; try clear hfz23_3; try clear hfz8_0; try clear hfz8_1; try clear hx166_0; try clear hx166_1; try clear hx169_0; try clear hx169_1; try clear hx169_2; try clear hx169_3; try clear hx171_0; try clear hx171_1; try clear p1; try clear p166; try clear p169; try clear p171; try clear p2; try clear p6; try clear q1; try clear q166; try clear q169; try clear q171
               obtain ⟨x12_4, x17_4, rfl, rfl, HA, HK4, BK170, BK172, HB⟩ := hrel
               cases gk with
               | zero => exact absurd HA.out (by simp [spec_vaSum.l3])
               | succ k4 =>
                have H := HA.out
                clear HA
                simp only [spec_vaSum.l3] at H
                by_cases c25 : x17_4 > 0
                ·rw [if_pos c25] at H
                 have c25b0 : decide (0 < x17_4) = true := decide_eq_true c25
                 clear c25
                 have H' := Aside0.mk H
                 clear H
                 go_wp2
                 go_roundg k4
                 case measure => have := HK1.out; have := HK2.out; have := HK3.out; have := HK4.out; omega
                 case rel => exact ⟨(wrap64 (x12_4 * t173)), (wrap64 (x17_4 - 1)), sr, sr, H', ⟨by have := HK1.out; have := HK2.out; have := HK3.out; have := HK4.out; omega⟩, ⟨bk BK170⟩, ⟨bk BK172⟩, ⟨bz2 GE170 GE172⟩⟩
                ·rw [if_neg c25] at H
                 have c25b0 : decide (0 < x17_4) = false := decide_eq_false c25
                 clear c25
                 have H' := Aside0.mk H
                 clear H
                 go_wp2
                 go_roundg k4
                 case measure => have := HK1.out; have := HK2.out; have := HK3.out; have := HK4.out; omega
                 case rel => exact ⟨(x12_4), (wrap64 (x40_3 + 1)), sr, sr, H', ⟨by have := HK1.out; have := HK2.out; have := HK3.out; have := HK4.out; omega⟩, ⟨bk BK170⟩, ⟨bz2 GE170 GE172⟩⟩
             ·rw [if_neg c16] at H
              exact absurd H (by simp)
            ·rw [if_neg c15] at H
             exact absurd H (by simp)
           ·rw [if_neg c14] at H
            have c14b0 : decide (x40_3 < (l1.length : Int)) = false := decide_eq_false c14
            clear c14
            have H' := Aside0.mk H
            clear H
            have hcz26_0 : wr.cell? ⟨gb170, 0, none⟩ = some (.int .i64 ((rd_T107 l0 x32_2).f0)) := (blk_cell BK170.out 0).trans rfl
            have hcz26_1 : wr.cell? ⟨gb170, 1, none⟩ = some (.int .i64 ((rd_T107 l0 x32_2).f1)) := (blk_cell BK170.out 1).trans rfl
            have hcz26_2 : wr.cell? ⟨gb170, 2, none⟩ = some (.int .i64 ((rd_T107 l0 x32_2).f2)) := (blk_cell BK170.out 2).trans rfl
            have hcz26_3 : wr.cell? ⟨gb170, 3, none⟩ = some (.int .i64 ((rd_T107 l0 x32_2).f3)) := (blk_cell BK170.out 3).trans rfl
            have hfz26_0 := blk_frozen BK170.out 0
            have hfz26_1 := blk_frozen BK170.out 1
            have hfz26_2 := blk_frozen BK170.out 2
            have hfz26_3 := blk_frozen BK170.out 3
            go_wp2
            go_loopg [12, 18] k3 (fun kq v12 v18 w' => ∃ (x12_4 : Int) (x18_4 : Int), v12 = .int .i64 x12_4 ∧ v18 = .int .i64 x18_4 ∧ Aside0 (spec_vaSum.l4 kq l1 x6_1 x9_2 x12_4 x18_4 l0 (l0.length : Int) x32_2 = some (r1, r2)) ∧ Aside0 (kq ≤ k3) ∧ Aside0 (w'.heap[gb170]? = some (.cells #[.int .i64 ((rd_T107 l0 x32_2).f0), .int .i64 ((rd_T107 l0 x32_2).f1), .int .i64 ((rd_T107 l0 x32_2).f2), .int .i64 ((rd_T107 l0 x32_2).f3)] 107 (0, 0))) ∧ Aside0 (Below w.heap.size w w'))
            case atStart => exact ⟨(x12_3), (wrap64 ((wrap64 (((rd_T107 l0 x32_2).f1) + ((rd_T107 l0 x32_2).f2))) + ((rd_T107 l0 x32_2).f3))), sr, sr, H', ⟨Nat.le_refl _⟩, ⟨bk BK170⟩, ⟨bz1 GE170⟩⟩
            case round =>
             clear H'
             try clear c1; try clear p1; try clear q1; try clear hx1; try clear c2; try clear p2; try clear c3; try clear c3b0; try clear c4; try clear c4b0; try clear c5; try clear c5b0; try clear p6; try clear c7; try clear c9; try clear c9b0; try clear c10; try clear c10b0; try clear c11; try clear c11b0; try clear c14; try clear c14b0; try clear c15; try clear c15b0; try clear c16; try clear c16b0; try clear p16; try clear q16; try clear hx16; try clear p17; try clear q17; try clear hx17; try clear c20; try clear c25; try clear c25b0; try clear hcz13_0; try clear hcz13_1; try clear hcz13_2; try clear hcz13_3; try clear hcz21_0; try clear hcz21_1; try clear hcz23_0; try clear hcz23_1; try clear hcz23_2; try clear hcz23_3; try clear hcz26_0; try clear hcz26_1; try clear hcz26_2; try clear hcz26_3; try clear hcz8_0; try clear hcz8_1; try clear hfz13_0; try clear hfz13_1; try clear hfz13_2; try clear hfz13_3; try clear hfz21_0; try clear hfz21_1; try clear hfz23_0; try clear hfz23_1; try clear hfz23_2; try clear hfz23_3; try clear hfz26_0; try clear hfz26_1; try clear hfz26_2; try clear hfz26_3; try clear hfz8_0; try clear hfz8_1; try clear hx166_0; try clear hx166_1; try clear hx169_0; try clear hx169_1; try clear hx169_2; try clear hx169_3; try clear hx171_0; try clear hx171_1; try clear p1; try clear p16; try clear p166; try clear p169; try clear p17; try clear p171; try clear p2; try clear p6; try clear q1; try clear q16; try clear q166; try clear q169; try clear q17; try clear q171
             obtain ⟨x12_4, x18_4, rfl, rfl, HA, HK4, BK170, HB⟩ := hrel
             cases gk with
             | zero => exact absurd HA.out (by simp [spec_vaSum.l4])
             | succ k4 =>
              have H := HA.out
              clear HA
              simp only [spec_vaSum.l4] at H
              by_cases c27 : x18_4 < 4
              ·rw [if_pos c27] at H
               have c27b0 : decide (x18_4 < 4) = true := decide_eq_true c27
               clear c27
               obtain ⟨t176, A28, H⟩ := bi H
               have H' := Aside0.mk H
               clear H
               go_wp2_with (first | ((with_reducible refine gate_callee (f := 108) rfl ?_); refine goesL_ (some 76) rfl rfl Try.func108 kf rfl #[.int .i64 x6_1] rfl sm ?_; (with_reducible refine (spec_dyPower.calls x6_1 t176 _ A28.out).mono ?_); rintro e w' ⟨rfl, ⟨nd, rfl⟩⟩; refine ⟨_, rfl, ?_⟩))
               go_roundg k4
               case measure => have := HK1.out; have := HK2.out; have := HK3.out; have := HK4.out; omega
               case rel => exact ⟨(wrap64 (x12_4 * t176)), (wrap64 (x18_4 + 1)), sr, sr, H', ⟨by have := HK1.out; have := HK2.out; have := HK3.out; have := HK4.out; omega⟩, ⟨bk BK170⟩, ⟨bz1 GE170⟩⟩
              ·rw [if_neg c27] at H
               have c27b0 : decide (x18_4 < 4) = false := decide_eq_false c27
               clear c27
               have H' := Aside0.mk H
               clear H
               go_wp2
               go_roundg k4
               case measure => have := HK1.out; have := HK2.out; have := HK3.out; have := HK4.out; omega
               case rel => exact ⟨(wrap64 (x9_2 + x12_4)), (wrap64 (x32_2 + 1)), sr, sr, H', ⟨by have := HK1.out; have := HK2.out; have := HK3.out; have := HK4.out; omega⟩, ⟨bz1 GE170⟩⟩
        ·rw [if_neg c11] at H
         exact absurd H (by simp)
       ·rw [if_neg c10] at H
        exact absurd H (by simp)
      ·rw [if_neg c9] at H
       have c9b0 : decide (x32_2 < (l0.length : Int)) = false := decide_eq_false c9
       clear c9
       simp only [Option.some.injEq, Prod.mk.injEq] at H
       obtain ⟨rfl, rfl⟩ := H
       go_wp2
       go_ret2
       exact ⟨er, bz⟩
def spec_vaSigns.l0 : Nat → List (S44) → List Int → List (List (S107)) → Int → Int → Option (List Int)
 | 0, _, _, _, _, _ => none
 | k + 1, x1, x5, x10, x11, x12 => if x12 < x11 then (if 0 ≤ x12 then (if x12 < (x10.length : Int) then ((spec_vaSum.f k (rd_L3 x10 x12) x1).bind fun bt178 => ((spec_l1Sign.f bt178.1).bind fun t180 => (if x5.length < 17592186044416 then (spec_vaSigns.l0 k x1 (x5 ++ [t180]) x10 x11 (wrap64 (x12 + 1))) else (none)))) else (none)) else (none)) else (some x5)
def spec_vaSigns.f (k : Nat) (l0 : List (List (S107))) (l1 : List (S44)) : Option (List Int) := spec_vaSigns.l0 k l1 ([] : List Int) l0 (l0.length : Int) 0
set_option maxHeartbeats 8000000 in
set_option maxRecDepth 100000 in
theorem spec_vaSigns.calls (k : Nat) (A0 : Option Addr) (c0 : Nat) (l0 : List (List (S107))) (A1 : Option Addr) (c1 : Nat) (l1 : List (S44)) (r : List Int) (w : World) (hr0 : Kd.C (Kd.slice 107 k107) w A0 l0.length l0) (hc0 : l0.length ≤ c0) (hr1 : Kd.C k44 w A1 l1.length l1) (hc1 : l1.length ≤ c1) (h : spec_vaSigns.f k l0 l1 = some r) :
 Calls Try.prog 99 #[.slice A0 l0.length c0, .slice A1 l1.length c1] w fun e w' => ∃ v0_ : Value, e = .returned (v0_) ∧ Kd.R (Kd.int .i64) 3 w' w.heap.size (fun _ => True) v0_ r ∧ Below w.heap.size w w' := by
 have HR0 := Aside0.mk hr0
 have HC0 := Aside0.mk hc0
 clear hr0 hc0
 have HR1 := Aside0.mk hr1
 have HC1 := Aside0.mk hc1
 clear hr1 hc1
 have HB := Aside0.mk (Below.refl w.heap.size w)
 have H : (spec_vaSigns.l0 k l1 ([] : List Int) l0 (l0.length : Int) 0) = some r := h
 clear h
 have H' := Aside0.mk H
 clear H
 go_enter Try.func99, Try.ntmps99
 go_wp2
 go_loopg [5, 12] k (fun kq v5 v12 w' => ∃ (x5_1 : List Int) (x12_1 : Int), v12 = .int .i64 x12_1 ∧ Aside0 (spec_vaSigns.l0 kq l1 x5_1 l0 (l0.length : Int) x12_1 = some r) ∧ Aside0 (kq ≤ k) ∧ Aside0 (Kd.R (Kd.int .i64) 3 w' w.heap.size (fun _ => True) v5 x5_1) ∧ Aside0 (Below w.heap.size w w'))
 case atStart => exact ⟨(([] : List Int)), (0), sr, H', ⟨Nat.le_refl _⟩, ⟨by first | exact Kd.R_nil _ _ _ _ _ | exact Kd.N_nil _ _ _ _ _ | exact Kd.V_nil _ _ _ _ _ | exact Kd.Q_nil _ _ _ _ _ | exact Kd.S_nil _ _ _ _ _⟩, ⟨bz⟩⟩
 case round =>
  clear H'
  try clear c1; try clear p2
  obtain ⟨x5_1, x12_1, rfl, HA, HK1, HO_5, HB⟩ := hrel
  cases gk with
  | zero => exact absurd HA.out (by simp [spec_vaSigns.l0])
  | succ k1 =>
   have H := HA.out
   clear HA
   simp only [spec_vaSigns.l0] at H
   by_cases c3 : x12_1 < (l0.length : Int)
   ·rw [if_pos c3] at H
    have c3b0 : decide (x12_1 < (l0.length : Int)) = true := decide_eq_true c3
    clear c3
    by_cases c4 : 0 ≤ x12_1
    ·rw [if_pos c4] at H
     have c4b0 : decide (0 ≤ x12_1) = true := decide_eq_true c4
     clear c4
     by_cases c5 : x12_1 < (l0.length : Int)
     ·rw [if_pos c5] at H
      have c5b0 : decide (x12_1 < (l0.length : Int)) = true := decide_eq_true c5
      clear c5
      obtain ⟨⟨t178, t179⟩, A6, H⟩ := bi H
      try dsimp only at H
      obtain ⟨t180, A7, H⟩ := bi H
      by_cases c8 : x5_1.length < 17592186044416
      ·rw [if_pos c8] at H
       have LMc8 := Aside0.mk c8
       clear c8
       obtain ⟨y181, hy181⟩ : ∃ y_ : List Int, y_ = (x5_1 ++ [t180]) := ⟨_, rfl⟩
       replace H : (spec_vaSigns.l0 k1 l1 y181 l0 (l0.length : Int) (wrap64 (x12_1 + 1))) = some r := by first | (rw [hy181]; with_reducible exact H) | (have H2_ := (Option.bind_some _ _).symm.trans H; rw [hy181]; with_reducible exact H2_) | (have H2_ := (Option.bind_some _ _).symm.trans H; with_reducible exact H2_) | with_reducible exact H | (rw [hy181]; exact H) | exact H
       have Ny181 := Aside0.mk hy181
       clear hy181
       have H' := Aside0.mk H
       clear H
       have p177 : 0 ≤ (x12_1 : Int) := of_decide_eq_true am
       have q177 : x12_1 < (l0.length : Int) := of_decide_eq_true am
       obtain ⟨ad177, A177_0, c177_0, e177, hx177_0, hl177_0, hi177_0⟩ := at_L3 HR0.out x12_1 p177 q177
       cases e177
       replace hx177_0 := (HB.out.cell (World.block_lt_of_cell? w _ hx177_0)).trans hx177_0
       have HR177_0 := Aside0.mk hi177_0
       have HC177_0 := Aside0.mk hl177_0
       clear hi177_0 hl177_0
       replace p177 := eq_true p177
       replace q177 := eq_true q177
       go_wp2_with (first | ((with_reducible refine gate_callee (f := 76) rfl ?_); refine goesL_ (some 19) rfl rfl Try.func76 kf rfl #[.slice A177_0 (rd_L3 l0 x12_1).length c177_0, .slice A1 l1.length c1] rfl sm ?_; (with_reducible refine (spec_vaSum.calls k1 _ _ (rd_L3 l0 x12_1) _ _ l1 t178 t179 _ ?side1 ?side2 ?side3 ?side4 A6.out).mono ?_); (case side1 => exact cb HR177_0); (case side2 => exact HC177_0.out); (case side3 => exact cb HR1); (case side4 => exact HC1.out); rintro e w9 ⟨rfl, hb⟩; refine ⟨_, rfl, ?_⟩; have n0_ := Aside0.mk (Kd.R_below (kr HO_5) hb); have n1_ := Aside0.mk (below_step bz hb); clear HO_5; clear HB; have HO_5 := n0_; have HB := n1_; clear n0_ n1_; (try clear hb); (try clear hb2); (try clear hk); (try clear hi)) | ((with_reducible refine gate_callee (f := 77) rfl ?_); refine goesL_ (some 24) rfl rfl Try.func77 kf rfl #[.int .i64 t178] rfl sm ?_; (with_reducible refine (spec_l1Sign.calls t178 t180 _ A7.out).mono ?_); rintro e w' ⟨rfl, ⟨nd, rfl⟩⟩; refine ⟨_, rfl, ?_⟩) | ((with_reducible refine gate_builtin (b := .append) (xs := #[.tmp 22, .tmp 25]) rfl ?_); at_builtin; refine Kd.R_append (Kd.int .i64) (w0 := w) w.heap.size rfl (.tmp 22) (.tmp 25) 29 3 (.int .i64 0) 8 rfl Try.underlying29 info3 rfl (by decide) (by omega) u5 x5_1 t180 [.int .i64 t180] (fun _ => True) (fun _ => False) rfl rfl ?aP (fun _ hk => hk.elim) ?aF ?aO ?aB ?aS ?aL ?_; (case aP => exact rfl); (case aB => exact bz); (case aF => exact (fun _ _ => trivial)); (case aO => exact (kr HO_5)); (case aS => exact (below_size bz)); (case aL => have := LMc8.out; omega); intro v182 w10 ho hb hg hat; rw [← Ny181.out] at ho; have n0_ := Aside0.mk (hb); have n1_ := Aside0.mk (ho); clear HB; clear HO_5; have HB := n0_; have HO183 := n1_; clear n0_ n1_; clear ho hb hg hat))
       go_roundg k1
       case measure => have := HK1.out; omega
       case rel => exact ⟨(y181), (wrap64 (x12_1 + 1)), sr, H', ⟨by have := HK1.out; omega⟩, ⟨kr HO183⟩, ⟨bz⟩⟩
      ·rw [if_neg c8] at H
       exact absurd H (by simp)
     ·rw [if_neg c5] at H
      exact absurd H (by simp)
    ·rw [if_neg c4] at H
     exact absurd H (by simp)
   ·rw [if_neg c3] at H
    have c3b0 : decide (x12_1 < (l0.length : Int)) = false := decide_eq_false c3
    clear c3
    obtain rfl := Option.some.inj H
    go_wp2
    go_ret
    exact ⟨_, er, by (with_reducible repeat (first | apply Kd.R_alloc | apply Kd.R_drewN | apply Kd.R_drew)); exact HO_5.out, bz⟩
def spec_SignsAt.f (k : Nat) (l0 : List (List (S107))) (l1 : List (S44)) : Option (List Int × Bool) := (spec_poSystem.f k l0).bind fun t184 => (if t184 = true then ((spec_vaPoint.f k l1).bind fun t185 => (if t185 = true then (if (l1.length : Int) = (l0.length : Int) then ((spec_vaSigns.f k l0 l1).bind fun t186 => (some (t186, true))) else (some (([] : List Int), false))) else (some (([] : List Int), false)))) else (some (([] : List Int), false)))
set_option maxHeartbeats 8000000 in
set_option maxRecDepth 100000 in
theorem spec_SignsAt.calls (k : Nat) (A0 : Option Addr) (c0 : Nat) (l0 : List (List (S107))) (A1 : Option Addr) (c1 : Nat) (l1 : List (S44)) (r1 : List Int) (r2 : Bool) (w : World) (hr0 : Kd.C (Kd.slice 107 k107) w A0 l0.length l0) (hc0 : l0.length ≤ c0) (hr1 : Kd.C k44 w A1 l1.length l1) (hc1 : l1.length ≤ c1) (h : spec_SignsAt.f k l0 l1 = some (r1, r2)) :
 Calls Try.prog 45 #[.slice A0 l0.length c0, .slice A1 l1.length c1] w fun e w' => ∃ v0_ : Value, e = .returned (.tuple #[v0_, .bool r2]) ∧ Kd.R (Kd.int .i64) 3 w' w.heap.size (fun _ => True) v0_ r1 ∧ Below w.heap.size w w' := by
 have HR0 := Aside0.mk hr0
 have HC0 := Aside0.mk hc0
 clear hr0 hc0
 have HR1 := Aside0.mk hr1
 have HC1 := Aside0.mk hc1
 clear hr1 hc1
 have HB := Aside0.mk (Below.refl w.heap.size w)
 have H : ((spec_poSystem.f k l0).bind fun t184 => (if t184 = true then ((spec_vaPoint.f k l1).bind fun t185 => (if t185 = true then (if (l1.length : Int) = (l0.length : Int) then ((spec_vaSigns.f k l0 l1).bind fun t186 => (some (t186, true))) else (some (([] : List Int), false))) else (some (([] : List Int), false)))) else (some (([] : List Int), false)))) = some (r1, r2) := h
 clear h
 obtain ⟨t184, A3, H⟩ := bi H
 by_cases c4 : t184 = true
 ·subst c4
  rw [if_pos rfl] at H
  obtain ⟨t185, A5, H⟩ := bi H
  by_cases c6 : t185 = true
  ·subst c6
   rw [if_pos rfl] at H
   by_cases c7 : (l1.length : Int) = (l0.length : Int)
   ·rw [if_pos c7] at H
    have c7b0 : ((l1.length : Int) == (l0.length : Int)) = true := beq_iff_eq.mpr c7
    have c7b1 : ((l1.length : Int) != (l0.length : Int)) = false := bne_eq_false_iff_eq.mpr c7
    have c7b2 : (l1.length == l0.length) = true := by first | simpa using c7 | (simp at c7 ⊢; omega)
    clear c7
    obtain ⟨t186, A8, H⟩ := bi H
    simp only [Option.some.injEq, Prod.mk.injEq] at H
    obtain ⟨rfl, rfl⟩ := H
    go_enter Try.func45, Try.ntmps45
    go_wp2_with (first | ((with_reducible refine gate_callee (f := 98) rfl ?_); refine goesL_ (some 7) rfl rfl Try.func98 kf rfl #[.slice A0 l0.length c0] rfl sm ?_; (with_reducible refine (spec_poSystem.calls k _ _ l0 true _ ?side1 ?side2 A3.out).mono ?_); (case side1 => exact cc HR0); (case side2 => exact HC0.out); rintro e w9 ⟨rfl, hb⟩; refine ⟨_, rfl, ?_⟩; have n0_ := Aside0.mk (below_step bz hb); clear HB; have HB := n0_; clear n0_; (try clear hb); (try clear hb2); (try clear hk); (try clear hi)) | (go_at_call 54; (with_reducible refine (spec_vaPoint.calls k _ _ l1 true _ ?side1 ?side2 A5.out).mono ?_); (case side1 => exact cb HR1); (case side2 => exact HC1.out); rintro e w10 ⟨rfl, hb⟩; have n0_ := Aside0.mk (below_step bz hb); clear HB; have HB := n0_; clear n0_; (try clear hb); (try clear hb2); (try clear hk); (try clear hi)) | ((with_reducible refine gate_callee (f := 99) rfl ?_); refine goesL_ (some 23) rfl rfl Try.func99 kf rfl #[.slice A0 l0.length c0, .slice A1 l1.length c1] rfl sm ?_; (with_reducible refine (spec_vaSigns.calls k _ _ l0 _ _ l1 t186 _ ?side1 ?side2 ?side3 ?side4 A8.out).mono ?_); (case side1 => exact cb HR0); (case side2 => exact HC0.out); (case side3 => exact cb HR1); (case side4 => exact HC1.out); rintro e w11 ⟨v187, rfl, ho0, hb⟩; refine ⟨_, rfl, ?_⟩; have n0_ := Aside0.mk (Kd.R_lower ho0 (below_size bz)); have n1_ := Aside0.mk (below_step bz hb); clear HB; have HO188 := n0_; have HB := n1_; clear n0_ n1_; (try clear hb); (try clear hb2); (try clear hk); (try clear hi); (try clear ho0)))
    go_ret2
    exact ⟨_, er, by (with_reducible repeat (first | apply Kd.R_alloc | apply Kd.R_drewN | apply Kd.R_drew)); exact HO188.out, bz⟩
   ·rw [if_neg c7] at H
    have c7b0 : ((l1.length : Int) == (l0.length : Int)) = false := beq_eq_false_iff_ne.mpr c7
    have c7b1 : ((l1.length : Int) != (l0.length : Int)) = true := bne_iff_ne.mpr c7
    have c7b2 : (l1.length == l0.length) = false := by first | simpa using c7 | (simp at c7 ⊢; omega)
    simp only [Option.some.injEq, Prod.mk.injEq] at H
    obtain ⟨rfl, rfl⟩ := H
    go_enter Try.func45, Try.ntmps45
    go_wp2_with (first | ((with_reducible refine gate_callee (f := 98) rfl ?_); refine goesL_ (some 7) rfl rfl Try.func98 kf rfl #[.slice A0 l0.length c0] rfl sm ?_; (with_reducible refine (spec_poSystem.calls k _ _ l0 true _ ?side1 ?side2 A3.out).mono ?_); (case side1 => exact cc HR0); (case side2 => exact HC0.out); rintro e w12 ⟨rfl, hb⟩; refine ⟨_, rfl, ?_⟩; have n0_ := Aside0.mk (below_step bz hb); clear HB; have HB := n0_; clear n0_; (try clear hb); (try clear hb2); (try clear hk); (try clear hi)) | (go_at_call 54; (with_reducible refine (spec_vaPoint.calls k _ _ l1 true _ ?side1 ?side2 A5.out).mono ?_); (case side1 => exact cb HR1); (case side2 => exact HC1.out); rintro e w13 ⟨rfl, hb⟩; have n0_ := Aside0.mk (below_step bz hb); clear HB; have HB := n0_; clear n0_; (try clear hb); (try clear hb2); (try clear hk); (try clear hi)))
    go_ret2
    exact ⟨_, er, by first | exact Kd.R_nil _ _ _ _ _ | exact Kd.N_nil _ _ _ _ _ | exact Kd.V_nil _ _ _ _ _ | exact Kd.Q_nil _ _ _ _ _ | exact Kd.S_nil _ _ _ _ _, bz⟩
  ·replace c6 := Bool.eq_false_iff.mpr c6
   subst c6
   rw [if_neg (show ¬ (false = true) by decide)] at H
   simp only [Option.some.injEq, Prod.mk.injEq] at H
   obtain ⟨rfl, rfl⟩ := H
   go_enter Try.func45, Try.ntmps45
   go_wp2_with (first | ((with_reducible refine gate_callee (f := 98) rfl ?_); refine goesL_ (some 7) rfl rfl Try.func98 kf rfl #[.slice A0 l0.length c0] rfl sm ?_; (with_reducible refine (spec_poSystem.calls k _ _ l0 true _ ?side1 ?side2 A3.out).mono ?_); (case side1 => exact cc HR0); (case side2 => exact HC0.out); rintro e w14 ⟨rfl, hb⟩; refine ⟨_, rfl, ?_⟩; have n0_ := Aside0.mk (below_step bz hb); clear HB; have HB := n0_; clear n0_; (try clear hb); (try clear hb2); (try clear hk); (try clear hi)) | (go_at_call 54; (with_reducible refine (spec_vaPoint.calls k _ _ l1 false _ ?side1 ?side2 A5.out).mono ?_); (case side1 => exact cb HR1); (case side2 => exact HC1.out); rintro e w15 ⟨rfl, hb⟩; have n0_ := Aside0.mk (below_step bz hb); clear HB; have HB := n0_; clear n0_; (try clear hb); (try clear hb2); (try clear hk); (try clear hi)))
   go_ret2
   exact ⟨_, er, by first | exact Kd.R_nil _ _ _ _ _ | exact Kd.N_nil _ _ _ _ _ | exact Kd.V_nil _ _ _ _ _ | exact Kd.Q_nil _ _ _ _ _ | exact Kd.S_nil _ _ _ _ _, bz⟩
 ·replace c4 := Bool.eq_false_iff.mpr c4
  subst c4
  rw [if_neg (show ¬ (false = true) by decide)] at H
  simp only [Option.some.injEq, Prod.mk.injEq] at H
  obtain ⟨rfl, rfl⟩ := H
  go_enter Try.func45, Try.ntmps45
  go_wp2_with (first | ((with_reducible refine gate_callee (f := 98) rfl ?_); refine goesL_ (some 7) rfl rfl Try.func98 kf rfl #[.slice A0 l0.length c0] rfl sm ?_; (with_reducible refine (spec_poSystem.calls k _ _ l0 false _ ?side1 ?side2 A3.out).mono ?_); (case side1 => exact cc HR0); (case side2 => exact HC0.out); rintro e w16 ⟨rfl, hb⟩; refine ⟨_, rfl, ?_⟩; have n0_ := Aside0.mk (below_step bz hb); clear HB; have HB := n0_; clear n0_; (try clear hb); (try clear hb2); (try clear hk); (try clear hi)))
  go_ret2
  exact ⟨_, er, by first | exact Kd.R_nil _ _ _ _ _ | exact Kd.N_nil _ _ _ _ _ | exact Kd.V_nil _ _ _ _ _ | exact Kd.Q_nil _ _ _ _ _ | exact Kd.S_nil _ _ _ _ _, bz⟩
end Go.Proofs.Ytalcohajbcijlaa.QSiA
