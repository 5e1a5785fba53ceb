import Derived.Test.YtalcohajbcijlaaZSignsAtSq
import Derived.Test.YtalcohajbcijlaaZSignsAtQSiAx9
import Derived.Test.YtalcohajbcijlaaZSignsAtQSiAx13
namespace Go.Proofs.Ytalcohajbcijlaa.QSiA
open Go.RowKit Go.Proofs.YtalcohajbcijlaaW.PrintWords Go.Proofs.YtalcohajbcijlaaW.PrintLast Go.Proofs.YtalcohajbcijlaaW.PrintMore
attribute [local go_sem] max2_int min2_int max_two min_two max_three min_three max_four min_four
set_option linter.unusedVariables false
set_option linter.unusedSimpArgs false
def laws_szTermSS.l0 : Nat → List (List (S109)) → Int → Int → Option (Int)
 | 0, _, _, _ => none
 | k + 1, x0, x1, x5 => if x5 < (x0.length : Int) then (if 0 ≤ x5 then ((laws_szTermS.f (rd_L5 x0 x5) x1).bind fun t285 => (if t285 < 0 then (some (-1)) else (laws_szTermSS.l0 k x0 t285 (wrap64 (x5 + 1))))) else (none)) else (some x1)
def laws_szTermSS.f (k : Nat) (l0 : List (List (S109))) (a1 : Int) : Option (Int) := if (wrap64 (a1 - (l0.length : Int))) < 0 then (some (-1)) else (laws_szTermSS.l0 k l0 (wrap64 (a1 - (l0.length : Int))) 0)
set_option maxHeartbeats 8000000 in
set_option maxRecDepth 100000 in
theorem laws_szTermSS.calls (k : Nat) (A0 : Option Addr) (c0 : Nat) (l0 : List (List (S109))) (a1 : Int) (r : Int) (w : World) (hr0 : Kd.C (Kd.slice 109 k109) w A0 l0.length l0) (hc0 : l0.length ≤ c0) (h : laws_szTermSS.f k l0 a1 = some r) :
 Calls Try.prog 44 #[.slice A0 l0.length c0, .int .i64 a1] w fun e w' => e = .returned (.int .i64 r) ∧ Drawn0 w w' := by
 have HR0 := Aside0.mk hr0
 have HC0 := Aside0.mk hc0
 clear hr0 hc0
 have H : (if (wrap64 (a1 - (l0.length : Int))) < 0 then (some (-1)) else (laws_szTermSS.l0 k l0 (wrap64 (a1 - (l0.length : Int))) 0)) = some r := h
 clear h
 by_cases c3 : (wrap64 (a1 - (l0.length : Int))) < 0
 ·rw [if_pos c3] at H
  have c3b0 : decide ((wrap64 (a1 - (l0.length : Int))) < 0) = true := decide_eq_true c3
  (try (have c3b0w : decide ((IntKind.i64.wrap (a1 - (l0.length : Int))) < 0) = true := by simp only [i64_w]; exact c3b0))
  clear c3
  obtain rfl := Option.some.inj H
  go_enter Try.func44, Try.ntmps44
  go_wp2
  go_ret
  exact ⟨sr, dz⟩
 ·rw [if_neg c3] at H
  have c3b0 : decide ((wrap64 (a1 - (l0.length : Int))) < 0) = false := decide_eq_false c3
  (try (have c3b0w : decide ((IntKind.i64.wrap (a1 - (l0.length : Int))) < 0) = false := by simp only [i64_w]; exact c3b0))
  clear c3
  have H' := Aside0.mk H
  clear H
  go_enter Try.func44, Try.ntmps44
  go_wp2
  go_loopg [1, 5] k (fun kq v1 v5 w' => ∃ (x1_1 : Int) (x5_1 : Int), v1 = .int .i64 x1_1 ∧ v5 = .int .i64 x5_1 ∧ Aside0 (laws_szTermSS.l0 kq l0 x1_1 x5_1 = some r) ∧ Aside0 (kq ≤ k) ∧ Drawn0 w w')
  case atStart => exact ⟨(wrap64 (a1 - (l0.length : Int))), (0), sr, sr, H', ⟨Nat.le_refl _⟩, dz⟩
  case round =>
   clear H'
   try clear p2; try clear c3; try clear c3b0
   obtain ⟨x1_1, x5_1, rfl, rfl, HA, HK1, ⟨m1, rfl⟩⟩ := hrel
   cases gk with
   | zero => exact absurd HA.out (by simp [laws_szTermSS.l0])
   | succ k1 =>
    have H := HA.out
    clear HA
    simp only [laws_szTermSS.l0] at H
    by_cases c4 : x5_1 < (l0.length : Int)
    ·rw [if_pos c4] at H
     have c4b0 : decide (x5_1 < (l0.length : Int)) = true := decide_eq_true c4
     clear c4
     by_cases c5 : 0 ≤ x5_1
     ·rw [if_pos c5] at H
      have c5b0 : decide (0 ≤ x5_1) = true := decide_eq_true c5
      clear c5
      obtain ⟨t285, A6, H⟩ := bi H
      by_cases c7 : t285 < 0
      ·rw [if_pos c7] at H
       have c7b0 : decide (t285 < 0) = true := decide_eq_true c7
       clear c7
       obtain rfl := Option.some.inj H
       have p284 : 0 ≤ (x5_1 : Int) := of_decide_eq_true am
       have q284 : x5_1 < (l0.length : Int) := of_decide_eq_true am
       obtain ⟨ad284, A284_0, c284_0, e284, hx284_0, hl284_0, hi284_0⟩ := at_L5 HR0.out x5_1 p284 q284
       cases e284
       have HR284_0 := Aside0.mk hi284_0
       have HC284_0 := Aside0.mk hl284_0
       clear hi284_0 hl284_0
       replace p284 := eq_true p284
       replace q284 := eq_true q284
       go_wp2_with (first | ((with_reducible refine gate_callee (f := 30) rfl ?_); refine goesL_ (some 23) rfl rfl Try.func30 kf rfl #[.slice A284_0 (rd_L5 l0 x5_1).length c284_0, .int .i64 x1_1] rfl sm ?_; (with_reducible refine (laws_szTermS.calls _ _ (rd_L5 l0 x5_1) x1_1 t285 _ ?side1 ?side2 A6.out).mono ?_); (case side1 => exact cc HR284_0); (case side2 => exact HC284_0.out); rintro e w' ⟨rfl, ⟨nd, rfl⟩⟩; refine ⟨_, rfl, ?_⟩))
       go_ret
       exact ⟨sr, dz⟩
      ·rw [if_neg c7] at H
       have c7b0 : decide (t285 < 0) = false := decide_eq_false c7
       clear c7
       have H' := Aside0.mk H
       clear H
       have p284 : 0 ≤ (x5_1 : Int) := of_decide_eq_true am
       have q284 : x5_1 < (l0.length : Int) := of_decide_eq_true am
       obtain ⟨ad284, A284_0, c284_0, e284, hx284_0, hl284_0, hi284_0⟩ := at_L5 HR0.out x5_1 p284 q284
       cases e284
       have HR284_0 := Aside0.mk hi284_0
       have HC284_0 := Aside0.mk hl284_0
       clear hi284_0 hl284_0
       replace p284 := eq_true p284
       replace q284 := eq_true q284
       go_wp2_with (first | ((with_reducible refine gate_callee (f := 30) rfl ?_); refine goesL_ (some 23) rfl rfl Try.func30 kf rfl #[.slice A284_0 (rd_L5 l0 x5_1).length c284_0, .int .i64 x1_1] rfl sm ?_; (with_reducible refine (laws_szTermS.calls _ _ (rd_L5 l0 x5_1) x1_1 t285 _ ?side1 ?side2 A6.out).mono ?_); (case side1 => exact cc HR284_0); (case side2 => exact HC284_0.out); rintro e w' ⟨rfl, ⟨nd, rfl⟩⟩; refine ⟨_, rfl, ?_⟩))
       go_roundg k1
       case measure => have := HK1.out; omega
       case rel => exact ⟨(t285), (wrap64 (x5_1 + 1)), sr, sr, H', ⟨by have := HK1.out; omega⟩, dz⟩
     ·rw [if_neg c5] at H
      exact absurd H (by simp)
    ·rw [if_neg c4] at H
     have c4b0 : decide (x5_1 < (l0.length : Int)) = false := decide_eq_false c4
     clear c4
     obtain rfl := Option.some.inj H
     go_wp2
     go_ret
     exact ⟨sr, dz⟩
def laws_eqTerm.f (a0_0 : Int) (a0_1 : Int) (a0_2 : Int) (a0_3 : Int) (a1_0 : Int) (a1_1 : Int) (a1_2 : Int) (a1_3 : Int) : Option (Bool) := if a0_0 = a1_0 then (if a0_1 = a1_1 then (if a0_2 = a1_2 then (if a0_3 = a1_3 then (some true) else (some false)) else (some false)) else (some false)) else (some false)
set_option maxHeartbeats 8000000 in
set_option maxRecDepth 100000 in
theorem laws_eqTerm.calls (a0_0 : Int) (a0_1 : Int) (a0_2 : Int) (a0_3 : Int) (a1_0 : Int) (a1_1 : Int) (a1_2 : Int) (a1_3 : Int) (r : Bool) (w : World) (h : laws_eqTerm.f a0_0 a0_1 a0_2 a0_3 a1_0 a1_1 a1_2 a1_3 = some r) :
 Calls Try.prog 124 #[.agg #[.int .i64 a0_0, .int .i64 a0_1, .int .i64 a0_2, .int .i64 a0_3], .agg #[.int .i64 a1_0, .int .i64 a1_1, .int .i64 a1_2, .int .i64 a1_3]] w fun e w' => e = .returned (.bool r) ∧ Below w.heap.size w w' := by
 have hu107 := Try.underlying107
 have HB := Aside0.mk (Below.refl w.heap.size w)
 have H : (if a0_0 = a1_0 then (if a0_1 = a1_1 then (if a0_2 = a1_2 then (if a0_3 = a1_3 then (some true) else (some false)) else (some false)) else (some false)) else (some false)) = some r := h
 clear h
 by_cases c3 : a0_0 = a1_0
 ·rw [if_pos c3] at H
  have c3b0 : (a0_0 == a1_0) = true := beq_iff_eq.mpr c3
  have c3b1 : (a0_0 != a1_0) = false := bne_eq_false_iff_eq.mpr c3
  clear c3
  by_cases c4 : a0_1 = a1_1
  ·rw [if_pos c4] at H
   have c4b0 : (a0_1 == a1_1) = true := beq_iff_eq.mpr c4
   have c4b1 : (a0_1 != a1_1) = false := bne_eq_false_iff_eq.mpr c4
   clear c4
   by_cases c5 : a0_2 = a1_2
   ·rw [if_pos c5] at H
    have c5b0 : (a0_2 == a1_2) = true := beq_iff_eq.mpr c5
    have c5b1 : (a0_2 != a1_2) = false := bne_eq_false_iff_eq.mpr c5
    clear c5
    by_cases c6 : a0_3 = a1_3
    ·rw [if_pos c6] at H
     have c6b0 : (a0_3 == a1_3) = true := beq_iff_eq.mpr c6
     have c6b1 : (a0_3 != a1_3) = false := bne_eq_false_iff_eq.mpr c6
     clear c6
     obtain rfl := Option.some.inj H
     go_enter Try.func124, Try.ntmps124
     go_wp2_with (first | ((with_reducible refine gate_dst (N := 2) rfl ?_); refine bv (N := 2) (cs := #[.int .i64 a0_0, .int .i64 a0_1, .int .i64 a0_2, .int .i64 a0_3]) (t := 107) ?_; intro gb286 hg w7 hbox hb; have n0_ := Aside0.mk (below_step bz hb); have n1_ := Aside0.mk (hbox); have n2_ := (gz hg : Aside0 (w.heap.size ≤ _)); have n3_ := (gz hg : Aside0 (w.heap.size ≤ _)); clear HB; have HB := n0_; have BK286 := n1_; have GW286 := n2_; have GE286 := n3_; clear n0_ n1_ n2_ n3_; clear hb hbox hg) | ((with_reducible refine gate_dst (N := 3) rfl ?_); refine bv (N := 3) (cs := #[.int .i64 a1_0, .int .i64 a1_1, .int .i64 a1_2, .int .i64 a1_3]) (t := 107) ?_; intro gb287 hg w8 hbox hb; have n0_ := bb BK286 hb; have n1_ := Aside0.mk (below_step (bz1 GE286) hb); have n2_ := Aside0.mk (hbox); have n3_ := Aside0.mk ((by rw [hg]; exact (below_size (bz1 GE286)) : w.heap.size ≤ gb287)); have n4_ := Aside0.mk ((by rw [hg]; exact (below_size (bz1 GE286)) : w.heap.size ≤ gb287)); have n5_ := Aside0.mk ((by rw [hg]; exact Nat.ne_of_lt (blk_lt (g := gb286) (o := .cells #[.int .i64 a0_0, .int .i64 a0_1, .int .i64 a0_2, .int .i64 a0_3] 107 (0, 0)) (bk BK286)) : gb286 ≠ gb287)); have n6_ := Aside0.mk ((by rw [hg]; exact Nat.ne_of_gt (blk_lt (g := gb286) (o := .cells #[.int .i64 a0_0, .int .i64 a0_1, .int .i64 a0_2, .int .i64 a0_3] 107 (0, 0)) (bk BK286)) : gb287 ≠ gb286)); clear BK286; clear HB; have BK286 := n0_; have HB := n1_; have BK287 := n2_; have GW287 := n3_; have GE287 := n4_; have NB286_287 := n5_; have NB287_286 := n6_; clear n0_ n1_ n2_ n3_ n4_ n5_ n6_; clear hb hbox hg; have hnb9 := NB286_287.out; have hnc9 := NB287_286.out; have hcz10_0 : w8.cell? ⟨gb286, 0, none⟩ = some (.int .i64 a0_0) := (blk_cell BK286.out 0).trans rfl; have hcz10_1 : w8.cell? ⟨gb286, 1, none⟩ = some (.int .i64 a0_1) := (blk_cell BK286.out 1).trans rfl; have hcz10_2 : w8.cell? ⟨gb286, 2, none⟩ = some (.int .i64 a0_2) := (blk_cell BK286.out 2).trans rfl; have hcz10_3 : w8.cell? ⟨gb286, 3, none⟩ = some (.int .i64 a0_3) := (blk_cell BK286.out 3).trans rfl; have hfz10_0 := blk_frozen BK286.out 0; have hfz10_1 := blk_frozen BK286.out 1; have hfz10_2 := blk_frozen BK286.out 2; have hfz10_3 := blk_frozen BK286.out 3; have hcz11_0 : w8.cell? ⟨gb287, 0, none⟩ = some (.int .i64 a1_0) := (blk_cell BK287.out 0).trans rfl; have hcz11_1 : w8.cell? ⟨gb287, 1, none⟩ = some (.int .i64 a1_1) := (blk_cell BK287.out 1).trans rfl; have hcz11_2 : w8.cell? ⟨gb287, 2, none⟩ = some (.int .i64 a1_2) := (blk_cell BK287.out 2).trans rfl; have hcz11_3 : w8.cell? ⟨gb287, 3, none⟩ = some (.int .i64 a1_3) := (blk_cell BK287.out 3).trans rfl; have hfz11_0 := blk_frozen BK287.out 0; have hfz11_1 := blk_frozen BK287.out 1; have hfz11_2 := blk_frozen BK287.out 2; have hfz11_3 := blk_frozen BK287.out 3))
     go_ret
     exact ⟨er, bz2 GE286 GE287⟩
    ·rw [if_neg c6] at H
     have c6b0 : (a0_3 == a1_3) = false := beq_eq_false_iff_ne.mpr c6
     have c6b1 : (a0_3 != a1_3) = true := bne_iff_ne.mpr c6
     obtain rfl := Option.some.inj H
     go_enter Try.func124, Try.ntmps124
     go_wp2_with (first | ((with_reducible refine gate_dst (N := 2) rfl ?_); refine bv (N := 2) (cs := #[.int .i64 a0_0, .int .i64 a0_1, .int .i64 a0_2, .int .i64 a0_3]) (t := 107) ?_; intro gb286 hg w12 hbox hb; have n0_ := Aside0.mk (below_step bz hb); have n1_ := Aside0.mk (hbox); have n2_ := (gz hg : Aside0 (w.heap.size ≤ _)); have n3_ := (gz hg : Aside0 (w.heap.size ≤ _)); clear HB; have HB := n0_; have BK286 := n1_; have GW286 := n2_; have GE286 := n3_; clear n0_ n1_ n2_ n3_; clear hb hbox hg) | ((with_reducible refine gate_dst (N := 3) rfl ?_); refine bv (N := 3) (cs := #[.int .i64 a1_0, .int .i64 a1_1, .int .i64 a1_2, .int .i64 a1_3]) (t := 107) ?_; intro gb287 hg w13 hbox hb; have n0_ := bb BK286 hb; have n1_ := Aside0.mk (below_step (bz1 GE286) hb); have n2_ := Aside0.mk (hbox); have n3_ := Aside0.mk ((by rw [hg]; exact (below_size (bz1 GE286)) : w.heap.size ≤ gb287)); have n4_ := Aside0.mk ((by rw [hg]; exact (below_size (bz1 GE286)) : w.heap.size ≤ gb287)); have n5_ := Aside0.mk ((by rw [hg]; exact Nat.ne_of_lt (blk_lt (g := gb286) (o := .cells #[.int .i64 a0_0, .int .i64 a0_1, .int .i64 a0_2, .int .i64 a0_3] 107 (0, 0)) (bk BK286)) : gb286 ≠ gb287)); have n6_ := Aside0.mk ((by rw [hg]; exact Nat.ne_of_gt (blk_lt (g := gb286) (o := .cells #[.int .i64 a0_0, .int .i64 a0_1, .int .i64 a0_2, .int .i64 a0_3] 107 (0, 0)) (bk BK286)) : gb287 ≠ gb286)); clear BK286; clear HB; have BK286 := n0_; have HB := n1_; have BK287 := n2_; have GW287 := n3_; have GE287 := n4_; have NB286_287 := n5_; have NB287_286 := n6_; clear n0_ n1_ n2_ n3_ n4_ n5_ n6_; clear hb hbox hg; have hnb14 := NB286_287.out; have hnc14 := NB287_286.out; have hcz15_0 : w13.cell? ⟨gb286, 0, none⟩ = some (.int .i64 a0_0) := (blk_cell BK286.out 0).trans rfl; have hcz15_1 : w13.cell? ⟨gb286, 1, none⟩ = some (.int .i64 a0_1) := (blk_cell BK286.out 1).trans rfl; have hcz15_2 : w13.cell? ⟨gb286, 2, none⟩ = some (.int .i64 a0_2) := (blk_cell BK286.out 2).trans rfl; have hcz15_3 : w13.cell? ⟨gb286, 3, none⟩ = some (.int .i64 a0_3) := (blk_cell BK286.out 3).trans rfl; have hfz15_0 := blk_frozen BK286.out 0; have hfz15_1 := blk_frozen BK286.out 1; have hfz15_2 := blk_frozen BK286.out 2; have hfz15_3 := blk_frozen BK286.out 3; have hcz16_0 : w13.cell? ⟨gb287, 0, none⟩ = some (.int .i64 a1_0) := (blk_cell BK287.out 0).trans rfl; have hcz16_1 : w13.cell? ⟨gb287, 1, none⟩ = some (.int .i64 a1_1) := (blk_cell BK287.out 1).trans rfl; have hcz16_2 : w13.cell? ⟨gb287, 2, none⟩ = some (.int .i64 a1_2) := (blk_cell BK287.out 2).trans rfl; have hcz16_3 : w13.cell? ⟨gb287, 3, none⟩ = some (.int .i64 a1_3) := (blk_cell BK287.out 3).trans rfl; have hfz16_0 := blk_frozen BK287.out 0; have hfz16_1 := blk_frozen BK287.out 1; have hfz16_2 := blk_frozen BK287.out 2; have hfz16_3 := blk_frozen BK287.out 3))
     go_ret
     exact ⟨er, bz2 GE286 GE287⟩
   ·rw [if_neg c5] at H
    have c5b0 : (a0_2 == a1_2) = false := beq_eq_false_iff_ne.mpr c5
    have c5b1 : (a0_2 != a1_2) = true := bne_iff_ne.mpr c5
    obtain rfl := Option.some.inj H
    go_enter Try.func124, Try.ntmps124
    go_wp2_with (first | ((with_reducible refine gate_dst (N := 2) rfl ?_); refine bv (N := 2) (cs := #[.int .i64 a0_0, .int .i64 a0_1, .int .i64 a0_2, .int .i64 a0_3]) (t := 107) ?_; intro gb286 hg w17 hbox hb; have n0_ := Aside0.mk (below_step bz hb); have n1_ := Aside0.mk (hbox); have n2_ := (gz hg : Aside0 (w.heap.size ≤ _)); have n3_ := (gz hg : Aside0 (w.heap.size ≤ _)); clear HB; have HB := n0_; have BK286 := n1_; have GW286 := n2_; have GE286 := n3_; clear n0_ n1_ n2_ n3_; clear hb hbox hg) | ((with_reducible refine gate_dst (N := 3) rfl ?_); refine bv (N := 3) (cs := #[.int .i64 a1_0, .int .i64 a1_1, .int .i64 a1_2, .int .i64 a1_3]) (t := 107) ?_; intro gb287 hg w18 hbox hb; have n0_ := bb BK286 hb; have n1_ := Aside0.mk (below_step (bz1 GE286) hb); have n2_ := Aside0.mk (hbox); have n3_ := Aside0.mk ((by rw [hg]; exact (below_size (bz1 GE286)) : w.heap.size ≤ gb287)); have n4_ := Aside0.mk ((by rw [hg]; exact (below_size (bz1 GE286)) : w.heap.size ≤ gb287)); have n5_ := Aside0.mk ((by rw [hg]; exact Nat.ne_of_lt (blk_lt (g := gb286) (o := .cells #[.int .i64 a0_0, .int .i64 a0_1, .int .i64 a0_2, .int .i64 a0_3] 107 (0, 0)) (bk BK286)) : gb286 ≠ gb287)); have n6_ := Aside0.mk ((by rw [hg]; exact Nat.ne_of_gt (blk_lt (g := gb286) (o := .cells #[.int .i64 a0_0, .int .i64 a0_1, .int .i64 a0_2, .int .i64 a0_3] 107 (0, 0)) (bk BK286)) : gb287 ≠ gb286)); clear BK286; clear HB; have BK286 := n0_; have HB := n1_; have BK287 := n2_; have GW287 := n3_; have GE287 := n4_; have NB286_287 := n5_; have NB287_286 := n6_; clear n0_ n1_ n2_ n3_ n4_ n5_ n6_; clear hb hbox hg; have hnb19 := NB286_287.out; have hnc19 := NB287_286.out; have hcz20_0 : w18.cell? ⟨gb286, 0, none⟩ = some (.int .i64 a0_0) := (blk_cell BK286.out 0).trans rfl; have hcz20_1 : w18.cell? ⟨gb286, 1, none⟩ = some (.int .i64 a0_1) := (blk_cell BK286.out 1).trans rfl; have hcz20_2 : w18.cell? ⟨gb286, 2, none⟩ = some (.int .i64 a0_2) := (blk_cell BK286.out 2).trans rfl; have hcz20_3 : w18.cell? ⟨gb286, 3, none⟩ = some (.int .i64 a0_3) := (blk_cell BK286.out 3).trans rfl; have hfz20_0 := blk_frozen BK286.out 0; have hfz20_1 := blk_frozen BK286.out 1; have hfz20_2 := blk_frozen BK286.out 2; have hfz20_3 := blk_frozen BK286.out 3; have hcz21_0 : w18.cell? ⟨gb287, 0, none⟩ = some (.int .i64 a1_0) := (blk_cell BK287.out 0).trans rfl; have hcz21_1 : w18.cell? ⟨gb287, 1, none⟩ = some (.int .i64 a1_1) := (blk_cell BK287.out 1).trans rfl; have hcz21_2 : w18.cell? ⟨gb287, 2, none⟩ = some (.int .i64 a1_2) := (blk_cell BK287.out 2).trans rfl; have hcz21_3 : w18.cell? ⟨gb287, 3, none⟩ = some (.int .i64 a1_3) := (blk_cell BK287.out 3).trans rfl; have hfz21_0 := blk_frozen BK287.out 0; have hfz21_1 := blk_frozen BK287.out 1; have hfz21_2 := blk_frozen BK287.out 2; have hfz21_3 := blk_frozen BK287.out 3))
    go_ret
    exact ⟨er, bz2 GE286 GE287⟩
  ·rw [if_neg c4] at H
   have c4b0 : (a0_1 == a1_1) = false := beq_eq_false_iff_ne.mpr c4
   have c4b1 : (a0_1 != a1_1) = true := bne_iff_ne.mpr c4
   obtain rfl := Option.some.inj H
   go_enter Try.func124, Try.ntmps124
   go_wp2_with (first | ((with_reducible refine gate_dst (N := 2) rfl ?_); refine bv (N := 2) (cs := #[.int .i64 a0_0, .int .i64 a0_1, .int .i64 a0_2, .int .i64 a0_3]) (t := 107) ?_; intro gb286 hg w22 hbox hb; have n0_ := Aside0.mk (below_step bz hb); have n1_ := Aside0.mk (hbox); have n2_ := (gz hg : Aside0 (w.heap.size ≤ _)); have n3_ := (gz hg : Aside0 (w.heap.size ≤ _)); clear HB; have HB := n0_; have BK286 := n1_; have GW286 := n2_; have GE286 := n3_; clear n0_ n1_ n2_ n3_; clear hb hbox hg) | ((with_reducible refine gate_dst (N := 3) rfl ?_); refine bv (N := 3) (cs := #[.int .i64 a1_0, .int .i64 a1_1, .int .i64 a1_2, .int .i64 a1_3]) (t := 107) ?_; intro gb287 hg w23 hbox hb; have n0_ := bb BK286 hb; have n1_ := Aside0.mk (below_step (bz1 GE286) hb); have n2_ := Aside0.mk (hbox); have n3_ := Aside0.mk ((by rw [hg]; exact (below_size (bz1 GE286)) : w.heap.size ≤ gb287)); have n4_ := Aside0.mk ((by rw [hg]; exact (below_size (bz1 GE286)) : w.heap.size ≤ gb287)); have n5_ := Aside0.mk ((by rw [hg]; exact Nat.ne_of_lt (blk_lt (g := gb286) (o := .cells #[.int .i64 a0_0, .int .i64 a0_1, .int .i64 a0_2, .int .i64 a0_3] 107 (0, 0)) (bk BK286)) : gb286 ≠ gb287)); have n6_ := Aside0.mk ((by rw [hg]; exact Nat.ne_of_gt (blk_lt (g := gb286) (o := .cells #[.int .i64 a0_0, .int .i64 a0_1, .int .i64 a0_2, .int .i64 a0_3] 107 (0, 0)) (bk BK286)) : gb287 ≠ gb286)); clear BK286; clear HB; have BK286 := n0_; have HB := n1_; have BK287 := n2_; have GW287 := n3_; have GE287 := n4_; have NB286_287 := n5_; have NB287_286 := n6_; clear n0_ n1_ n2_ n3_ n4_ n5_ n6_; clear hb hbox hg; have hnb24 := NB286_287.out; have hnc24 := NB287_286.out; have hcz25_0 : w23.cell? ⟨gb286, 0, none⟩ = some (.int .i64 a0_0) := (blk_cell BK286.out 0).trans rfl; have hcz25_1 : w23.cell? ⟨gb286, 1, none⟩ = some (.int .i64 a0_1) := (blk_cell BK286.out 1).trans rfl; have hcz25_2 : w23.cell? ⟨gb286, 2, none⟩ = some (.int .i64 a0_2) := (blk_cell BK286.out 2).trans rfl; have hcz25_3 : w23.cell? ⟨gb286, 3, none⟩ = some (.int .i64 a0_3) := (blk_cell BK286.out 3).trans rfl; have hfz25_0 := blk_frozen BK286.out 0; have hfz25_1 := blk_frozen BK286.out 1; have hfz25_2 := blk_frozen BK286.out 2; have hfz25_3 := blk_frozen BK286.out 3; have hcz26_0 : w23.cell? ⟨gb287, 0, none⟩ = some (.int .i64 a1_0) := (blk_cell BK287.out 0).trans rfl; have hcz26_1 : w23.cell? ⟨gb287, 1, none⟩ = some (.int .i64 a1_1) := (blk_cell BK287.out 1).trans rfl; have hcz26_2 : w23.cell? ⟨gb287, 2, none⟩ = some (.int .i64 a1_2) := (blk_cell BK287.out 2).trans rfl; have hcz26_3 : w23.cell? ⟨gb287, 3, none⟩ = some (.int .i64 a1_3) := (blk_cell BK287.out 3).trans rfl; have hfz26_0 := blk_frozen BK287.out 0; have hfz26_1 := blk_frozen BK287.out 1; have hfz26_2 := blk_frozen BK287.out 2; have hfz26_3 := blk_frozen BK287.out 3))
   go_ret
   exact ⟨er, bz2 GE286 GE287⟩
 ·rw [if_neg c3] at H
  have c3b0 : (a0_0 == a1_0) = false := beq_eq_false_iff_ne.mpr c3
  have c3b1 : (a0_0 != a1_0) = true := bne_iff_ne.mpr c3
  obtain rfl := Option.some.inj H
  go_enter Try.func124, Try.ntmps124
  go_wp2_with (first | ((with_reducible refine gate_dst (N := 2) rfl ?_); refine bv (N := 2) (cs := #[.int .i64 a0_0, .int .i64 a0_1, .int .i64 a0_2, .int .i64 a0_3]) (t := 107) ?_; intro gb286 hg w27 hbox hb; have n0_ := Aside0.mk (below_step bz hb); have n1_ := Aside0.mk (hbox); have n2_ := (gz hg : Aside0 (w.heap.size ≤ _)); have n3_ := (gz hg : Aside0 (w.heap.size ≤ _)); clear HB; have HB := n0_; have BK286 := n1_; have GW286 := n2_; have GE286 := n3_; clear n0_ n1_ n2_ n3_; clear hb hbox hg) | ((with_reducible refine gate_dst (N := 3) rfl ?_); refine bv (N := 3) (cs := #[.int .i64 a1_0, .int .i64 a1_1, .int .i64 a1_2, .int .i64 a1_3]) (t := 107) ?_; intro gb287 hg w28 hbox hb; have n0_ := bb BK286 hb; have n1_ := Aside0.mk (below_step (bz1 GE286) hb); have n2_ := Aside0.mk (hbox); have n3_ := Aside0.mk ((by rw [hg]; exact (below_size (bz1 GE286)) : w.heap.size ≤ gb287)); have n4_ := Aside0.mk ((by rw [hg]; exact (below_size (bz1 GE286)) : w.heap.size ≤ gb287)); have n5_ := Aside0.mk ((by rw [hg]; exact Nat.ne_of_lt (blk_lt (g := gb286) (o := .cells #[.int .i64 a0_0, .int .i64 a0_1, .int .i64 a0_2, .int .i64 a0_3] 107 (0, 0)) (bk BK286)) : gb286 ≠ gb287)); have n6_ := Aside0.mk ((by rw [hg]; exact Nat.ne_of_gt (blk_lt (g := gb286) (o := .cells #[.int .i64 a0_0, .int .i64 a0_1, .int .i64 a0_2, .int .i64 a0_3] 107 (0, 0)) (bk BK286)) : gb287 ≠ gb286)); clear BK286; clear HB; have BK286 := n0_; have HB := n1_; have BK287 := n2_; have GW287 := n3_; have GE287 := n4_; have NB286_287 := n5_; have NB287_286 := n6_; clear n0_ n1_ n2_ n3_ n4_ n5_ n6_; clear hb hbox hg; have hnb29 := NB286_287.out; have hnc29 := NB287_286.out; have hcz30_0 : w28.cell? ⟨gb286, 0, none⟩ = some (.int .i64 a0_0) := (blk_cell BK286.out 0).trans rfl; have hcz30_1 : w28.cell? ⟨gb286, 1, none⟩ = some (.int .i64 a0_1) := (blk_cell BK286.out 1).trans rfl; have hcz30_2 : w28.cell? ⟨gb286, 2, none⟩ = some (.int .i64 a0_2) := (blk_cell BK286.out 2).trans rfl; have hcz30_3 : w28.cell? ⟨gb286, 3, none⟩ = some (.int .i64 a0_3) := (blk_cell BK286.out 3).trans rfl; have hfz30_0 := blk_frozen BK286.out 0; have hfz30_1 := blk_frozen BK286.out 1; have hfz30_2 := blk_frozen BK286.out 2; have hfz30_3 := blk_frozen BK286.out 3; have hcz31_0 : w28.cell? ⟨gb287, 0, none⟩ = some (.int .i64 a1_0) := (blk_cell BK287.out 0).trans rfl; have hcz31_1 : w28.cell? ⟨gb287, 1, none⟩ = some (.int .i64 a1_1) := (blk_cell BK287.out 1).trans rfl; have hcz31_2 : w28.cell? ⟨gb287, 2, none⟩ = some (.int .i64 a1_2) := (blk_cell BK287.out 2).trans rfl; have hcz31_3 : w28.cell? ⟨gb287, 3, none⟩ = some (.int .i64 a1_3) := (blk_cell BK287.out 3).trans rfl; have hfz31_0 := blk_frozen BK287.out 0; have hfz31_1 := blk_frozen BK287.out 1; have hfz31_2 := blk_frozen BK287.out 2; have hfz31_3 := blk_frozen BK287.out 3))
  go_ret
  exact ⟨er, bz2 GE286 GE287⟩
def laws_eqTermS.l0 : Nat → List (S107) → List (S107) → Int → Option (Bool)
 | 0, _, _, _ => none
 | k + 1, x0, x1, x5 => if x5 < (x0.length : Int) then (if 0 ≤ x5 then (if x5 < (x1.length : Int) then ((laws_eqTerm.f ((rd_T107 x0 x5).f0) ((rd_T107 x0 x5).f1) ((rd_T107 x0 x5).f2) ((rd_T107 x0 x5).f3) ((rd_T107 x1 x5).f0) ((rd_T107 x1 x5).f1) ((rd_T107 x1 x5).f2) ((rd_T107 x1 x5).f3)).bind fun t290 => (if t290 = true then (laws_eqTermS.l0 k x0 x1 (wrap64 (x5 + 1))) else (some false))) else (none)) else (none)) else (some true)
def laws_eqTermS.f (k : Nat) (l0 : List (S107)) (l1 : List (S107)) : Option (Bool) := if (l0.length : Int) = (l1.length : Int) then (laws_eqTermS.l0 k l0 l1 0) else (some false)
theorem laws_eqTermS.mono_l : ∀ k, (∀ y0 y1 y2, LeO (laws_eqTermS.l0 k y0 y1 y2) (laws_eqTermS.l0 (k + 1) y0 y1 y2))
 | 0 => fun _ _ _ r h => by simp [laws_eqTermS.l0] at h
 | k + 1 => by
  have ih0 := laws_eqTermS.mono_l k
  ·intro y0 y1 y2
   unfold laws_eqTermS.l0
   repeat' first
   | (with_reducible exact ih0 _ _ _)
   | (with_reducible exact LeO.refl _)
   | (with_reducible exact LeO.none _)
   | (with_reducible refine LeO.ite ?_ ?_)
   | (with_reducible refine LeO.bind ?_ (fun _ => ?_))
   | exact ih0 _ _ _
   | exact LeO.none _
   | refine LeO.ite ?_ ?_
   | refine LeO.bind ?_ (fun _ => ?_)
theorem laws_eqTermS.mono : ∀ a0 a1 k, LeO (laws_eqTermS.f k a0 a1) (laws_eqTermS.f (k + 1) a0 a1) := by
 intro a0 a1 k
 have ih0 := laws_eqTermS.mono_l k
 unfold laws_eqTermS.f
 repeat' first
  | (with_reducible exact ih0 _ _ _)
  | (with_reducible exact LeO.refl _)
  | (with_reducible exact LeO.none _)
  | (with_reducible refine LeO.ite ?_ ?_)
  | (with_reducible refine LeO.bind ?_ (fun _ => ?_))
  | exact ih0 _ _ _
  | exact LeO.none _
  | refine LeO.ite ?_ ?_
  | refine LeO.bind ?_ (fun _ => ?_)
def laws_eqTermS.T6 : Bool × List (List Nat × List Nat) := (true, [([], []), ([], []), ([0, 1], [0, 1]), ([2], [2]), ([], []), ([], []), ([4, 5], [4, 5]), ([6], [6]), ([3, 7], [3, 7]), ([8], [8])])
def laws_eqTermS.B6 : List Nat := [0, 0, 3, 7, 0, 0, 48, 112, 255, 511]
theorem laws_eqTermS.tab6 : rtab .any (opsOf Try.f83 6) = laws_eqTermS.T6 := by kernel_rfl
theorem laws_eqTermS.bits6 : waitsOk laws_eqTermS.T6.2 laws_eqTermS.B6 = true := by kernel_rfl
set_option maxHeartbeats 8000000 in
set_option maxRecDepth 100000 in
theorem laws_eqTermS.calls (k : Nat) (A0 : Option Addr) (c0 : Nat) (l0 : List (S107)) (A1 : Option Addr) (c1 : Nat) (l1 : List (S107)) (r : Bool) (w : World) (hr0 : Kd.C k107 w A0 l0.length l0) (hc0 : l0.length ≤ c0) (hr1 : Kd.C k107 w A1 l1.length l1) (hc1 : l1.length ≤ c1) (h : laws_eqTermS.f k l0 l1 = some r) :
 Calls Try.prog 83 #[.slice A0 l0.length c0, .slice A1 l1.length c1] w fun e w' => e = .returned (.bool r) ∧ Below w.heap.size w w' := by
 have hu107 := Try.underlying107
 have HR0 := Aside0.mk hr0
 have HC0 := Aside0.mk hc0
 clear hr0 hc0
 have HR1 := Aside0.mk hr1
 have HC1 := Aside0.mk hc1
 clear hr1 hc1
 have HB := Aside0.mk (Below.refl w.heap.size w)
 have H : (if (l0.length : Int) = (l1.length : Int) then (laws_eqTermS.l0 k l0 l1 0) else (some false)) = some r := h
 clear h
 by_cases c3 : (l0.length : Int) = (l1.length : Int)
 ·rw [if_pos c3] at H
  have c3b0 : ((l0.length : Int) == (l1.length : Int)) = true := beq_iff_eq.mpr c3
  have c3b1 : ((l0.length : Int) != (l1.length : Int)) = false := bne_eq_false_iff_eq.mpr c3
  have c3b2 : (l0.length == l1.length) = true := by first | simpa using c3 | (simp at c3 ⊢; omega)
  clear c3
  have H' := Aside0.mk H
  clear H
  go_enter Try.func83, Try.ntmps83
  go_wp2
  go_loopg [5] k (fun kq v5 w' => ∃ (x5_1 : Int), v5 = .int .i64 x5_1 ∧ Aside0 (laws_eqTermS.l0 kq l0 l1 x5_1 = some r) ∧ Aside0 (kq ≤ k) ∧ Aside0 (Below w.heap.size w w'))
  case atStart => exact ⟨(0), sr, H', ⟨Nat.le_refl _⟩, ⟨bz⟩⟩
  case round =>
   clear H'
   try clear c1; try clear p2; try clear c3; try clear c3b0; try clear c3b1; try clear c3b2
   obtain ⟨x5_1, rfl, HA, HK1, HB⟩ := hrel
   cases gk with
   | zero => exact absurd HA.out (by simp [laws_eqTermS.l0])
   | succ k1 =>
    have H := HA.out
    clear HA
    simp only [laws_eqTermS.l0] at H
    by_cases c4 : x5_1 < (l0.length : Int)
    ·rw [if_pos c4] at H
     have c4b0 : decide (x5_1 < (l0.length : Int)) = true := decide_eq_true c4
     clear c4
     by_cases c5 : 0 ≤ x5_1
     ·rw [if_pos c5] at H
      have c5b0 : decide (0 ≤ x5_1) = true := decide_eq_true c5
      clear c5
      by_cases c6 : x5_1 < (l1.length : Int)
      ·rw [if_pos c6] at H
       have c6b0 : decide (x5_1 < (l1.length : Int)) = true := decide_eq_true c6
       clear c6
       obtain ⟨t290, A7, H⟩ := bi H
       by_cases c8 : t290 = true
       ·subst c8
        rw [if_pos rfl] at H
        have H' := Aside0.mk H
        clear H
        try go_wp2
        have n0_ := Aside0.mk (below_drew1 HB.out)
        clear HB
        have HB := n0_
        clear n0_
        have p288 : 0 ≤ (x5_1 : Int) := of_decide_eq_true am
        have q288 : x5_1 < (l0.length : Int) := of_decide_eq_true am
        obtain ⟨ad288, e288, hx288_0, hx288_1, hx288_2, hx288_3⟩ := at_T107 HR0.out x5_1 p288 q288
        have hw288_3 := hx288_3
        have hw288_2 := hx288_2
        have hw288_1 := hx288_1
        have hw288_0 := hx288_0
        cases e288
        replace hx288_0 := (HB.out.cell (World.block_lt_of_cell? w _ hx288_0)).trans hx288_0
        replace hx288_1 := (HB.out.cell (World.block_lt_of_cell? w _ hx288_1)).trans hx288_1
        replace hx288_2 := (HB.out.cell (World.block_lt_of_cell? w _ hx288_2)).trans hx288_2
        replace hx288_3 := (HB.out.cell (World.block_lt_of_cell? w _ hx288_3)).trans hx288_3
        replace p288 := eq_true p288
        replace q288 := eq_true q288
        have p289 : 0 ≤ (x5_1 : Int) := of_decide_eq_true am
        have q289 : x5_1 < (l1.length : Int) := of_decide_eq_true am
        obtain ⟨ad289, e289, hx289_0, hx289_1, hx289_2, hx289_3⟩ := at_T107 HR1.out x5_1 p289 q289
        have hw289_3 := hx289_3
        have hw289_2 := hx289_2
        have hw289_1 := hx289_1
        have hw289_0 := hx289_0
        cases e289
        replace hx289_0 := (HB.out.cell (World.block_lt_of_cell? w _ hx289_0)).trans hx289_0
        replace hx289_1 := (HB.out.cell (World.block_lt_of_cell? w _ hx289_1)).trans hx289_1
        replace hx289_2 := (HB.out.cell (World.block_lt_of_cell? w _ hx289_2)).trans hx289_2
        replace hx289_3 := (HB.out.cell (World.block_lt_of_cell? w _ hx289_3)).trans hx289_3
        replace p289 := eq_true p289
        replace q289 := eq_true q289
        refine start_ (n := 10) (S := fun w' => w'.cell? (ad288.add ((x5_1).toNat * 4)) = some (.int .i64 ((rd_T107 l0 x5_1).f0)) ∧ w'.cell? ⟨(ad288.add ((x5_1).toNat * 4)).block, (ad288.add ((x5_1).toNat * 4)).off + 1, none⟩ = some (.int .i64 ((rd_T107 l0 x5_1).f1)) ∧ w'.cell? ⟨(ad288.add ((x5_1).toNat * 4)).block, (ad288.add ((x5_1).toNat * 4)).off + 2, none⟩ = some (.int .i64 ((rd_T107 l0 x5_1).f2)) ∧ w'.cell? ⟨(ad288.add ((x5_1).toNat * 4)).block, (ad288.add ((x5_1).toNat * 4)).off + 3, none⟩ = some (.int .i64 ((rd_T107 l0 x5_1).f3)) ∧ w'.cell? (ad289.add ((x5_1).toNat * 4)) = some (.int .i64 ((rd_T107 l1 x5_1).f0)) ∧ w'.cell? ⟨(ad289.add ((x5_1).toNat * 4)).block, (ad289.add ((x5_1).toNat * 4)).off + 1, none⟩ = some (.int .i64 ((rd_T107 l1 x5_1).f1)) ∧ w'.cell? ⟨(ad289.add ((x5_1).toNat * 4)).block, (ad289.add ((x5_1).toNat * 4)).off + 2, none⟩ = some (.int .i64 ((rd_T107 l1 x5_1).f2)) ∧ w'.cell? ⟨(ad289.add ((x5_1).toNat * 4)).block, (ad289.add ((x5_1).toNat * 4)).off + 3, none⟩ = some (.int .i64 ((rd_T107 l1 x5_1).f3))) (ds := []) #[fF, fF, fF, fF, fF, fF, fF, fF, fF, fF] kf rfl rfl ⟨((HB.out.cell (World.block_lt_of_cell? w _ hw288_0)).trans hw288_0), ((HB.out.cell (World.block_lt_of_cell? w _ hw288_1)).trans hw288_1), ((HB.out.cell (World.block_lt_of_cell? w _ hw288_2)).trans hw288_2), ((HB.out.cell (World.block_lt_of_cell? w _ hw288_3)).trans hw288_3), ((HB.out.cell (World.block_lt_of_cell? w _ hw289_0)).trans hw289_0), ((HB.out.cell (World.block_lt_of_cell? w _ hw289_1)).trans hw289_1), ((HB.out.cell (World.block_lt_of_cell? w _ hw289_2)).trans hw289_2), ((HB.out.cell (World.block_lt_of_cell? w _ hw289_3)).trans hw289_3)⟩ (fun hHeld => ?_); refine with_tabW laws_eqTermS.tab6 laws_eqTermS.bits6 (fun HT_ HW_ => ?_)
        generalize wr.drew = w9 at HB hx288_0 hx288_1 hx288_2 hx288_3 hx289_0 hx289_1 hx289_2 hx289_3 hHeld ⊢
        refine pq (i := 0) (N := some 17) #[tT, fF, fF, fF, fF, fF, fF, fF, fF, fF] rfl rfl HT_.out ?_
        refine pq (i := 1) (N := some 18) #[tT, tT, fF, fF, fF, fF, fF, fF, fF, fF] rfl rfl HT_.out ?_
        refine pq (i := 2) (N := some 19) #[tT, tT, tT, fF, fF, fF, fF, fF, fF, fF] rfl rfl HT_.out ?_
        refine pq (i := 4) (N := some 21) #[tT, tT, tT, fF, tT, fF, fF, fF, fF, fF] rfl rfl HT_.out ?_
        refine pq (i := 5) (N := some 22) #[tT, tT, tT, fF, tT, tT, fF, fF, fF, fF] rfl rfl HT_.out ?_
        refine pq (i := 6) (N := some 23) #[tT, tT, tT, fF, tT, tT, tT, fF, fF, fF] rfl rfl HT_.out ?_
        refine tq8 (i := 3) (N := some 20) #[tT, tT, tT, tT, tT, tT, tT, fF, fF, fF] rfl rfl HT_.out HW_.out hHeld ?_
        refine tq8 (i := 7) (N := some 24) #[tT, tT, tT, tT, tT, tT, tT, tT, fF, fF] rfl rfl HT_.out HW_.out hHeld ?_
        refine one_ (i := 8) (N := some 25) #[tT, tT, tT, tT, tT, tT, tT, tT, tT, fF] rfl rfl (one_of HT_.out kf) (by decide) (fun K hK => ?_)
        refine goes_ Try.func124 kf rfl #[.agg #[.int .i64 ((rd_T107 l0 x5_1).f0), .int .i64 ((rd_T107 l0 x5_1).f1), .int .i64 ((rd_T107 l0 x5_1).f2), .int .i64 ((rd_T107 l0 x5_1).f3)], .agg #[.int .i64 ((rd_T107 l1 x5_1).f0), .int .i64 ((rd_T107 l1 x5_1).f1), .int .i64 ((rd_T107 l1 x5_1).f2), .int .i64 ((rd_T107 l1 x5_1).f3)]] (by rfl) rfl rfl sm ?_
        with_reducible refine (laws_eqTerm.calls ((rd_T107 l0 x5_1).f0) ((rd_T107 l0 x5_1).f1) ((rd_T107 l0 x5_1).f2) ((rd_T107 l0 x5_1).f3) ((rd_T107 l1 x5_1).f0) ((rd_T107 l1 x5_1).f1) ((rd_T107 l1 x5_1).f2) ((rd_T107 l1 x5_1).f3) true _ A7.out).mono ?_
        rintro e w10 ⟨rfl, hb⟩
        refine ⟨_, rfl, ?_⟩
        have n0_ := Aside0.mk (below_step bz hb)
        clear HB
        have HB := n0_
        clear n0_
        (try clear hb)
        (try clear hb2)
        (try clear hk)
        (try clear hi)
        refine hK.out _ _ ⟨((HB.out.cell (World.block_lt_of_cell? w _ hw288_0)).trans hw288_0), ((HB.out.cell (World.block_lt_of_cell? w _ hw288_1)).trans hw288_1), ((HB.out.cell (World.block_lt_of_cell? w _ hw288_2)).trans hw288_2), ((HB.out.cell (World.block_lt_of_cell? w _ hw288_3)).trans hw288_3), ((HB.out.cell (World.block_lt_of_cell? w _ hw289_0)).trans hw289_0), ((HB.out.cell (World.block_lt_of_cell? w _ hw289_1)).trans hw289_1), ((HB.out.cell (World.block_lt_of_cell? w _ hw289_2)).trans hw289_2), ((HB.out.cell (World.block_lt_of_cell? w _ hw289_3)).trans hw289_3)⟩ (fun hHeld => ?_)
        clear hK K
        refine norm_ (a' := ?_) ?_ ?_
        rotate_left
        ·show Act.put _ (some 25) _ = _
         simp only [Act.put, List.setIfInBounds_toArray, List.set_cons_zero, List.set_cons_succ, i64_w, i32_w]
         rfl
        refine pq (i := 9) (N := some 26) #[tT, tT, tT, tT, tT, tT, tT, tT, tT, tT] rfl rfl HT_.out ?_
        refine done_ (done_of HT_.out kf) ?_
        try go_wp2
        go_roundg k1
        case measure => have := HK1.out; omega
        case rel => exact ⟨(wrap64 (x5_1 + 1)), sr, H', ⟨by have := HK1.out; omega⟩, ⟨bz⟩⟩
       ·replace c8 := Bool.eq_false_iff.mpr c8
        subst c8
        rw [if_neg (show ¬ (false = true) by decide)] at H
        obtain rfl := Option.some.inj H
        try go_wp2
        have n0_ := Aside0.mk (below_drew1 HB.out)
        clear HB
        have HB := n0_
        clear n0_
        have p288 : 0 ≤ (x5_1 : Int) := of_decide_eq_true am
        have q288 : x5_1 < (l0.length : Int) := of_decide_eq_true am
        obtain ⟨ad288, e288, hx288_0, hx288_1, hx288_2, hx288_3⟩ := at_T107 HR0.out x5_1 p288 q288
        have hw288_3 := hx288_3
        have hw288_2 := hx288_2
        have hw288_1 := hx288_1
        have hw288_0 := hx288_0
        cases e288
        replace hx288_0 := (HB.out.cell (World.block_lt_of_cell? w _ hx288_0)).trans hx288_0
        replace hx288_1 := (HB.out.cell (World.block_lt_of_cell? w _ hx288_1)).trans hx288_1
        replace hx288_2 := (HB.out.cell (World.block_lt_of_cell? w _ hx288_2)).trans hx288_2
        replace hx288_3 := (HB.out.cell (World.block_lt_of_cell? w _ hx288_3)).trans hx288_3
        replace p288 := eq_true p288
        replace q288 := eq_true q288
        have p289 : 0 ≤ (x5_1 : Int) := of_decide_eq_true am
        have q289 : x5_1 < (l1.length : Int) := of_decide_eq_true am
        obtain ⟨ad289, e289, hx289_0, hx289_1, hx289_2, hx289_3⟩ := at_T107 HR1.out x5_1 p289 q289
        have hw289_3 := hx289_3
        have hw289_2 := hx289_2
        have hw289_1 := hx289_1
        have hw289_0 := hx289_0
        cases e289
        replace hx289_0 := (HB.out.cell (World.block_lt_of_cell? w _ hx289_0)).trans hx289_0
        replace hx289_1 := (HB.out.cell (World.block_lt_of_cell? w _ hx289_1)).trans hx289_1
        replace hx289_2 := (HB.out.cell (World.block_lt_of_cell? w _ hx289_2)).trans hx289_2
        replace hx289_3 := (HB.out.cell (World.block_lt_of_cell? w _ hx289_3)).trans hx289_3
        replace p289 := eq_true p289
        replace q289 := eq_true q289
        refine start_ (n := 10) (S := fun w' => w'.cell? (ad288.add ((x5_1).toNat * 4)) = some (.int .i64 ((rd_T107 l0 x5_1).f0)) ∧ w'.cell? ⟨(ad288.add ((x5_1).toNat * 4)).block, (ad288.add ((x5_1).toNat * 4)).off + 1, none⟩ = some (.int .i64 ((rd_T107 l0 x5_1).f1)) ∧ w'.cell? ⟨(ad288.add ((x5_1).toNat * 4)).block, (ad288.add ((x5_1).toNat * 4)).off + 2, none⟩ = some (.int .i64 ((rd_T107 l0 x5_1).f2)) ∧ w'.cell? ⟨(ad288.add ((x5_1).toNat * 4)).block, (ad288.add ((x5_1).toNat * 4)).off + 3, none⟩ = some (.int .i64 ((rd_T107 l0 x5_1).f3)) ∧ w'.cell? (ad289.add ((x5_1).toNat * 4)) = some (.int .i64 ((rd_T107 l1 x5_1).f0)) ∧ w'.cell? ⟨(ad289.add ((x5_1).toNat * 4)).block, (ad289.add ((x5_1).toNat * 4)).off + 1, none⟩ = some (.int .i64 ((rd_T107 l1 x5_1).f1)) ∧ w'.cell? ⟨(ad289.add ((x5_1).toNat * 4)).block, (ad289.add ((x5_1).toNat * 4)).off + 2, none⟩ = some (.int .i64 ((rd_T107 l1 x5_1).f2)) ∧ w'.cell? ⟨(ad289.add ((x5_1).toNat * 4)).block, (ad289.add ((x5_1).toNat * 4)).off + 3, none⟩ = some (.int .i64 ((rd_T107 l1 x5_1).f3))) (ds := []) #[fF, fF, fF, fF, fF, fF, fF, fF, fF, fF] kf rfl rfl ⟨((HB.out.cell (World.block_lt_of_cell? w _ hw288_0)).trans hw288_0), ((HB.out.cell (World.block_lt_of_cell? w _ hw288_1)).trans hw288_1), ((HB.out.cell (World.block_lt_of_cell? w _ hw288_2)).trans hw288_2), ((HB.out.cell (World.block_lt_of_cell? w _ hw288_3)).trans hw288_3), ((HB.out.cell (World.block_lt_of_cell? w _ hw289_0)).trans hw289_0), ((HB.out.cell (World.block_lt_of_cell? w _ hw289_1)).trans hw289_1), ((HB.out.cell (World.block_lt_of_cell? w _ hw289_2)).trans hw289_2), ((HB.out.cell (World.block_lt_of_cell? w _ hw289_3)).trans hw289_3)⟩ (fun hHeld => ?_); refine with_tabW laws_eqTermS.tab6 laws_eqTermS.bits6 (fun HT_ HW_ => ?_)
        generalize wr.drew = w11 at HB hx288_0 hx288_1 hx288_2 hx288_3 hx289_0 hx289_1 hx289_2 hx289_3 hHeld ⊢
        refine pq (i := 0) (N := some 17) #[tT, fF, fF, fF, fF, fF, fF, fF, fF, fF] rfl rfl HT_.out ?_
        refine pq (i := 1) (N := some 18) #[tT, tT, fF, fF, fF, fF, fF, fF, fF, fF] rfl rfl HT_.out ?_
        refine pq (i := 2) (N := some 19) #[tT, tT, tT, fF, fF, fF, fF, fF, fF, fF] rfl rfl HT_.out ?_
        refine pq (i := 4) (N := some 21) #[tT, tT, tT, fF, tT, fF, fF, fF, fF, fF] rfl rfl HT_.out ?_
        refine pq (i := 5) (N := some 22) #[tT, tT, tT, fF, tT, tT, fF, fF, fF, fF] rfl rfl HT_.out ?_
        refine pq (i := 6) (N := some 23) #[tT, tT, tT, fF, tT, tT, tT, fF, fF, fF] rfl rfl HT_.out ?_
        refine tq8 (i := 3) (N := some 20) #[tT, tT, tT, tT, tT, tT, tT, fF, fF, fF] rfl rfl HT_.out HW_.out hHeld ?_
        refine tq8 (i := 7) (N := some 24) #[tT, tT, tT, tT, tT, tT, tT, tT, fF, fF] rfl rfl HT_.out HW_.out hHeld ?_
        refine one_ (i := 8) (N := some 25) #[tT, tT, tT, tT, tT, tT, tT, tT, tT, fF] rfl rfl (one_of HT_.out kf) (by decide) (fun K hK => ?_)
        refine goes_ Try.func124 kf rfl #[.agg #[.int .i64 ((rd_T107 l0 x5_1).f0), .int .i64 ((rd_T107 l0 x5_1).f1), .int .i64 ((rd_T107 l0 x5_1).f2), .int .i64 ((rd_T107 l0 x5_1).f3)], .agg #[.int .i64 ((rd_T107 l1 x5_1).f0), .int .i64 ((rd_T107 l1 x5_1).f1), .int .i64 ((rd_T107 l1 x5_1).f2), .int .i64 ((rd_T107 l1 x5_1).f3)]] (by rfl) rfl rfl sm ?_
        with_reducible refine (laws_eqTerm.calls ((rd_T107 l0 x5_1).f0) ((rd_T107 l0 x5_1).f1) ((rd_T107 l0 x5_1).f2) ((rd_T107 l0 x5_1).f3) ((rd_T107 l1 x5_1).f0) ((rd_T107 l1 x5_1).f1) ((rd_T107 l1 x5_1).f2) ((rd_T107 l1 x5_1).f3) false _ A7.out).mono ?_
        rintro e w12 ⟨rfl, hb⟩
        refine ⟨_, rfl, ?_⟩
        have n0_ := Aside0.mk (below_step bz hb)
        clear HB
        have HB := n0_
        clear n0_
        (try clear hb)
        (try clear hb2)
        (try clear hk)
        (try clear hi)
        refine hK.out _ _ ⟨((HB.out.cell (World.block_lt_of_cell? w _ hw288_0)).trans hw288_0), ((HB.out.cell (World.block_lt_of_cell? w _ hw288_1)).trans hw288_1), ((HB.out.cell (World.block_lt_of_cell? w _ hw288_2)).trans hw288_2), ((HB.out.cell (World.block_lt_of_cell? w _ hw288_3)).trans hw288_3), ((HB.out.cell (World.block_lt_of_cell? w _ hw289_0)).trans hw289_0), ((HB.out.cell (World.block_lt_of_cell? w _ hw289_1)).trans hw289_1), ((HB.out.cell (World.block_lt_of_cell? w _ hw289_2)).trans hw289_2), ((HB.out.cell (World.block_lt_of_cell? w _ hw289_3)).trans hw289_3)⟩ (fun hHeld => ?_)
        clear hK K
        refine norm_ (a' := ?_) ?_ ?_
        rotate_left
        ·show Act.put _ (some 25) _ = _
         simp only [Act.put, List.setIfInBounds_toArray, List.set_cons_zero, List.set_cons_succ, i64_w, i32_w]
         rfl
        refine pq (i := 9) (N := some 26) #[tT, tT, tT, tT, tT, tT, tT, tT, tT, tT] rfl rfl HT_.out ?_
        refine done_ (done_of HT_.out kf) ?_
        try go_wp2
        go_ret
        exact ⟨er, bz⟩
      ·rw [if_neg c6] at H
       exact absurd H (by simp)
     ·rw [if_neg c5] at H
      exact absurd H (by simp)
    ·rw [if_neg c4] at H
     have c4b0 : decide (x5_1 < (l0.length : Int)) = false := decide_eq_false c4
     clear c4
     obtain rfl := Option.some.inj H
     go_wp2
     go_ret
     exact ⟨er, bz⟩
 ·rw [if_neg c3] at H
  have c3b0 : ((l0.length : Int) == (l1.length : Int)) = false := beq_eq_false_iff_ne.mpr c3
  have c3b1 : ((l0.length : Int) != (l1.length : Int)) = true := bne_iff_ne.mpr c3
  have c3b2 : (l0.length == l1.length) = false := by first | simpa using c3 | (simp at c3 ⊢; omega)
  obtain rfl := Option.some.inj H
  go_enter Try.func83, Try.ntmps83
  go_wp2
  go_ret
  exact ⟨er, bz⟩
def laws_eqTermSS.l0 : Nat → List (List (S107)) → List (List (S107)) → Int → Option (Bool)
 | 0, _, _, _ => none
 | k + 1, x0, x1, x5 => if x5 < (x0.length : Int) then (if 0 ≤ x5 then (if x5 < (x1.length : Int) then ((laws_eqTermS.f k (rd_L3 x0 x5) (rd_L3 x1 x5)).bind fun t293 => (if t293 = true then (laws_eqTermSS.l0 k x0 x1 (wrap64 (x5 + 1))) else (some false))) else (none)) else (none)) else (some true)
def laws_eqTermSS.f (k : Nat) (l0 : List (List (S107))) (l1 : List (List (S107))) : Option (Bool) := if (l0.length : Int) = (l1.length : Int) then (laws_eqTermSS.l0 k l0 l1 0) else (some false)
def laws_eqTermSS.T6 : Bool × List (List Nat × List Nat) := (true, [([], []), ([], []), ([0, 1], [0, 1]), ([2], [2]), ([], []), ([], []), ([4, 5], [4, 5]), ([6], [6]), ([3, 7], [3, 7]), ([8], [8])])
def laws_eqTermSS.B6 : List Nat := [0, 0, 3, 7, 0, 0, 48, 112, 255, 511]
theorem laws_eqTermSS.tab6 : rtab .any (opsOf Try.f101 6) = laws_eqTermSS.T6 := by kernel_rfl
theorem laws_eqTermSS.bits6 : waitsOk laws_eqTermSS.T6.2 laws_eqTermSS.B6 = true := by kernel_rfl
set_option maxHeartbeats 8000000 in
set_option maxRecDepth 100000 in
theorem laws_eqTermSS.calls (k : Nat) (A0 : Option Addr) (c0 : Nat) (l0 : List (List (S107))) (A1 : Option Addr) (c1 : Nat) (l1 : List (List (S107))) (r : Bool) (w : World) (hr0 : Kd.C (Kd.slice 107 k107) w A0 l0.length l0) (hc0 : l0.length ≤ c0) (hr1 : Kd.C (Kd.slice 107 k107) w A1 l1.length l1) (hc1 : l1.length ≤ c1) (h : laws_eqTermSS.f k l0 l1 = some r) :
 Calls Try.prog 101 #[.slice A0 l0.length c0, .slice A1 l1.length c1] w fun e w' => e = .returned (.bool r) ∧ Below w.heap.size w w' := by
 have HR0 := Aside0.mk hr0
 have HC0 := Aside0.mk hc0
 clear hr0 hc0
 have HR1 := Aside0.mk hr1
 have HC1 := Aside0.mk hc1
 clear hr1 hc1
 have HB := Aside0.mk (Below.refl w.heap.size w)
 have H : (if (l0.length : Int) = (l1.length : Int) then (laws_eqTermSS.l0 k l0 l1 0) else (some false)) = some r := h
 clear h
 by_cases c3 : (l0.length : Int) = (l1.length : Int)
 ·rw [if_pos c3] at H
  have c3b0 : ((l0.length : Int) == (l1.length : Int)) = true := beq_iff_eq.mpr c3
  have c3b1 : ((l0.length : Int) != (l1.length : Int)) = false := bne_eq_false_iff_eq.mpr c3
  have c3b2 : (l0.length == l1.length) = true := by first | simpa using c3 | (simp at c3 ⊢; omega)
  clear c3
  have H' := Aside0.mk H
  clear H
  go_enter Try.func101, Try.ntmps101
  go_wp2
  go_loopg [5] k (fun kq v5 w' => ∃ (x5_1 : Int), v5 = .int .i64 x5_1 ∧ Aside0 (laws_eqTermSS.l0 kq l0 l1 x5_1 = some r) ∧ Aside0 (kq ≤ k) ∧ Aside0 (Below w.heap.size w w'))
  case atStart => exact ⟨(0), sr, H', ⟨Nat.le_refl _⟩, ⟨bz⟩⟩
  case round =>
   clear H'
   try clear c1; try clear p2; try clear c3; try clear c3b0; try clear c3b1; try clear c3b2
   obtain ⟨x5_1, rfl, HA, HK1, HB⟩ := hrel
   cases gk with
   | zero => exact absurd HA.out (by simp [laws_eqTermSS.l0])
   | succ k1 =>
    have H := HA.out
    clear HA
    simp only [laws_eqTermSS.l0] at H
    by_cases c4 : x5_1 < (l0.length : Int)
    ·rw [if_pos c4] at H
     have c4b0 : decide (x5_1 < (l0.length : Int)) = true := decide_eq_true c4
     clear c4
     by_cases c5 : 0 ≤ x5_1
     ·rw [if_pos c5] at H
      have c5b0 : decide (0 ≤ x5_1) = true := decide_eq_true c5
      clear c5
      by_cases c6 : x5_1 < (l1.length : Int)
      ·rw [if_pos c6] at H
       have c6b0 : decide (x5_1 < (l1.length : Int)) = true := decide_eq_true c6
       clear c6
       obtain ⟨t293, A7, H⟩ := bi H
       by_cases c8 : t293 = true
       ·subst c8
        rw [if_pos rfl] at H
        have H' := Aside0.mk H
        clear H
        try go_wp2
        have n0_ := Aside0.mk (below_drew1 HB.out)
        clear HB
        have HB := n0_
        clear n0_
        have p291 : 0 ≤ (x5_1 : Int) := of_decide_eq_true am
        have q291 : x5_1 < (l0.length : Int) := of_decide_eq_true am
        obtain ⟨ad291, A291_0, c291_0, e291, hx291_0, hl291_0, hi291_0⟩ := at_L3 HR0.out x5_1 p291 q291
        have hw291_0 := hx291_0
        cases e291
        replace hx291_0 := (HB.out.cell (World.block_lt_of_cell? w _ hx291_0)).trans hx291_0
        have HR291_0 := Aside0.mk hi291_0
        have HC291_0 := Aside0.mk hl291_0
        clear hi291_0 hl291_0
        replace p291 := eq_true p291
        replace q291 := eq_true q291
        have p292 : 0 ≤ (x5_1 : Int) := of_decide_eq_true am
        have q292 : x5_1 < (l1.length : Int) := of_decide_eq_true am
        obtain ⟨ad292, A292_0, c292_0, e292, hx292_0, hl292_0, hi292_0⟩ := at_L3 HR1.out x5_1 p292 q292
        have hw292_0 := hx292_0
        cases e292
        replace hx292_0 := (HB.out.cell (World.block_lt_of_cell? w _ hx292_0)).trans hx292_0
        have HR292_0 := Aside0.mk hi292_0
        have HC292_0 := Aside0.mk hl292_0
        clear hi292_0 hl292_0
        replace p292 := eq_true p292
        replace q292 := eq_true q292
        refine start_ (n := 10) (S := fun w' => w'.cell? (ad291.add (x5_1).toNat) = some (.slice A291_0 (rd_L3 l0 x5_1).length c291_0) ∧ w'.cell? (ad292.add (x5_1).toNat) = some (.slice A292_0 (rd_L3 l1 x5_1).length c292_0)) (ds := []) #[fF, fF, fF, fF, fF, fF, fF, fF, fF, fF] kf rfl rfl ⟨((HB.out.cell (World.block_lt_of_cell? w _ hw291_0)).trans hw291_0), ((HB.out.cell (World.block_lt_of_cell? w _ hw292_0)).trans hw292_0)⟩ (fun hHeld => ?_); refine with_tabW laws_eqTermSS.tab6 laws_eqTermSS.bits6 (fun HT_ HW_ => ?_)
        generalize wr.drew = w9 at HB HR291_0 HR292_0 hx291_0 hx292_0 hHeld ⊢
        refine pq (i := 0) (N := some 17) #[tT, fF, fF, fF, fF, fF, fF, fF, fF, fF] rfl rfl HT_.out ?_
        refine pq (i := 1) (N := some 18) #[tT, tT, fF, fF, fF, fF, fF, fF, fF, fF] rfl rfl HT_.out ?_
        refine pq (i := 2) (N := some 19) #[tT, tT, tT, fF, fF, fF, fF, fF, fF, fF] rfl rfl HT_.out ?_
        refine pq (i := 4) (N := some 21) #[tT, tT, tT, fF, tT, fF, fF, fF, fF, fF] rfl rfl HT_.out ?_
        refine pq (i := 5) (N := some 22) #[tT, tT, tT, fF, tT, tT, fF, fF, fF, fF] rfl rfl HT_.out ?_
        refine pq (i := 6) (N := some 23) #[tT, tT, tT, fF, tT, tT, tT, fF, fF, fF] rfl rfl HT_.out ?_
        refine tq2 (i := 3) (N := some 20) #[tT, tT, tT, tT, tT, tT, tT, fF, fF, fF] rfl rfl HT_.out HW_.out hHeld ?_
        refine tq2 (i := 7) (N := some 24) #[tT, tT, tT, tT, tT, tT, tT, tT, fF, fF] rfl rfl HT_.out HW_.out hHeld ?_
        refine one_ (i := 8) (N := some 25) #[tT, tT, tT, tT, tT, tT, tT, tT, tT, fF] rfl rfl (one_of HT_.out kf) (by decide) (fun K hK => ?_)
        refine goes_ Try.func83 kf rfl #[.slice A291_0 (rd_L3 l0 x5_1).length c291_0, .slice A292_0 (rd_L3 l1 x5_1).length c292_0] (by rfl) rfl rfl sm ?_
        with_reducible refine (laws_eqTermS.calls k1 _ _ (rd_L3 l0 x5_1) _ _ (rd_L3 l1 x5_1) true _ ?side1 ?side2 ?side3 ?side4 A7.out).mono ?_
        (case side1 => exact cb HR291_0)
        (case side2 => exact HC291_0.out)
        (case side3 => exact cb HR292_0)
        (case side4 => exact HC292_0.out)
        rintro e w10 ⟨rfl, hb⟩
        refine ⟨_, rfl, ?_⟩
        have n0_ := Aside0.mk (below_step bz hb)
        clear HB
        have HB := n0_
        clear n0_
        (try clear hb)
        (try clear hb2)
        (try clear hk)
        (try clear hi)
        refine hK.out _ _ ⟨((HB.out.cell (World.block_lt_of_cell? w _ hw291_0)).trans hw291_0), ((HB.out.cell (World.block_lt_of_cell? w _ hw292_0)).trans hw292_0)⟩ (fun hHeld => ?_)
        clear hK K
        refine norm_ (a' := ?_) ?_ ?_
        rotate_left
        ·show Act.put _ (some 25) _ = _
         simp only [Act.put, List.setIfInBounds_toArray, List.set_cons_zero, List.set_cons_succ, i64_w, i32_w]
         rfl
        refine pq (i := 9) (N := some 26) #[tT, tT, tT, tT, tT, tT, tT, tT, tT, tT] rfl rfl HT_.out ?_
        refine done_ (done_of HT_.out kf) ?_
        try go_wp2
        go_roundg k1
        case measure => have := HK1.out; omega
        case rel => exact ⟨(wrap64 (x5_1 + 1)), sr, H', ⟨by have := HK1.out; omega⟩, ⟨bz⟩⟩
       ·replace c8 := Bool.eq_false_iff.mpr c8
        subst c8
        rw [if_neg (show ¬ (false = true) by decide)] at H
        obtain rfl := Option.some.inj H
        try go_wp2
        have n0_ := Aside0.mk (below_drew1 HB.out)
        clear HB
        have HB := n0_
        clear n0_
        have p291 : 0 ≤ (x5_1 : Int) := of_decide_eq_true am
        have q291 : x5_1 < (l0.length : Int) := of_decide_eq_true am
        obtain ⟨ad291, A291_0, c291_0, e291, hx291_0, hl291_0, hi291_0⟩ := at_L3 HR0.out x5_1 p291 q291
        have hw291_0 := hx291_0
        cases e291
        replace hx291_0 := (HB.out.cell (World.block_lt_of_cell? w _ hx291_0)).trans hx291_0
        have HR291_0 := Aside0.mk hi291_0
        have HC291_0 := Aside0.mk hl291_0
        clear hi291_0 hl291_0
        replace p291 := eq_true p291
        replace q291 := eq_true q291
        have p292 : 0 ≤ (x5_1 : Int) := of_decide_eq_true am
        have q292 : x5_1 < (l1.length : Int) := of_decide_eq_true am
        obtain ⟨ad292, A292_0, c292_0, e292, hx292_0, hl292_0, hi292_0⟩ := at_L3 HR1.out x5_1 p292 q292
        have hw292_0 := hx292_0
        cases e292
        replace hx292_0 := (HB.out.cell (World.block_lt_of_cell? w _ hx292_0)).trans hx292_0
        have HR292_0 := Aside0.mk hi292_0
        have HC292_0 := Aside0.mk hl292_0
        clear hi292_0 hl292_0
        replace p292 := eq_true p292
        replace q292 := eq_true q292
        refine start_ (n := 10) (S := fun w' => w'.cell? (ad291.add (x5_1).toNat) = some (.slice A291_0 (rd_L3 l0 x5_1).length c291_0) ∧ w'.cell? (ad292.add (x5_1).toNat) = some (.slice A292_0 (rd_L3 l1 x5_1).length c292_0)) (ds := []) #[fF, fF, fF, fF, fF, fF, fF, fF, fF, fF] kf rfl rfl ⟨((HB.out.cell (World.block_lt_of_cell? w _ hw291_0)).trans hw291_0), ((HB.out.cell (World.block_lt_of_cell? w _ hw292_0)).trans hw292_0)⟩ (fun hHeld => ?_); refine with_tabW laws_eqTermSS.tab6 laws_eqTermSS.bits6 (fun HT_ HW_ => ?_)
        generalize wr.drew = w11 at HB HR291_0 HR292_0 hx291_0 hx292_0 hHeld ⊢
        refine pq (i := 0) (N := some 17) #[tT, fF, fF, fF, fF, fF, fF, fF, fF, fF] rfl rfl HT_.out ?_
        refine pq (i := 1) (N := some 18) #[tT, tT, fF, fF, fF, fF, fF, fF, fF, fF] rfl rfl HT_.out ?_
        refine pq (i := 2) (N := some 19) #[tT, tT, tT, fF, fF, fF, fF, fF, fF, fF] rfl rfl HT_.out ?_
        refine pq (i := 4) (N := some 21) #[tT, tT, tT, fF, tT, fF, fF, fF, fF, fF] rfl rfl HT_.out ?_
        refine pq (i := 5) (N := some 22) #[tT, tT, tT, fF, tT, tT, fF, fF, fF, fF] rfl rfl HT_.out ?_
        refine pq (i := 6) (N := some 23) #[tT, tT, tT, fF, tT, tT, tT, fF, fF, fF] rfl rfl HT_.out ?_
        refine tq2 (i := 3) (N := some 20) #[tT, tT, tT, tT, tT, tT, tT, fF, fF, fF] rfl rfl HT_.out HW_.out hHeld ?_
        refine tq2 (i := 7) (N := some 24) #[tT, tT, tT, tT, tT, tT, tT, tT, fF, fF] rfl rfl HT_.out HW_.out hHeld ?_
        refine one_ (i := 8) (N := some 25) #[tT, tT, tT, tT, tT, tT, tT, tT, tT, fF] rfl rfl (one_of HT_.out kf) (by decide) (fun K hK => ?_)
        refine goes_ Try.func83 kf rfl #[.slice A291_0 (rd_L3 l0 x5_1).length c291_0, .slice A292_0 (rd_L3 l1 x5_1).length c292_0] (by rfl) rfl rfl sm ?_
        with_reducible refine (laws_eqTermS.calls k1 _ _ (rd_L3 l0 x5_1) _ _ (rd_L3 l1 x5_1) false _ ?side1 ?side2 ?side3 ?side4 A7.out).mono ?_
        (case side1 => exact cb HR291_0)
        (case side2 => exact HC291_0.out)
        (case side3 => exact cb HR292_0)
        (case side4 => exact HC292_0.out)
        rintro e w12 ⟨rfl, hb⟩
        refine ⟨_, rfl, ?_⟩
        have n0_ := Aside0.mk (below_step bz hb)
        clear HB
        have HB := n0_
        clear n0_
        (try clear hb)
        (try clear hb2)
        (try clear hk)
        (try clear hi)
        refine hK.out _ _ ⟨((HB.out.cell (World.block_lt_of_cell? w _ hw291_0)).trans hw291_0), ((HB.out.cell (World.block_lt_of_cell? w _ hw292_0)).trans hw292_0)⟩ (fun hHeld => ?_)
        clear hK K
        refine norm_ (a' := ?_) ?_ ?_
        rotate_left
        ·show Act.put _ (some 25) _ = _
         simp only [Act.put, List.setIfInBounds_toArray, List.set_cons_zero, List.set_cons_succ, i64_w, i32_w]
         rfl
        refine pq (i := 9) (N := some 26) #[tT, tT, tT, tT, tT, tT, tT, tT, tT, tT] rfl rfl HT_.out ?_
        refine done_ (done_of HT_.out kf) ?_
        try go_wp2
        go_ret
        exact ⟨er, bz⟩
      ·rw [if_neg c6] at H
       exact absurd H (by simp)
     ·rw [if_neg c5] at H
      exact absurd H (by simp)
    ·rw [if_neg c4] at H
     have c4b0 : decide (x5_1 < (l0.length : Int)) = false := decide_eq_false c4
     clear c4
     obtain rfl := Option.some.inj H
     go_wp2
     go_ret
     exact ⟨er, bz⟩
 ·rw [if_neg c3] at H
  have c3b0 : ((l0.length : Int) == (l1.length : Int)) = false := beq_eq_false_iff_ne.mpr c3
  have c3b1 : ((l0.length : Int) != (l1.length : Int)) = true := bne_iff_ne.mpr c3
  have c3b2 : (l0.length == l1.length) = false := by first | simpa using c3 | (simp at c3 ⊢; omega)
  obtain rfl := Option.some.inj H
  go_enter Try.func101, Try.ntmps101
  go_wp2
  go_ret
  exact ⟨er, bz⟩
def laws_toDyadic.f (a0_0 : Int) (a0_1 : Int) : Option (Int × Int) := some (a0_0, a0_1)
set_option maxHeartbeats 8000000 in
set_option maxRecDepth 100000 in
theorem laws_toDyadic.calls (a0_0 : Int) (a0_1 : Int) (r1 : Int) (r2 : Int) (w : World) (h : laws_toDyadic.f a0_0 a0_1 = some (r1, r2)) :
 Calls Try.prog 56 #[.agg #[.int .i64 a0_0, .int .i64 a0_1]] w fun e w' => e = .returned (.agg #[.int .i64 r1, .int .i64 r2]) ∧ Below w.heap.size w w' := by
 have hu82 := Try.underlying82
 have hu44 := Try.underlying44
 have HB := Aside0.mk (Below.refl w.heap.size w)
 have H : (some (a0_0, a0_1)) = some (r1, r2) := h
 clear h
 simp only [Option.some.injEq, Prod.mk.injEq] at H
 obtain ⟨rfl, rfl⟩ := H
 go_enter Try.func56, Try.ntmps56
 go_wp2_with (first | ((with_reducible refine gate_dst (N := 1) rfl ?_); refine bv (N := 1) (cs := #[.int .i64 a0_0, .int .i64 a0_1]) (t := 82) ?_; intro gb294 hg w2 hbox hb; have n0_ := Aside0.mk (below_step bz hb); have n1_ := Aside0.mk (hbox); have n2_ := (gz hg : Aside0 (w.heap.size ≤ _)); have n3_ := (gz hg : Aside0 (w.heap.size ≤ _)); clear HB; have HB := n0_; have BK294 := n1_; have GW294 := n2_; have GE294 := n3_; clear n0_ n1_ n2_ n3_; clear hb hbox hg) | ((with_reducible refine gate_dst (N := 2) rfl ?_); refine bv (N := 2) (cs := #[.int .i64 0, .int .i64 0]) (t := 44) ?_; intro gb295 hg w3 hbox hb; have n0_ := bb BK294 hb; have n1_ := Aside0.mk (below_step (bz1 GE294) hb); have n2_ := Aside0.mk (hbox); have n3_ := Aside0.mk ((by rw [hg]; exact (below_size (bz1 GE294)) : w.heap.size ≤ gb295)); have n4_ := Aside0.mk ((by rw [hg]; exact (below_size (bz1 GE294)) : w.heap.size ≤ gb295)); have n5_ := Aside0.mk ((by rw [hg]; exact Nat.ne_of_lt (blk_lt (g := gb294) (o := .cells #[.int .i64 a0_0, .int .i64 a0_1] 82 (0, 0)) (bk BK294)) : gb294 ≠ gb295)); have n6_ := Aside0.mk ((by rw [hg]; exact Nat.ne_of_gt (blk_lt (g := gb294) (o := .cells #[.int .i64 a0_0, .int .i64 a0_1] 82 (0, 0)) (bk BK294)) : gb295 ≠ gb294)); clear BK294; clear HB; have BK294 := n0_; have HB := n1_; have BK295 := n2_; have GW295 := n3_; have GE295 := n4_; have NB294_295 := n5_; have NB295_294 := n6_; clear n0_ n1_ n2_ n3_ n4_ n5_ n6_; clear hb hbox hg) | ((with_reducible refine gate_dst (N := 3) rfl ?_); refine bv (N := 3) (cs := #[.int .i64 0, .int .i64 0]) (t := 44) ?_; intro gb296 hg w4 hbox hb; have n0_ := bb BK294 hb; have n1_ := bb BK295 hb; have n2_ := Aside0.mk (below_step (bz2 GE294 GE295) hb); have n3_ := Aside0.mk (hbox); have n4_ := Aside0.mk ((by rw [hg]; exact (below_size (bz2 GE294 GE295)) : w.heap.size ≤ gb296)); have n5_ := Aside0.mk ((by rw [hg]; exact (below_size (bz2 GE294 GE295)) : w.heap.size ≤ gb296)); have n6_ := Aside0.mk ((by rw [hg]; exact Nat.ne_of_lt (blk_lt (g := gb294) (o := .cells #[.int .i64 a0_0, .int .i64 a0_1] 82 (0, 0)) (bk BK294)) : gb294 ≠ gb296)); have n7_ := Aside0.mk ((by rw [hg]; exact Nat.ne_of_gt (blk_lt (g := gb294) (o := .cells #[.int .i64 a0_0, .int .i64 a0_1] 82 (0, 0)) (bk BK294)) : gb296 ≠ gb294)); have n8_ := Aside0.mk ((by rw [hg]; exact Nat.ne_of_lt (blk_lt (g := gb295) (o := .cells #[.int .i64 0, .int .i64 0] 44 (0, 0)) (bk BK295)) : gb295 ≠ gb296)); have n9_ := Aside0.mk ((by rw [hg]; exact Nat.ne_of_gt (blk_lt (g := gb295) (o := .cells #[.int .i64 0, .int .i64 0] 44 (0, 0)) (bk BK295)) : gb296 ≠ gb295)); clear BK294; clear BK295; clear HB; have BK294 := n0_; have BK295 := n1_; have HB := n2_; have BK296 := n3_; have GW296 := n4_; have GE296 := n5_; have NB294_296 := n6_; have NB296_294 := n7_; have NB295_296 := n8_; have NB296_295 := n9_; clear n0_ n1_ n2_ n3_ n4_ n5_ n6_ n7_ n8_ n9_; clear hb hbox hg; have hnb5 := NB294_295.out; have hnc5 := NB295_294.out; have hnb6 := NB294_296.out; have hnc6 := NB296_294.out; have hcz7_0 : w4.cell? ⟨gb294, 0, none⟩ = some (.int .i64 a0_0) := (blk_cell BK294.out 0).trans rfl; have hcz7_1 : w4.cell? ⟨gb294, 1, none⟩ = some (.int .i64 a0_1) := (blk_cell BK294.out 1).trans rfl; have hfz7_0 := blk_frozen BK294.out 0; have hfz7_1 := blk_frozen BK294.out 1; have hnb8 := NB296_295.out; have hnc8 := NB295_296.out; have hcz9_0 : w4.cell? ⟨gb296, 0, none⟩ = some (.int .i64 0) := (blk_cell BK296.out 0).trans rfl; have hcz9_1 : w4.cell? ⟨gb296, 1, none⟩ = some (.int .i64 0) := (blk_cell BK296.out 1).trans rfl; have hfz9_0 := blk_frozen BK296.out 0; have hfz9_1 := blk_frozen BK296.out 1; have hcz10_0 : w4.cell? ⟨gb295, 0, none⟩ = some (.int .i64 0) := (blk_cell BK295.out 0).trans rfl; have hcz10_1 : w4.cell? ⟨gb295, 1, none⟩ = some (.int .i64 0) := (blk_cell BK295.out 1).trans rfl; have hfz10_0 := blk_frozen BK295.out 0; have hfz10_1 := blk_frozen BK295.out 1))
 refine bodyPost_ret (results_cell_row rfl _ _ gb295 44 #[.int .i64 a0_0, .int .i64 a0_1] (0, 0) _ rfl (by (with_reducible repeat (first | refine blk_drewN ?_ _ | refine blk_drew ?_ | refine blk_alloc ?_ _)); refine blk_put (cs := #[.int .i64 a0_0, .int .i64 0]) ?_ 1 _ rfl; (with_reducible repeat (first | refine blk_drewN ?_ _ | refine blk_drew ?_ | refine blk_alloc ?_ _)); refine blk_put (cs := #[.int .i64 0, .int .i64 0]) ?_ 0 _ rfl; (with_reducible repeat (first | refine blk_drewN ?_ _ | refine blk_drew ?_ | refine blk_alloc ?_ _)); refine blk_far ?_ NB295_296.out _; (with_reducible repeat (first | refine blk_drewN ?_ _ | refine blk_drew ?_ | refine blk_alloc ?_ _)); refine blk_far ?_ NB295_296.out _; (with_reducible repeat (first | refine blk_drewN ?_ _ | refine blk_drew ?_ | refine blk_alloc ?_ _)); exact BK295.out) Try.underlying44 rfl kf) rfl ?_
 exact ⟨er, bz3 GE294 GE295 GE296⟩
def laws_fillerDyadic.f  : Option (Int × Int) := some ((-7000000000000000101), (-7000000000000000101))
set_option maxHeartbeats 8000000 in
set_option maxRecDepth 100000 in
theorem laws_fillerDyadic.calls  (r1 : Int) (r2 : Int) (w : World) (h : laws_fillerDyadic.f  = some (r1, r2)) :
 Calls Try.prog 57 #[] w fun e w' => e = .returned (.agg #[.int .i64 r1, .int .i64 r2]) ∧ Below w.heap.size w w' := by
 have hu44 := Try.underlying44
 have HB := Aside0.mk (Below.refl w.heap.size w)
 have H : (some ((-7000000000000000101), (-7000000000000000101))) = some (r1, r2) := h
 clear h
 simp only [Option.some.injEq, Prod.mk.injEq] at H
 obtain ⟨rfl, rfl⟩ := H
 go_enter Try.func57, Try.ntmps57
 go_wp2_with (first | ((with_reducible refine gate_dst (N := 0) rfl ?_); refine bv (N := 0) (cs := #[.int .i64 0, .int .i64 0]) (t := 44) ?_; intro gb297 hg w1 hbox hb; have n0_ := Aside0.mk (below_step bz hb); have n1_ := Aside0.mk (hbox); have n2_ := (gz hg : Aside0 (w.heap.size ≤ _)); have n3_ := (gz hg : Aside0 (w.heap.size ≤ _)); clear HB; have HB := n0_; have BK297 := n1_; have GW297 := n2_; have GE297 := n3_; clear n0_ n1_ n2_ n3_; clear hb hbox hg; have hcz2_0 : w1.cell? ⟨gb297, 0, none⟩ = some (.int .i64 0) := (blk_cell BK297.out 0).trans rfl; have hcz2_1 : w1.cell? ⟨gb297, 1, none⟩ = some (.int .i64 0) := (blk_cell BK297.out 1).trans rfl; have hfz2_0 := blk_frozen BK297.out 0; have hfz2_1 := blk_frozen BK297.out 1))
 refine bodyPost_ret (results_cell_row rfl _ _ gb297 44 #[.int .i64 (-7000000000000000101), .int .i64 (-7000000000000000101)] (0, 0) _ rfl (by (with_reducible repeat (first | refine blk_drewN ?_ _ | refine blk_drew ?_ | refine blk_alloc ?_ _)); refine blk_put (cs := #[.int .i64 (-7000000000000000101), .int .i64 0]) ?_ 1 _ rfl; (with_reducible repeat (first | refine blk_drewN ?_ _ | refine blk_drew ?_ | refine blk_alloc ?_ _)); refine blk_put (cs := #[.int .i64 0, .int .i64 0]) ?_ 0 _ rfl; (with_reducible repeat (first | refine blk_drewN ?_ _ | refine blk_drew ?_ | refine blk_alloc ?_ _)); exact BK297.out) Try.underlying44 rfl kf) rfl ?_
 exact ⟨er, bz1 GE297⟩
mutual
def laws_toDyadicS.j0 : Nat → List (S82) → Bool → Option ((List (S44)))
 | 0, _, _ => none
 | k + 1, x0, x13 => if x13 = true then (some ([] : List (S44))) else ((laws_roomBehind.f (x0.length : Int)).bind fun t298 => (if 0 ≤ (wrap64 ((x0.length : Int) + t298)) then (if (wrap64 ((x0.length : Int) + t298) : Int).toNat ≤ 17592186044416 then (laws_toDyadicS.l0 k x0 (List.replicate (wrap64 ((x0.length : Int) + t298) : Int).toNat z44) 0) else (none)) else (none)))
def laws_toDyadicS.l0 : Nat → List (S82) → List (S44) → Int → Option ((List (S44)))
 | 0, _, _, _ => none
 | k + 1, x0, x5, x6 => if x6 < (x0.length : Int) then (if 0 ≤ x6 then ((laws_toDyadic.f ((rd_T82 x0 x6).f0) ((rd_T82 x0 x6).f1)).bind fun bt303 => (if x6 < (x5.length : Int) then (laws_toDyadicS.l0 k x0 (x5.set (x6 : Int).toNat (⟨bt303.1, bt303.2⟩ : S44)) (wrap64 (x6 + 1))) else (none))) else (none)) else (laws_toDyadicS.l1 k x0 x5 (x0.length : Int))
def laws_toDyadicS.l1 : Nat → List (S82) → List (S44) → Int → Option ((List (S44)))
 | 0, _, _, _ => none
 | k + 1, x0, x5, x7 => if x7 < (x5.length : Int) then ((laws_fillerDyadic.f).bind fun bt306 => (if 0 ≤ x7 then (laws_toDyadicS.l1 k x0 (x5.set (x7 : Int).toNat (⟨bt306.1, bt306.2⟩ : S44)) (wrap64 (x7 + 1))) else (none))) else (if 0 ≤ (x0.length : Int) then (if (x0.length : Int) ≤ (x5.length : Int) then (some (x5.take ((x0.length : Int) : Int).toNat)) else (none)) else (none))
end
def laws_toDyadicS.f (k : Nat) (l0 : List (S82)) (a1 : Bool) : Option ((List (S44))) := if a1 = true then (laws_toDyadicS.j0 k l0 ((l0.length : Int) == 0)) else (laws_toDyadicS.j0 k l0 false)
set_option maxHeartbeats 8000000 in
set_option maxRecDepth 100000 in
theorem laws_toDyadicS.calls (k : Nat) (A0 : Option Addr) (c0 : Nat) (l0 : List (S82)) (a1 : Bool) (r : List (S44)) (w : World) (hr0 : Kd.C k82 w A0 l0.length l0) (hc0 : l0.length ≤ c0) (h : laws_toDyadicS.f k l0 a1 = some r) :
 Calls Try.prog 13 #[.slice A0 l0.length c0, .bool a1] w fun e w' => ∃ v0_ : Value, e = .returned (v0_) ∧ Kd.R k44 44 w' w.heap.size (fun _ => True) v0_ r ∧ Below w.heap.size w w' := by
 have hu82 := Try.underlying82
 have hu44 := Try.underlying44
 have HR0 := Aside0.mk hr0
 have HC0 := Aside0.mk hc0
 clear hr0 hc0
 have HB := Aside0.mk (Below.refl w.heap.size w)
 have H : (if a1 = true then (laws_toDyadicS.j0 k l0 ((l0.length : Int) == 0)) else (laws_toDyadicS.j0 k l0 false)) = some r := h
 clear h
 have HC3 := Aside0.mk H
 clear H
 go_enter Try.func13, Try.ntmps13
 go_upto_region 1 with (fail)
 go_cut [13] (fun v13 wc => ∃ (kq : Nat) (x13_2 : Bool), v13 = .bool x13_2 ∧ Aside0 (laws_toDyadicS.j0 kq l0 x13_2 = some r) ∧ Aside0 (kq ≤ k) ∧ Aside0 (Below w.heap.size w wc))
 case first =>
  have H := HC3.out
  clear HC3
  by_cases c4 : a1 = true
  ·subst c4
   rw [if_pos rfl] at H
   have H' := Aside0.mk H
   clear H
   go_wp2
   go_meet
   case rel => exact ⟨_, (((l0.length : Int) == 0)), sr, H', ⟨by first | omega | exact Nat.le_refl _⟩, ⟨bz⟩⟩
  ·replace c4 := Bool.eq_false_iff.mpr c4
   subst c4
   rw [if_neg (show ¬ (false = true) by decide)] at H
   have H' := Aside0.mk H
   clear H
   go_wp2
   go_meet
   case rel => exact ⟨_, (false), sr, H', ⟨by first | omega | exact Nat.le_refl _⟩, ⟨bz⟩⟩
 case rest =>
  clear HC3
  try clear c1; try clear p2; try clear c4
  obtain ⟨kq, x13_2, rfl, HA, HJ2, HB⟩ := hcut
  cases kq with
  | zero => exact absurd HA.out (by simp [laws_toDyadicS.j0])
  | succ kj2 =>
   have H := HA.out
   clear HA
   simp only [laws_toDyadicS.j0] at H
   by_cases c5 : x13_2 = true
   ·subst c5
    rw [if_pos rfl] at H
    obtain rfl := Option.some.inj H
    go_wp2
    go_ret
    exact ⟨_, er, by first | exact Kd.R_nil _ _ _ _ _ | exact Kd.N_nil _ _ _ _ _ | exact Kd.V_nil _ _ _ _ _ | exact Kd.Q_nil _ _ _ _ _ | exact Kd.S_nil _ _ _ _ _, bz⟩
   ·replace c5 := Bool.eq_false_iff.mpr c5
    subst c5
    rw [if_neg (show ¬ (false = true) by decide)] at H
    obtain ⟨t298, A6, H⟩ := bi H
    obtain ⟨ji7, hji7⟩ : ∃ j_ : Int, (wrap64 ((l0.length : Int) + t298)) = j_ := ⟨_, rfl⟩
    first | rw [hji7] at H | simp only [hji7] at H
    (try rw [hji7] at A6)
    have hji7w : (IntKind.i64.wrap ((l0.length : Int) + t298)) = ji7 := (i64_w _).trans hji7
    by_cases c8 : 0 ≤ (ji7)
    ·rw [if_pos c8] at H
     have c8b0 := eq_true c8
     have c8b1 : decide (0 ≤ (ji7)) = true := decide_eq_true c8
     clear c8
     by_cases c9 : (ji7 : Int).toNat ≤ 17592186044416
     ·rw [if_pos c9] at H
      have c9b0 := eq_true c9
      have c9b1 : decide ((ji7 : Int).toNat ≤ 17592186044416) = true := decide_eq_true c9
      clear c9
      obtain ⟨y299, hy299⟩ : ∃ y_ : List (S44), y_ = (List.replicate (ji7 : Int).toNat z44) := ⟨_, rfl⟩
      replace H : (laws_toDyadicS.l0 kj2 l0 y299 0) = some r := by first | (rw [hy299]; with_reducible exact H) | (have H2_ := (Option.bind_some _ _).symm.trans H; rw [hy299]; with_reducible exact H2_) | (have H2_ := (Option.bind_some _ _).symm.trans H; with_reducible exact H2_) | with_reducible exact H | (rw [hy299]; exact H) | exact H
      have Ny299 := Aside0.mk hy299
      clear hy299
      have H' := Aside0.mk H
      clear H
      go_wp2_with (first | ((with_reducible refine gate_callee (f := 55) rfl ?_); refine goesL_ (some 18) rfl rfl Try.func55 kf rfl #[.int .i64 (l0.length : Int)] rfl sm ?_; (with_reducible refine (laws_roomBehind.calls (l0.length : Int) t298 _ A6.out).mono ?_); rintro e w' ⟨rfl, ⟨nd, rfl⟩⟩; refine ⟨_, rfl, ?_⟩) | ((with_reducible refine gate_dst (N := 20) rfl ?_); (try (refine gate_guard (by rfl) ?_; dsimp only)); refine Kd.R_make k44 _ 44 rfl (N := 20) rfl 25 _ _ rfl ji7 rfl rfl Try.underlying25 (.agg #[(.int .i64 0), (.int .i64 0)]) 16 info44 rfl (by decide) (by omega) z44 (ok := fun _ => True) (okp := fun _ => True) (k44_mkM _ _ _ z44 ) (fun _ hk => hk) trivial (of_decide_eq_true am) (Nat.le_trans (Nat.mul_le_mul_right _ (of_decide_eq_true am : ji7.toNat ≤ 17592186044416)) (by omega)) (Below.refl _ _) (Nat.le_refl _) ?_; intro v300 w10 ho11 hb hg_ hnew_; clear hg_ hnew_; (first | rw [← Ny299.out] at ho11 | (simp only [Int.reduceToNat] at ho11; rw [← Ny299.out] at ho11)); have n0_ := Aside0.mk (Kd.R_lower ho11 (below_size bz)); have n1_ := Aside0.mk (below_step bz hb); clear HB; have HO301 := n0_; have HB := n1_; clear n0_ n1_; clear hb ho11))
      go_loopg [6] kj2 (fun kq v6 w' => ∃ (x5_2 : List (S44)) (x6_2 : Int), v6 = .int .i64 x6_2 ∧ Aside0 (laws_toDyadicS.l0 kq l0 x5_2 x6_2 = some r) ∧ Aside0 (kq ≤ kj2) ∧ Aside0 (Kd.R k44 44 w' w.heap.size (fun _ => True) v300 x5_2) ∧ Aside0 (Below w.heap.size w w'))
      case atStart => exact ⟨(y299), (0), sr, H', ⟨Nat.le_refl _⟩, ⟨kr HO301⟩, ⟨bz⟩⟩
      case round =>
       clear H'
       try clear c1; try clear p2; try clear c4; try clear c5; try clear p6; try clear c8; try clear c8b0; try clear c8b1; try clear c9; try clear c9b0; try clear c9b1; try clear p2
       obtain ⟨x5_2, x6_2, rfl, HA, HK2, HO_5, HB⟩ := hrel
       cases gk with
       | zero => exact absurd HA.out (by simp [laws_toDyadicS.l0])
       | succ k2 =>
        have H := HA.out
        clear HA
        simp only [laws_toDyadicS.l0] at H
        by_cases c12 : x6_2 < (l0.length : Int)
        ·rw [if_pos c12] at H
         have c12b0 : decide (x6_2 < (l0.length : Int)) = true := decide_eq_true c12
         clear c12
         by_cases c13 : 0 ≤ x6_2
         ·rw [if_pos c13] at H
          have c13b0 : decide (0 ≤ x6_2) = true := decide_eq_true c13
          clear c13
          obtain ⟨⟨t303, t304⟩, A14, H⟩ := bi H
          try dsimp only at H
          by_cases c15 : x6_2 < (x5_2.length : Int)
          ·rw [if_pos c15] at H
           have c15b0 : decide (x6_2 < (x5_2.length : Int)) = true := decide_eq_true c15
           clear c15
           obtain ⟨y305, hy305⟩ : ∃ y_ : List (S44), y_ = (x5_2.set (x6_2 : Int).toNat (⟨t303, t304⟩ : S44)) := ⟨_, rfl⟩
           replace H : (laws_toDyadicS.l0 k2 l0 y305 (wrap64 (x6_2 + 1))) = some r := by first | (rw [hy305]; with_reducible exact H) | (have H2_ := (Option.bind_some _ _).symm.trans H; rw [hy305]; with_reducible exact H2_) | (have H2_ := (Option.bind_some _ _).symm.trans H; with_reducible exact H2_) | with_reducible exact H | (rw [hy305]; exact H) | exact H
           have Ny305 := Aside0.mk hy305
           clear hy305
           have H' := Aside0.mk H
           clear H
           have p302 : 0 ≤ (x6_2 : Int) := of_decide_eq_true am
           have q302 : x6_2 < (l0.length : Int) := of_decide_eq_true am
           obtain ⟨ad302, e302, hx302_0, hx302_1⟩ := at_T82 HR0.out x6_2 p302 q302
           cases e302
           replace hx302_0 := (HB.out.cell (World.block_lt_of_cell? w _ hx302_0)).trans hx302_0
           replace hx302_1 := (HB.out.cell (World.block_lt_of_cell? w _ hx302_1)).trans hx302_1
           replace p302 := eq_true p302
           replace q302 := eq_true q302
           go_wp2_with (first | ((with_reducible refine gate_callee (f := 56) rfl ?_); refine goesL_ (some 33) rfl rfl Try.func56 kf rfl #[.agg #[.int .i64 ((rd_T82 l0 x6_2).f0), .int .i64 ((rd_T82 l0 x6_2).f1)]] rfl sm ?_; (with_reducible refine (laws_toDyadic.calls ((rd_T82 l0 x6_2).f0) ((rd_T82 l0 x6_2).f1) t303 t304 _ A14.out).mono ?_); rintro e w17 ⟨rfl, hb⟩; refine ⟨_, rfl, ?_⟩; have n0_ := Aside0.mk (Kd.R_below (kr HO_5) hb); have n1_ := Aside0.mk (below_step bz hb); clear HO_5; clear HB; have HO_5 := n0_; have HB := n1_; clear n0_ n1_; (try clear hb); (try clear hb2); (try clear hk); (try clear hi); have p16 : 0 ≤ (x6_2 : Int) := of_decide_eq_true am; have q16 : (x6_2 : Int) < ((x5_2.length : Int) : Int) := of_decide_eq_true am; obtain ⟨go16, co16, eo16, gb16, gl16, cl16, HG16⟩ := Kd.R_form HO_5.out (by omega); (first | cases eo16 | (injection eo16 with ea_ en_ ec_; (first | subst ea_ | (injection ea_ with ea_; subst ea_)); subst ec_; clear en_)); have GB16 := Aside0.mk gb16; have GG16 := Aside0.mk HG16; clear gb16 gl16 HG16; obtain ⟨ce16, hcl16, hM16, hcc16, hfr16⟩ := Kd.R_elem HO_5.out z44 (x6_2 : Int) p16 q16; obtain rfl := k44_openM hM16; have hx16_0 : w17.cell? ⟨go16, (x6_2 : Int).toNat * 2, none⟩ = some (.int .i64 ((rd_T44 x5_2 x6_2).f0)) := hcc16 0 _ rfl; have hx16_1 : w17.cell? ⟨go16, (x6_2 : Int).toNat * 2 + 1, none⟩ = some (.int .i64 ((rd_T44 x5_2 x6_2).f1)) := hcc16 1 _ rfl; have hf16_0 : w17.frozen? ⟨go16, (x6_2 : Int).toNat * 2, none⟩ = false := hfr16 0; have hf16_1 : w17.frozen? ⟨go16, (x6_2 : Int).toNat * 2 + 1, none⟩ = false := hfr16 1; clear hcl16 hcc16 hfr16; (try clear hM16); replace p16 := eq_true p16; replace q16 := eq_true q16; have HX18 := Aside0.mk (show Kd.R k44 44 w17 w.heap.size (fun _ => True) (.slice (some ⟨go16, 0, none⟩) x5_2.length co16) x5_2 from (kr HO_5)); obtain ⟨ce18, hcl18, hM18, hcc18, hfr18⟩ := Kd.R_elem HX18.out z44 (x6_2 : Int) (of_decide_eq_true am) (by have h_ : (x6_2 : Int) < ((x5_2.length : Int) : Int) := of_decide_eq_true am; first | exact h_ | (have e_ := (Kd.R_reads' HO_5.out).1; omega) | simpa using h_); obtain rfl := k44_openM hM18; have HP18 := Kd.R_seg HX18.out (x6_2 : Int) (of_decide_eq_true am) (by have h_ : (x6_2 : Int) < ((x5_2.length : Int) : Int) := of_decide_eq_true am; first | exact h_ | (have e_ := (Kd.R_reads' HO_5.out).1; omega) | simpa using h_) (seg := [.int .i64 t303, .int .i64 t304]) (j := 0) hcl18 hcc18 (show 2 ≤ 2 from by decide) (x' := (⟨t303, t304⟩ : S44)) (k44_mkM _ _ _ (⟨t303, t304⟩ : S44) ) (fun _ hk => hk); have hx18_0 := hcc18 0 _ rfl; (try simp only [show (k44).sz = 2 from rfl, Nat.mul_one, Nat.add_zero] at hx18_0); have hf18_0 := hfr18 0; (try simp only [show (k44).sz = 2 from rfl, Nat.mul_one, Nat.add_zero] at hf18_0); have hx18_1 := hcc18 1 _ rfl; (try simp only [show (k44).sz = 2 from rfl, Nat.mul_one, Nat.add_zero] at hx18_1); have hf18_1 := hfr18 1; (try simp only [show (k44).sz = 2 from rfl, Nat.mul_one, Nat.add_zero] at hf18_1); clear hcl18 hcc18 hfr18 hM18) | ((with_reducible refine gate_store (t := 44) (p := 34) rfl ?_); refine store_event (t := 44) (p := 34) (v := ?vo_w19) (w1 := ((w17.setCell ⟨go16, (x6_2 : Int).toNat * 2, none⟩ (.int .i64 t303)).setCell ⟨go16, (x6_2 : Int).toNat * 2 + 1, none⟩ (.int .i64 t304))) ?hg ?ho ?hn ?hr ?_; (case ho => rfl); (case hg => rfl); (case hn => rfl); (case hr => first | (go_simp; done) | (go_simp; rfl)); intro w19 hw; have hg : w17.grownBy w19 (some go16) := (by rw [hw]; exact HP18.2); have hp_ : Kd.R k44 44 w19 w.heap.size (fun _ => True) (.slice (some ⟨go16, 0, none⟩) x5_2.length co16) y305 := (by rw [hw, Ny305.out]; exact HP18.1); clear HP18; have n0_ := Aside0.mk (hp_); have n1_ := Aside0.mk ((by rw [hw]; exact below_set (below_set (HB.out) GB16.out) GB16.out : Below w.heap.size w w19)); clear HO_5; clear HB; have HO_5 := n0_; have HB := n1_; clear n0_ n1_; clear hg hw hp_))
           go_roundg k2
           case measure => have := HJ2.out; have := HK2.out; omega
           case rel => exact ⟨(y305), (wrap64 (x6_2 + 1)), sr, H', ⟨by have := HJ2.out; have := HK2.out; omega⟩, ⟨kr HO_5⟩, ⟨bz⟩⟩
          ·rw [if_neg c15] at H
           exact absurd H (by simp)
         ·rw [if_neg c13] at H
          exact absurd H (by simp)
        ·rw [if_neg c12] at H
         have c12b0 : decide (x6_2 < (l0.length : Int)) = false := decide_eq_false c12
         clear c12
         have H' := Aside0.mk H
         clear H
         go_wp2
         go_loopg [7] k2 (fun kq v7 w' => ∃ (x5_3 : List (S44)) (x7_3 : Int), v7 = .int .i64 x7_3 ∧ Aside0 (laws_toDyadicS.l1 kq l0 x5_3 x7_3 = some r) ∧ Aside0 (kq ≤ k2) ∧ Aside0 (Kd.R k44 44 w' w.heap.size (fun _ => True) v300 x5_3) ∧ Aside0 (Below w.heap.size w w'))
         case atStart => exact ⟨(x5_2), ((l0.length : Int)), sr, H', ⟨Nat.le_refl _⟩, ⟨kr HO_5⟩, ⟨bz⟩⟩
         case round =>
          clear H'
          try clear c1; try clear p1; try clear q1; try clear hx1; try clear p2; try clear p3; try clear q3; try clear hx3; try clear c4; try clear c5; try clear p6; try clear c8; try clear c8b0; try clear c8b1; try clear c9; try clear c9b0; try clear c9b1; try clear c12; try clear c12b0; try clear c13; try clear c13b0; try clear c15; try clear c15b0; try clear c16; try clear p16; try clear q16; try clear hx16; try clear hf16; try clear c18; try clear hx18; try clear hf18; try clear hx16_0; try clear hx16_1; try clear hx18_0; try clear hx18_1; try clear hx302_0; try clear hx302_1; try clear p16; try clear p2; try clear p302; try clear p6; try clear q16; try clear q302
          obtain ⟨x5_3, x7_3, rfl, HA, HK3, HO_5, HB⟩ := hrel
          cases gk with
          | zero => exact absurd HA.out (by simp [laws_toDyadicS.l1])
          | succ k3 =>
           have H := HA.out
           clear HA
           simp only [laws_toDyadicS.l1] at H
           by_cases c20 : x7_3 < (x5_3.length : Int)
           ·rw [if_pos c20] at H
            have c20b0 : decide (x7_3 < (x5_3.length : Int)) = true := decide_eq_true c20
            clear c20
            obtain ⟨⟨t306, t307⟩, A21, H⟩ := bi H
            try dsimp only at H
            by_cases c22 : 0 ≤ x7_3
            ·rw [if_pos c22] at H
             have c22b0 : decide (0 ≤ x7_3) = true := decide_eq_true c22
             clear c22
             obtain ⟨y308, hy308⟩ : ∃ y_ : List (S44), y_ = (x5_3.set (x7_3 : Int).toNat (⟨t306, t307⟩ : S44)) := ⟨_, rfl⟩
             replace H : (laws_toDyadicS.l1 k3 l0 y308 (wrap64 (x7_3 + 1))) = some r := by first | (rw [hy308]; with_reducible exact H) | (have H2_ := (Option.bind_some _ _).symm.trans H; rw [hy308]; with_reducible exact H2_) | (have H2_ := (Option.bind_some _ _).symm.trans H; with_reducible exact H2_) | with_reducible exact H | (rw [hy308]; exact H) | exact H
             have Ny308 := Aside0.mk hy308
             clear hy308
             have H' := Aside0.mk H
             clear H
             obtain ⟨Ao24, co24, eo24⟩ := Kd.R_slice HO_5.out
             subst eo24
             go_wp2_with (first | ((with_reducible refine gate_callee (f := 57) rfl ?_); refine goesL_ (some 45) rfl rfl Try.func57 kf rfl #[] rfl sm ?_; (with_reducible refine (laws_fillerDyadic.calls  t306 t307 _ A21.out).mono ?_); rintro e w25 ⟨rfl, hb⟩; refine ⟨_, rfl, ?_⟩; have n0_ := Aside0.mk (Kd.R_below (kr HO_5) hb); have n1_ := Aside0.mk (below_step bz hb); clear HO_5; clear HB; have HO_5 := n0_; have HB := n1_; clear n0_ n1_; (try clear hb); (try clear hb2); (try clear hk); (try clear hi); have p23 : 0 ≤ (x7_3 : Int) := of_decide_eq_true am; have q23 : (x7_3 : Int) < ((x5_3.length : Int) : Int) := of_decide_eq_true am; obtain ⟨go23, co23, eo23, gb23, gl23, cl23, HG23⟩ := Kd.R_form HO_5.out (by omega); (first | cases eo23 | (injection eo23 with ea_ en_ ec_; (first | subst ea_ | (injection ea_ with ea_; subst ea_)); subst ec_; clear en_)); have GB23 := Aside0.mk gb23; have GG23 := Aside0.mk HG23; clear gb23 gl23 HG23; obtain ⟨ce23, hcl23, hM23, hcc23, hfr23⟩ := Kd.R_elem HO_5.out z44 (x7_3 : Int) p23 q23; obtain rfl := k44_openM hM23; have hx23_0 : w25.cell? ⟨go23, (x7_3 : Int).toNat * 2, none⟩ = some (.int .i64 ((rd_T44 x5_3 x7_3).f0)) := hcc23 0 _ rfl; have hx23_1 : w25.cell? ⟨go23, (x7_3 : Int).toNat * 2 + 1, none⟩ = some (.int .i64 ((rd_T44 x5_3 x7_3).f1)) := hcc23 1 _ rfl; have hf23_0 : w25.frozen? ⟨go23, (x7_3 : Int).toNat * 2, none⟩ = false := hfr23 0; have hf23_1 : w25.frozen? ⟨go23, (x7_3 : Int).toNat * 2 + 1, none⟩ = false := hfr23 1; clear hcl23 hcc23 hfr23; (try clear hM23); replace p23 := eq_true p23; replace q23 := eq_true q23; have HX26 := Aside0.mk (show Kd.R k44 44 w25 w.heap.size (fun _ => True) (.slice (some ⟨go23, 0, none⟩) x5_3.length co24) x5_3 from (kr HO_5)); obtain ⟨ce26, hcl26, hM26, hcc26, hfr26⟩ := Kd.R_elem HX26.out z44 (x7_3 : Int) (of_decide_eq_true am) (by have h_ : (x7_3 : Int) < ((x5_3.length : Int) : Int) := of_decide_eq_true am; first | exact h_ | (have e_ := (Kd.R_reads' HO_5.out).1; omega) | simpa using h_); obtain rfl := k44_openM hM26; have HP26 := Kd.R_seg HX26.out (x7_3 : Int) (of_decide_eq_true am) (by have h_ : (x7_3 : Int) < ((x5_3.length : Int) : Int) := of_decide_eq_true am; first | exact h_ | (have e_ := (Kd.R_reads' HO_5.out).1; omega) | simpa using h_) (seg := [.int .i64 t306, .int .i64 t307]) (j := 0) hcl26 hcc26 (show 2 ≤ 2 from by decide) (x' := (⟨t306, t307⟩ : S44)) (k44_mkM _ _ _ (⟨t306, t307⟩ : S44) ) (fun _ hk => hk); have hx26_0 := hcc26 0 _ rfl; (try simp only [show (k44).sz = 2 from rfl, Nat.mul_one, Nat.add_zero] at hx26_0); have hf26_0 := hfr26 0; (try simp only [show (k44).sz = 2 from rfl, Nat.mul_one, Nat.add_zero] at hf26_0); have hx26_1 := hcc26 1 _ rfl; (try simp only [show (k44).sz = 2 from rfl, Nat.mul_one, Nat.add_zero] at hx26_1); have hf26_1 := hfr26 1; (try simp only [show (k44).sz = 2 from rfl, Nat.mul_one, Nat.add_zero] at hf26_1); clear hcl26 hcc26 hfr26 hM26) | ((with_reducible refine gate_store (t := 44) (p := 46) rfl ?_); refine store_event (t := 44) (p := 46) (v := ?vo_w27) (w1 := ((w25.setCell ⟨go23, (x7_3 : Int).toNat * 2, none⟩ (.int .i64 t306)).setCell ⟨go23, (x7_3 : Int).toNat * 2 + 1, none⟩ (.int .i64 t307))) ?hg ?ho ?hn ?hr ?_; (case ho => rfl); (case hg => rfl); (case hn => rfl); (case hr => first | (go_simp; done) | (go_simp; rfl)); intro w27 hw; have hg : w25.grownBy w27 (some go23) := (by rw [hw]; exact HP26.2); have hp_ : Kd.R k44 44 w27 w.heap.size (fun _ => True) (.slice (some ⟨go23, 0, none⟩) x5_3.length co24) y308 := (by rw [hw, Ny308.out]; exact HP26.1); clear HP26; have n0_ := Aside0.mk (hp_); have n1_ := Aside0.mk ((by rw [hw]; exact below_set (below_set (HB.out) GB23.out) GB23.out : Below w.heap.size w w27)); clear HO_5; clear HB; have HO_5 := n0_; have HB := n1_; clear n0_ n1_; clear hg hw hp_))
             go_roundg k3
             case measure => have := HJ2.out; have := HK2.out; have := HK3.out; omega
             case rel => exact ⟨(y308), (wrap64 (x7_3 + 1)), sr, H', ⟨by have := HJ2.out; have := HK2.out; have := HK3.out; omega⟩, ⟨kr HO_5⟩, ⟨bz⟩⟩
            ·rw [if_neg c22] at H
             exact absurd H (by simp)
           ·rw [if_neg c20] at H
            have c20b0 : decide (x7_3 < (x5_3.length : Int)) = false := decide_eq_false c20
            clear c20
            by_cases c28 : 0 ≤ (l0.length : Int)
            ·rw [if_pos c28] at H
             have c28b0 := eq_true c28
             have c28b1 : decide (0 ≤ (l0.length : Int)) = true := decide_eq_true c28
             clear c28
             by_cases c29 : (l0.length : Int) ≤ (x5_3.length : Int)
             ·rw [if_pos c29] at H
              have c29b0 := eq_true c29
              have c29b1 : decide ((l0.length : Int) ≤ (x5_3.length : Int)) = true := decide_eq_true c29
              clear c29
              obtain ⟨y309, hy309⟩ : ∃ y_ : List (S44), y_ = (x5_3.take ((l0.length : Int) : Int).toNat) := ⟨_, rfl⟩
              replace H : (some y309) = some r := by first | (rw [hy309]; with_reducible exact H) | (have H2_ := (Option.bind_some _ _).symm.trans H; rw [hy309]; with_reducible exact H2_) | (have H2_ := (Option.bind_some _ _).symm.trans H; with_reducible exact H2_) | with_reducible exact H | (rw [hy309]; exact H) | exact H
              have Ny309 := Aside0.mk hy309
              clear hy309
              obtain rfl := Option.some.inj H
              obtain ⟨Ao30, co30, eo30⟩ := Kd.R_slice HO_5.out
              subst eo30
              have q31 : ((l0.length : Int) : Int) ≤ ((x5_3.length : Int) : Int) := of_decide_eq_true am
              obtain ⟨i031, hi031, _, hsz31, _⟩ := info_parts info44
              have hcut31 := cut_to (P := Try.prog) 25 44 .i64 Try.underlying25 hi031 Ao30 x5_3.length co30 (l0.length : Int) (of_decide_eq_true am) q31 (Kd.R_reads' HO_5.out).2.1
              have hr31 := Kd.R_take (m := ((l0.length : Int) : Int).toNat) HO_5.out (by omega)
              have hy31 : y309.length = ((l0.length : Int) : Int).toNat := (by rw [Ny309.out, List.length_take]; omega)
              rw [← Ny309.out] at hr31
              rw [← hy31] at hr31 hcut31
              clear hy31 hi031 hsz31 HO_5
              have HO311 := Aside0.mk hr31
              clear hr31
              replace q31 := eq_true q31
              go_wp2
              go_ret
              exact ⟨_, by first | rfl | (simp [errW_none, errW_some] <;> rfl) | (simp only [← hji7]; first | rfl | (simp [errW_none, errW_some] <;> rfl)) | (simp [*, errW_none, errW_some] <;> rfl), by (with_reducible repeat (first | apply Kd.R_alloc | apply Kd.R_drewN | apply Kd.R_drew)); exact HO311.out, bz⟩
             ·rw [if_neg c29] at H
              exact absurd H (by simp)
            ·rw [if_neg c28] at H
             exact absurd H (by simp)
     ·rw [if_neg c9] at H
      exact absurd H (by simp)
    ·rw [if_neg c8] at H
     exact absurd H (by simp)
def laws_szDyadicS.f (l0 : List (S82)) (a1 : Int) : Option (Int) := if (wrap64 (a1 - (l0.length : Int))) < 0 then (some (-1)) else (some (wrap64 (a1 - (l0.length : Int))))
set_option maxHeartbeats 8000000 in
set_option maxRecDepth 100000 in
theorem laws_szDyadicS.calls (A0 : Option Addr) (c0 : Nat) (l0 : List (S82)) (a1 : Int) (r : Int) (w : World) (hr0 : Kd.C k82 w A0 l0.length l0) (hc0 : l0.length ≤ c0) (h : laws_szDyadicS.f l0 a1 = some r) :
 Calls Try.prog 11 #[.slice A0 l0.length c0, .int .i64 a1] w fun e w' => e = .returned (.int .i64 r) ∧ Drawn0 w w' := by
 have HR0 := Aside0.mk hr0
 have HC0 := Aside0.mk hc0
 clear hr0 hc0
 have H : (if (wrap64 (a1 - (l0.length : Int))) < 0 then (some (-1)) else (some (wrap64 (a1 - (l0.length : Int))))) = some r := h
 clear h
 by_cases c3 : (wrap64 (a1 - (l0.length : Int))) < 0
 ·rw [if_pos c3] at H
  have c3b0 : decide ((wrap64 (a1 - (l0.length : Int))) < 0) = true := decide_eq_true c3
  (try (have c3b0w : decide ((IntKind.i64.wrap (a1 - (l0.length : Int))) < 0) = true := by simp only [i64_w]; exact c3b0))
  clear c3
  obtain rfl := Option.some.inj H
  go_enter Try.func11, Try.ntmps11
  go_wp2
  go_ret
  exact ⟨sr, dz⟩
 ·rw [if_neg c3] at H
  have c3b0 : decide ((wrap64 (a1 - (l0.length : Int))) < 0) = false := decide_eq_false c3
  (try (have c3b0w : decide ((IntKind.i64.wrap (a1 - (l0.length : Int))) < 0) = false := by simp only [i64_w]; exact c3b0))
  clear c3
  obtain rfl := Option.some.inj H
  go_enter Try.func11, Try.ntmps11
  go_wp2
  go_ret
  exact ⟨sr, dz⟩
def laws_eqDyadic.f (a0_0 : Int) (a0_1 : Int) (a1_0 : Int) (a1_1 : Int) : Option (Bool) := if a0_0 = a1_0 then (if a0_1 = a1_1 then (some true) else (some false)) else (some false)
set_option maxHeartbeats 8000000 in
set_option maxRecDepth 100000 in
theorem laws_eqDyadic.calls (a0_0 : Int) (a0_1 : Int) (a1_0 : Int) (a1_1 : Int) (r : Bool) (w : World) (h : laws_eqDyadic.f a0_0 a0_1 a1_0 a1_1 = some r) :
 Calls Try.prog 28 #[.agg #[.int .i64 a0_0, .int .i64 a0_1], .agg #[.int .i64 a1_0, .int .i64 a1_1]] w fun e w' => e = .returned (.bool r) ∧ Below w.heap.size w w' := by
 have hu44 := Try.underlying44
 have HB := Aside0.mk (Below.refl w.heap.size w)
 have H : (if a0_0 = a1_0 then (if a0_1 = a1_1 then (some true) else (some false)) else (some false)) = some r := h
 clear h
 by_cases c3 : a0_0 = a1_0
 ·rw [if_pos c3] at H
  have c3b0 : (a0_0 == a1_0) = true := beq_iff_eq.mpr c3
  have c3b1 : (a0_0 != a1_0) = false := bne_eq_false_iff_eq.mpr c3
  clear c3
  by_cases c4 : a0_1 = a1_1
  ·rw [if_pos c4] at H
   have c4b0 : (a0_1 == a1_1) = true := beq_iff_eq.mpr c4
   have c4b1 : (a0_1 != a1_1) = false := bne_eq_false_iff_eq.mpr c4
   clear c4
   obtain rfl := Option.some.inj H
   go_enter Try.func28, Try.ntmps28
   go_wp2_with (first | ((with_reducible refine gate_dst (N := 2) rfl ?_); refine bv (N := 2) (cs := #[.int .i64 a0_0, .int .i64 a0_1]) (t := 44) ?_; intro gb312 hg w5 hbox hb; have n0_ := Aside0.mk (below_step bz hb); have n1_ := Aside0.mk (hbox); have n2_ := (gz hg : Aside0 (w.heap.size ≤ _)); have n3_ := (gz hg : Aside0 (w.heap.size ≤ _)); clear HB; have HB := n0_; have BK312 := n1_; have GW312 := n2_; have GE312 := n3_; clear n0_ n1_ n2_ n3_; clear hb hbox hg) | ((with_reducible refine gate_dst (N := 3) rfl ?_); refine bv (N := 3) (cs := #[.int .i64 a1_0, .int .i64 a1_1]) (t := 44) ?_; intro gb313 hg w6 hbox hb; have n0_ := bb BK312 hb; have n1_ := Aside0.mk (below_step (bz1 GE312) hb); have n2_ := Aside0.mk (hbox); have n3_ := Aside0.mk ((by rw [hg]; exact (below_size (bz1 GE312)) : w.heap.size ≤ gb313)); have n4_ := Aside0.mk ((by rw [hg]; exact (below_size (bz1 GE312)) : w.heap.size ≤ gb313)); have n5_ := Aside0.mk ((by rw [hg]; exact Nat.ne_of_lt (blk_lt (g := gb312) (o := .cells #[.int .i64 a0_0, .int .i64 a0_1] 44 (0, 0)) (bk BK312)) : gb312 ≠ gb313)); have n6_ := Aside0.mk ((by rw [hg]; exact Nat.ne_of_gt (blk_lt (g := gb312) (o := .cells #[.int .i64 a0_0, .int .i64 a0_1] 44 (0, 0)) (bk BK312)) : gb313 ≠ gb312)); clear BK312; clear HB; have BK312 := n0_; have HB := n1_; have BK313 := n2_; have GW313 := n3_; have GE313 := n4_; have NB312_313 := n5_; have NB313_312 := n6_; clear n0_ n1_ n2_ n3_ n4_ n5_ n6_; clear hb hbox hg; have hnb7 := NB312_313.out; have hnc7 := NB313_312.out; have hcz8_0 : w6.cell? ⟨gb312, 0, none⟩ = some (.int .i64 a0_0) := (blk_cell BK312.out 0).trans rfl; have hcz8_1 : w6.cell? ⟨gb312, 1, none⟩ = some (.int .i64 a0_1) := (blk_cell BK312.out 1).trans rfl; have hfz8_0 := blk_frozen BK312.out 0; have hfz8_1 := blk_frozen BK312.out 1; have hcz9_0 : w6.cell? ⟨gb313, 0, none⟩ = some (.int .i64 a1_0) := (blk_cell BK313.out 0).trans rfl; have hcz9_1 : w6.cell? ⟨gb313, 1, none⟩ = some (.int .i64 a1_1) := (blk_cell BK313.out 1).trans rfl; have hfz9_0 := blk_frozen BK313.out 0; have hfz9_1 := blk_frozen BK313.out 1))
   go_ret
   exact ⟨er, bz2 GE312 GE313⟩
  ·rw [if_neg c4] at H
   have c4b0 : (a0_1 == a1_1) = false := beq_eq_false_iff_ne.mpr c4
   have c4b1 : (a0_1 != a1_1) = true := bne_iff_ne.mpr c4
   obtain rfl := Option.some.inj H
   go_enter Try.func28, Try.ntmps28
   go_wp2_with (first | ((with_reducible refine gate_dst (N := 2) rfl ?_); refine bv (N := 2) (cs := #[.int .i64 a0_0, .int .i64 a0_1]) (t := 44) ?_; intro gb312 hg w10 hbox hb; have n0_ := Aside0.mk (below_step bz hb); have n1_ := Aside0.mk (hbox); have n2_ := (gz hg : Aside0 (w.heap.size ≤ _)); have n3_ := (gz hg : Aside0 (w.heap.size ≤ _)); clear HB; have HB := n0_; have BK312 := n1_; have GW312 := n2_; have GE312 := n3_; clear n0_ n1_ n2_ n3_; clear hb hbox hg) | ((with_reducible refine gate_dst (N := 3) rfl ?_); refine bv (N := 3) (cs := #[.int .i64 a1_0, .int .i64 a1_1]) (t := 44) ?_; intro gb313 hg w11 hbox hb; have n0_ := bb BK312 hb; have n1_ := Aside0.mk (below_step (bz1 GE312) hb); have n2_ := Aside0.mk (hbox); have n3_ := Aside0.mk ((by rw [hg]; exact (below_size (bz1 GE312)) : w.heap.size ≤ gb313)); have n4_ := Aside0.mk ((by rw [hg]; exact (below_size (bz1 GE312)) : w.heap.size ≤ gb313)); have n5_ := Aside0.mk ((by rw [hg]; exact Nat.ne_of_lt (blk_lt (g := gb312) (o := .cells #[.int .i64 a0_0, .int .i64 a0_1] 44 (0, 0)) (bk BK312)) : gb312 ≠ gb313)); have n6_ := Aside0.mk ((by rw [hg]; exact Nat.ne_of_gt (blk_lt (g := gb312) (o := .cells #[.int .i64 a0_0, .int .i64 a0_1] 44 (0, 0)) (bk BK312)) : gb313 ≠ gb312)); clear BK312; clear HB; have BK312 := n0_; have HB := n1_; have BK313 := n2_; have GW313 := n3_; have GE313 := n4_; have NB312_313 := n5_; have NB313_312 := n6_; clear n0_ n1_ n2_ n3_ n4_ n5_ n6_; clear hb hbox hg; have hnb12 := NB312_313.out; have hnc12 := NB313_312.out; have hcz13_0 : w11.cell? ⟨gb312, 0, none⟩ = some (.int .i64 a0_0) := (blk_cell BK312.out 0).trans rfl; have hcz13_1 : w11.cell? ⟨gb312, 1, none⟩ = some (.int .i64 a0_1) := (blk_cell BK312.out 1).trans rfl; have hfz13_0 := blk_frozen BK312.out 0; have hfz13_1 := blk_frozen BK312.out 1; have hcz14_0 : w11.cell? ⟨gb313, 0, none⟩ = some (.int .i64 a1_0) := (blk_cell BK313.out 0).trans rfl; have hcz14_1 : w11.cell? ⟨gb313, 1, none⟩ = some (.int .i64 a1_1) := (blk_cell BK313.out 1).trans rfl; have hfz14_0 := blk_frozen BK313.out 0; have hfz14_1 := blk_frozen BK313.out 1))
   go_ret
   exact ⟨er, bz2 GE312 GE313⟩
 ·rw [if_neg c3] at H
  have c3b0 : (a0_0 == a1_0) = false := beq_eq_false_iff_ne.mpr c3
  have c3b1 : (a0_0 != a1_0) = true := bne_iff_ne.mpr c3
  obtain rfl := Option.some.inj H
  go_enter Try.func28, Try.ntmps28
  go_wp2_with (first | ((with_reducible refine gate_dst (N := 2) rfl ?_); refine bv (N := 2) (cs := #[.int .i64 a0_0, .int .i64 a0_1]) (t := 44) ?_; intro gb312 hg w15 hbox hb; have n0_ := Aside0.mk (below_step bz hb); have n1_ := Aside0.mk (hbox); have n2_ := (gz hg : Aside0 (w.heap.size ≤ _)); have n3_ := (gz hg : Aside0 (w.heap.size ≤ _)); clear HB; have HB := n0_; have BK312 := n1_; have GW312 := n2_; have GE312 := n3_; clear n0_ n1_ n2_ n3_; clear hb hbox hg) | ((with_reducible refine gate_dst (N := 3) rfl ?_); refine bv (N := 3) (cs := #[.int .i64 a1_0, .int .i64 a1_1]) (t := 44) ?_; intro gb313 hg w16 hbox hb; have n0_ := bb BK312 hb; have n1_ := Aside0.mk (below_step (bz1 GE312) hb); have n2_ := Aside0.mk (hbox); have n3_ := Aside0.mk ((by rw [hg]; exact (below_size (bz1 GE312)) : w.heap.size ≤ gb313)); have n4_ := Aside0.mk ((by rw [hg]; exact (below_size (bz1 GE312)) : w.heap.size ≤ gb313)); have n5_ := Aside0.mk ((by rw [hg]; exact Nat.ne_of_lt (blk_lt (g := gb312) (o := .cells #[.int .i64 a0_0, .int .i64 a0_1] 44 (0, 0)) (bk BK312)) : gb312 ≠ gb313)); have n6_ := Aside0.mk ((by rw [hg]; exact Nat.ne_of_gt (blk_lt (g := gb312) (o := .cells #[.int .i64 a0_0, .int .i64 a0_1] 44 (0, 0)) (bk BK312)) : gb313 ≠ gb312)); clear BK312; clear HB; have BK312 := n0_; have HB := n1_; have BK313 := n2_; have GW313 := n3_; have GE313 := n4_; have NB312_313 := n5_; have NB313_312 := n6_; clear n0_ n1_ n2_ n3_ n4_ n5_ n6_; clear hb hbox hg; have hnb17 := NB312_313.out; have hnc17 := NB313_312.out; have hcz18_0 : w16.cell? ⟨gb312, 0, none⟩ = some (.int .i64 a0_0) := (blk_cell BK312.out 0).trans rfl; have hcz18_1 : w16.cell? ⟨gb312, 1, none⟩ = some (.int .i64 a0_1) := (blk_cell BK312.out 1).trans rfl; have hfz18_0 := blk_frozen BK312.out 0; have hfz18_1 := blk_frozen BK312.out 1; have hcz19_0 : w16.cell? ⟨gb313, 0, none⟩ = some (.int .i64 a1_0) := (blk_cell BK313.out 0).trans rfl; have hcz19_1 : w16.cell? ⟨gb313, 1, none⟩ = some (.int .i64 a1_1) := (blk_cell BK313.out 1).trans rfl; have hfz19_0 := blk_frozen BK313.out 0; have hfz19_1 := blk_frozen BK313.out 1))
  go_ret
  exact ⟨er, bz2 GE312 GE313⟩
end Go.Proofs.Ytalcohajbcijlaa.QSiA
