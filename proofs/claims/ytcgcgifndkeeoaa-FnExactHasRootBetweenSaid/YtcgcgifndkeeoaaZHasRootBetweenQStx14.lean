import Derived.Test.YtcgcgifndkeeoaaZHasRootBetweenSq
import Derived.Test.YtcgcgifndkeeoaaZHasRootBetweenQStx2
import Derived.Test.YtcgcgifndkeeoaaZHasRootBetweenQStx12
import Derived.Test.YtcgcgifndkeeoaaZHasRootBetweenQStx13
namespace Go.Proofs.Ytcgcgifndkeeoaa.QSt
open Go.RowKit Go.Proofs.YtcgcgifndkeeoaaW.PrintWords Go.Proofs.YtcgcgifndkeeoaaW.PrintLast Go.Proofs.YtcgcgifndkeeoaaW.PrintMore
attribute [local go_sem] max2_int min2_int max_two min_two max_three min_three max_four min_four
set_option linter.unusedVariables false
set_option linter.unusedSimpArgs false
def impl_compareDigits.l0 : Nat → Int → Bool → List Int → Bool → List Int → Option (Int)
 | 0, _, _, _, _, _ => none
 | k + 1, x5, x418000, x418001, x419000, x419001 => if x5 ≥ 0 then ((impl_long_digit.f x418000 x418001 x5).bind fun t419 => ((impl_long_digit.f x419000 x419001 x5).bind fun t420 => ((cmp_Compare_uint32.f t419 t420).bind fun t421 => (if t421 = 0 then (impl_compareDigits.l0 k (wrap64 (x5 - 1)) x418000 x418001 x419000 x419001) else (some t421))))) else (some 0)
def impl_compareDigits.f (k : Nat) (a0_0 : Bool) (l0_1 : List Int) (a1_0 : Bool) (l1_1 : List Int) : Option (Int) := impl_compareDigits.l0 k (wrap64 ((mx (l0_1.length : Int) (l1_1.length : Int)) - 1)) a0_0 l0_1 a1_0 l1_1
def impl_compareDigits.T4 : Bool × List (List Nat × List Nat) := (true, [([], []), ([], []), ([0, 1], [0, 1]), ([], []), ([], []), ([3, 4, 2], [3, 4]), ([2, 5, 5], [2, 5]), ([6, 6, 0, 1, 2, 3, 4, 5, 6], [6])])
def impl_compareDigits.B4 : List Nat := [0, 0, 3, 0, 0, 31, 63, 127]
theorem impl_compareDigits.tab4 : rtab .any (opsOf Try.f112 4) = impl_compareDigits.T4 := by kernel_rfl
theorem impl_compareDigits.bits4 : waitsOk impl_compareDigits.T4.2 impl_compareDigits.B4 = true := by kernel_rfl
set_option maxHeartbeats 8000000 in
set_option maxRecDepth 100000 in
theorem impl_compareDigits.calls (k : Nat) (a0_0 : Bool) (A0_1 : Option Addr) (c0_1 : Nat) (l0_1 : List Int) (a1_0 : Bool) (A1_1 : Option Addr) (c1_1 : Nat) (l1_1 : List Int) (r : Int) (w : World) (hr0_1 : Kd.C (Kd.int .u32) w A0_1 l0_1.length l0_1) (hc0_1 : l0_1.length ≤ c0_1) (hr1_1 : Kd.C (Kd.int .u32) w A1_1 l1_1.length l1_1) (hc1_1 : l1_1.length ≤ c1_1) (h : impl_compareDigits.f k a0_0 l0_1 a1_0 l1_1 = some r) :
 Calls Try.prog 112 #[.agg #[.bool a0_0, .slice A0_1 l0_1.length c0_1], .agg #[.bool a1_0, .slice A1_1 l1_1.length c1_1]] w fun e w' => e = .returned (.int .i64 r) ∧ Below w.heap.size w w' := by
 have hu69 := Try.underlying69
 have HR0_1 := Aside0.mk hr0_1
 have HC0_1 := Aside0.mk hc0_1
 clear hr0_1 hc0_1
 have HR1_1 := Aside0.mk hr1_1
 have HC1_1 := Aside0.mk hc1_1
 clear hr1_1 hc1_1
 have HB := Aside0.mk (Below.refl w.heap.size w)
 have H : (impl_compareDigits.l0 k (wrap64 ((mx (l0_1.length : Int) (l1_1.length : Int)) - 1)) a0_0 l0_1 a1_0 l1_1) = some r := h
 clear h
 obtain ⟨ji3, hji3⟩ : ∃ j_ : Int, (mx (l0_1.length : Int) (l1_1.length : Int)) = j_ := ⟨_, rfl⟩
 first | rw [hji3] at H | simp only [hji3] at H
 (try (have hji3l : 0 ≤ ji3 := by (rw [← hji3]; unfold mx; (repeat' split) <;> omega)))
 (try (have hji3m : 0 ≤ ji3 := by omega))
 have hji3_ : (if (l0_1.length : Int) < (l1_1.length : Int) then (l1_1.length : Int) else (l0_1.length : Int)) = ji3 := hji3
 have hji3n : (if l0_1.length < l1_1.length then (l1_1.length : Int) else (l0_1.length : Int)) = ji3 := by rw [← hji3_]; simp only [Int.ofNat_lt]
 have H' := Aside0.mk H
 clear H
 go_enter Try.func112, Try.ntmps112
 go_wp2_with (first | ((with_reducible refine gate_dst (N := 2) rfl ?_); refine bv (N := 2) (cs := #[.bool a0_0, .slice A0_1 l0_1.length c0_1]) (t := 69) ?_; intro gb417 hg w4 hbox hb; have n0_ := Aside0.mk (below_step bz hb); have n1_ := Aside0.mk (hbox); have n2_ := (gz hg : Aside0 (w.heap.size ≤ _)); have n3_ := (gz hg : Aside0 (w.heap.size ≤ _)); clear HB; have HB := n0_; have BK417 := n1_; have GW417 := n2_; have GE417 := n3_; clear n0_ n1_ n2_ n3_; clear hb hbox hg) | ((with_reducible refine gate_dst (N := 3) rfl ?_); refine bv (N := 3) (cs := #[.bool a1_0, .slice A1_1 l1_1.length c1_1]) (t := 69) ?_; intro gb418 hg w5 hbox hb; have n0_ := bb BK417 hb; have n1_ := Aside0.mk (below_step (bz1 GE417) hb); have n2_ := Aside0.mk (hbox); have n3_ := Aside0.mk ((by rw [hg]; exact (below_size (bz1 GE417)) : w.heap.size ≤ gb418)); have n4_ := Aside0.mk ((by rw [hg]; exact (below_size (bz1 GE417)) : w.heap.size ≤ gb418)); have n5_ := Aside0.mk ((by rw [hg]; exact Nat.ne_of_lt (blk_lt (g := gb417) (o := .cells #[.bool a0_0, .slice A0_1 l0_1.length c0_1] 69 (0, 0)) (bk BK417)) : gb417 ≠ gb418)); have n6_ := Aside0.mk ((by rw [hg]; exact Nat.ne_of_gt (blk_lt (g := gb417) (o := .cells #[.bool a0_0, .slice A0_1 l0_1.length c0_1] 69 (0, 0)) (bk BK417)) : gb418 ≠ gb417)); clear BK417; clear HB; have BK417 := n0_; have HB := n1_; have BK418 := n2_; have GW418 := n3_; have GE418 := n4_; have NB417_418 := n5_; have NB418_417 := n6_; clear n0_ n1_ n2_ n3_ n4_ n5_ n6_; clear hb hbox hg; have hnb6 := NB417_418.out; have hnc6 := NB418_417.out; have hcz7_0 : w5.cell? ⟨gb417, 0, none⟩ = some (.bool a0_0) := (blk_cell BK417.out 0).trans rfl; have hcz7_1 : w5.cell? ⟨gb417, 1, none⟩ = some (.slice A0_1 l0_1.length c0_1) := (blk_cell BK417.out 1).trans rfl; have hfz7_0 := blk_frozen BK417.out 0; have hfz7_1 := blk_frozen BK417.out 1; have hcz8_0 : w5.cell? ⟨gb418, 0, none⟩ = some (.bool a1_0) := (blk_cell BK418.out 0).trans rfl; have hcz8_1 : w5.cell? ⟨gb418, 1, none⟩ = some (.slice A1_1 l1_1.length c1_1) := (blk_cell BK418.out 1).trans rfl; have hfz8_0 := blk_frozen BK418.out 0; have hfz8_1 := blk_frozen BK418.out 1))
 go_loopg [5] k (fun kq v5 w' => ∃ (x5_1 : Int), v5 = .int .i64 x5_1 ∧ Aside0 (impl_compareDigits.l0 kq x5_1 a0_0 l0_1 a1_0 l1_1 = some r) ∧ Aside0 (kq ≤ k) ∧ Aside0 (w'.heap[gb417]? = some (.cells #[.bool a0_0, (.slice A0_1 l0_1.length c0_1)] 69 (0, 0))) ∧ Aside0 (w'.heap[gb418]? = some (.cells #[.bool a1_0, (.slice A1_1 l1_1.length c1_1)] 69 (0, 0))) ∧ Aside0 (Below w.heap.size w w'))
 case atStart => exact ⟨(wrap64 ((ji3) - 1)), (by first | rfl | (simp; done) | (simp only [← hji3] <;> (first | rfl | simp)) | (simp [*]; done)), H', ⟨Nat.le_refl _⟩, ⟨bk BK417⟩, ⟨bk BK418⟩, ⟨bz2 GE417 GE418⟩⟩
 case round =>
  clear H'
  try clear c1; try clear p2; try clear c6; try clear p6; try clear hcz7_0; try clear hcz7_1; try clear hcz8_0; try clear hcz8_1; try clear hfz7_0; try clear hfz7_1; try clear hfz8_0; try clear hfz8_1
  obtain ⟨x5_1, rfl, HA, HK1, BK417, BK418, HB⟩ := hrel
  cases gk with
  | zero => exact absurd HA.out (by simp [impl_compareDigits.l0])
  | succ k1 =>
   have H := HA.out
   clear HA
   simp only [impl_compareDigits.l0] at H
   by_cases c9 : x5_1 ≥ 0
   ·rw [if_pos c9] at H
    have c9b0 : decide (0 ≤ x5_1) = true := decide_eq_true c9
    clear c9
    obtain ⟨t419, A10, H⟩ := bi H
    obtain ⟨t420, A11, H⟩ := bi H
    obtain ⟨t421, A12, H⟩ := bi H
    by_cases c13 : t421 = 0
    ·rw [if_pos c13] at H
     have c13b0 : (t421 == 0) = true := beq_iff_eq.mpr c13
     have c13b1 : (t421 != 0) = false := bne_eq_false_iff_eq.mpr c13
     clear c13
     have H' := Aside0.mk H
     clear H
     try go_wp2
     have n0_ := Aside0.mk (blk_drew BK417.out)
     have n1_ := Aside0.mk (blk_drew BK418.out)
     have n2_ := Aside0.mk (below_drew1 HB.out)
     clear BK417 BK418 HB
     have BK417 := n0_
     have BK418 := n1_
     have HB := n2_
     clear n0_ n1_ n2_
     refine start_ (n := 8) (S := fun w' => w'.cell? ⟨gb417, 0, none⟩ = some (.bool a0_0) ∧ w'.cell? ⟨gb417, 1, none⟩ = some (.slice A0_1 l0_1.length c0_1) ∧ w'.cell? ⟨gb418, 0, none⟩ = some (.bool a1_0) ∧ w'.cell? ⟨gb418, 1, none⟩ = some (.slice A1_1 l1_1.length c1_1)) (ds := []) #[fF, fF, fF, fF, fF, fF, fF, fF] kf rfl rfl ⟨(blk_cell BK417.out 0).trans rfl, (blk_cell BK417.out 1).trans rfl, (blk_cell BK418.out 0).trans rfl, (blk_cell BK418.out 1).trans rfl⟩ (fun hHeld => ?_); refine with_tabW impl_compareDigits.tab4 impl_compareDigits.bits4 (fun HT_ HW_ => ?_)
     generalize wr.drew = w14 at BK417 BK418 HB hHeld ⊢
     refine pq (i := 1) (N := some 20) #[fF, tT, fF, fF, fF, fF, fF, fF] rfl rfl HT_.out ?_
     refine pq (i := 4) (N := some 23) #[fF, tT, fF, fF, tT, fF, fF, fF] rfl rfl HT_.out ?_
     refine tq4 (i := 0) (N := some 19) #[tT, tT, fF, fF, tT, fF, fF, fF] rfl rfl HT_.out HW_.out hHeld ?_
     refine tq4 (i := 3) (N := some 22) #[tT, tT, fF, tT, tT, fF, fF, fF] rfl rfl HT_.out HW_.out hHeld ?_
     refine one_ (i := 2) (N := some 21) #[tT, tT, tT, tT, tT, fF, fF, fF] rfl rfl (one_of HT_.out kf) (by decide) (fun K hK => ?_)
     refine goes_ Try.func113 kf rfl #[.agg #[.bool a0_0, .slice A0_1 l0_1.length c0_1], .int .i64 x5_1] (by rfl) rfl rfl sm ?_
     with_reducible refine (impl_long_digit.calls a0_0 _ _ l0_1 x5_1 t419 _ ?side1 ?side2 A10.out).mono ?_
     (case side1 => exact cb HR0_1)
     (case side2 => exact HC0_1.out)
     rintro e w15 ⟨rfl, hb⟩
     refine ⟨_, rfl, ?_⟩
     have n0_ := bb BK417 hb
     have n1_ := bb BK418 hb
     have n2_ := Aside0.mk (below_step (bz2 GE417 GE418) hb)
     clear BK417 BK418 HB
     have BK417 := n0_
     have BK418 := n1_
     have HB := n2_
     clear n0_ n1_ n2_
     (try clear hb)
     (try clear hb2)
     (try clear hk)
     (try clear hi)
     refine hK.out _ _ ⟨(blk_cell BK417.out 0).trans rfl, (blk_cell BK417.out 1).trans rfl, (blk_cell BK418.out 0).trans rfl, (blk_cell BK418.out 1).trans rfl⟩ (fun hHeld => ?_)
     clear hK K
     refine norm_ (a' := ?_) ?_ ?_
     rotate_left
     ·show Act.put _ (some 21) _ = _
      simp only [Act.put, List.setIfInBounds_toArray, List.set_cons_zero, List.set_cons_succ, i64_w, i32_w]
      rfl
     refine one_ (i := 5) (N := some 24) #[tT, tT, tT, tT, tT, tT, fF, fF] rfl rfl (one_of HT_.out kf) (by decide) (fun K hK => ?_)
     refine goes_ Try.func113 kf rfl #[.agg #[.bool a1_0, .slice A1_1 l1_1.length c1_1], .int .i64 x5_1] (by rfl) rfl rfl sm ?_
     with_reducible refine (impl_long_digit.calls a1_0 _ _ l1_1 x5_1 t420 _ ?side1 ?side2 A11.out).mono ?_
     (case side1 => exact cb HR1_1)
     (case side2 => exact HC1_1.out)
     rintro e w16 ⟨rfl, hb⟩
     refine ⟨_, rfl, ?_⟩
     have n0_ := bb BK417 hb
     have n1_ := bb BK418 hb
     have n2_ := Aside0.mk (below_step (bz2 GE417 GE418) hb)
     clear BK417 BK418 HB
     have BK417 := n0_
     have BK418 := n1_
     have HB := n2_
     clear n0_ n1_ n2_
     (try clear hb)
     (try clear hb2)
     (try clear hk)
     (try clear hi)
     refine hK.out _ _ ⟨(blk_cell BK417.out 0).trans rfl, (blk_cell BK417.out 1).trans rfl, (blk_cell BK418.out 0).trans rfl, (blk_cell BK418.out 1).trans rfl⟩ (fun hHeld => ?_)
     clear hK K
     refine norm_ (a' := ?_) ?_ ?_
     rotate_left
     ·show Act.put _ (some 24) _ = _
      simp only [Act.put, List.setIfInBounds_toArray, List.set_cons_zero, List.set_cons_succ, i64_w, i32_w]
      rfl
     refine one_ (i := 6) (N := some 25) #[tT, tT, tT, tT, tT, tT, tT, fF] rfl rfl (one_of HT_.out kf) (by decide) (fun K hK => ?_)
     refine goes_ Try.func129 kf rfl #[.int .u32 t419, .int .u32 t420] (by rfl) rfl rfl sm ?_
     with_reducible refine (cmp_Compare_uint32.calls t419 t420 t421 _ A12.out).mono ?_
     rintro e w' ⟨rfl, ⟨nd, rfl⟩⟩
     refine ⟨_, rfl, ?_⟩
     refine hK.out _ _ ⟨(blk_cell BK417.out 0).trans rfl, (blk_cell BK417.out 1).trans rfl, (blk_cell BK418.out 0).trans rfl, (blk_cell BK418.out 1).trans rfl⟩ (fun hHeld => ?_)
     clear hK K
     refine norm_ (a' := ?_) ?_ ?_
     rotate_left
     ·show Act.put _ (some 25) _ = _
      simp only [Act.put, List.setIfInBounds_toArray, List.set_cons_zero, List.set_cons_succ, i64_w, i32_w]
      rfl
     refine pq (i := 7) (N := some 6) #[tT, tT, tT, tT, tT, tT, tT, tT] rfl rfl HT_.out ?_
     refine done_ (done_of HT_.out kf) ?_
     try go_wp2
     go_roundg k1
     case measure => have := HK1.out; omega
     case rel => exact ⟨(wrap64 (x5_1 - 1)), sr, H', ⟨by have := HK1.out; omega⟩, ⟨bk BK417⟩, ⟨bk BK418⟩, ⟨bz2 GE417 GE418⟩⟩
    ·rw [if_neg c13] at H
     have c13b0 : (t421 == 0) = false := beq_eq_false_iff_ne.mpr c13
     have c13b1 : (t421 != 0) = true := bne_iff_ne.mpr c13
     obtain rfl := Option.some.inj H
     try go_wp2
     have n0_ := Aside0.mk (blk_drew BK417.out)
     have n1_ := Aside0.mk (blk_drew BK418.out)
     have n2_ := Aside0.mk (below_drew1 HB.out)
     clear BK417 BK418 HB
     have BK417 := n0_
     have BK418 := n1_
     have HB := n2_
     clear n0_ n1_ n2_
     refine start_ (n := 8) (S := fun w' => w'.cell? ⟨gb417, 0, none⟩ = some (.bool a0_0) ∧ w'.cell? ⟨gb417, 1, none⟩ = some (.slice A0_1 l0_1.length c0_1) ∧ w'.cell? ⟨gb418, 0, none⟩ = some (.bool a1_0) ∧ w'.cell? ⟨gb418, 1, none⟩ = some (.slice A1_1 l1_1.length c1_1)) (ds := []) #[fF, fF, fF, fF, fF, fF, fF, fF] kf rfl rfl ⟨(blk_cell BK417.out 0).trans rfl, (blk_cell BK417.out 1).trans rfl, (blk_cell BK418.out 0).trans rfl, (blk_cell BK418.out 1).trans rfl⟩ (fun hHeld => ?_); refine with_tabW impl_compareDigits.tab4 impl_compareDigits.bits4 (fun HT_ HW_ => ?_)
     generalize wr.drew = w17 at BK417 BK418 HB hHeld ⊢
     refine pq (i := 1) (N := some 20) #[fF, tT, fF, fF, fF, fF, fF, fF] rfl rfl HT_.out ?_
     refine pq (i := 4) (N := some 23) #[fF, tT, fF, fF, tT, fF, fF, fF] rfl rfl HT_.out ?_
     refine tq4 (i := 0) (N := some 19) #[tT, tT, fF, fF, tT, fF, fF, fF] rfl rfl HT_.out HW_.out hHeld ?_
     refine tq4 (i := 3) (N := some 22) #[tT, tT, fF, tT, tT, fF, fF, fF] rfl rfl HT_.out HW_.out hHeld ?_
     refine one_ (i := 2) (N := some 21) #[tT, tT, tT, tT, tT, fF, fF, fF] rfl rfl (one_of HT_.out kf) (by decide) (fun K hK => ?_)
     refine goes_ Try.func113 kf rfl #[.agg #[.bool a0_0, .slice A0_1 l0_1.length c0_1], .int .i64 x5_1] (by rfl) rfl rfl sm ?_
     with_reducible refine (impl_long_digit.calls a0_0 _ _ l0_1 x5_1 t419 _ ?side1 ?side2 A10.out).mono ?_
     (case side1 => exact cb HR0_1)
     (case side2 => exact HC0_1.out)
     rintro e w18 ⟨rfl, hb⟩
     refine ⟨_, rfl, ?_⟩
     have n0_ := bb BK417 hb
     have n1_ := bb BK418 hb
     have n2_ := Aside0.mk (below_step (bz2 GE417 GE418) hb)
     clear BK417 BK418 HB
     have BK417 := n0_
     have BK418 := n1_
     have HB := n2_
     clear n0_ n1_ n2_
     (try clear hb)
     (try clear hb2)
     (try clear hk)
     (try clear hi)
     refine hK.out _ _ ⟨(blk_cell BK417.out 0).trans rfl, (blk_cell BK417.out 1).trans rfl, (blk_cell BK418.out 0).trans rfl, (blk_cell BK418.out 1).trans rfl⟩ (fun hHeld => ?_)
     clear hK K
     refine norm_ (a' := ?_) ?_ ?_
     rotate_left
     ·show Act.put _ (some 21) _ = _
      simp only [Act.put, List.setIfInBounds_toArray, List.set_cons_zero, List.set_cons_succ, i64_w, i32_w]
      rfl
     refine one_ (i := 5) (N := some 24) #[tT, tT, tT, tT, tT, tT, fF, fF] rfl rfl (one_of HT_.out kf) (by decide) (fun K hK => ?_)
     refine goes_ Try.func113 kf rfl #[.agg #[.bool a1_0, .slice A1_1 l1_1.length c1_1], .int .i64 x5_1] (by rfl) rfl rfl sm ?_
     with_reducible refine (impl_long_digit.calls a1_0 _ _ l1_1 x5_1 t420 _ ?side1 ?side2 A11.out).mono ?_
     (case side1 => exact cb HR1_1)
     (case side2 => exact HC1_1.out)
     rintro e w19 ⟨rfl, hb⟩
     refine ⟨_, rfl, ?_⟩
     have n0_ := bb BK417 hb
     have n1_ := bb BK418 hb
     have n2_ := Aside0.mk (below_step (bz2 GE417 GE418) hb)
     clear BK417 BK418 HB
     have BK417 := n0_
     have BK418 := n1_
     have HB := n2_
     clear n0_ n1_ n2_
     (try clear hb)
     (try clear hb2)
     (try clear hk)
     (try clear hi)
     refine hK.out _ _ ⟨(blk_cell BK417.out 0).trans rfl, (blk_cell BK417.out 1).trans rfl, (blk_cell BK418.out 0).trans rfl, (blk_cell BK418.out 1).trans rfl⟩ (fun hHeld => ?_)
     clear hK K
     refine norm_ (a' := ?_) ?_ ?_
     rotate_left
     ·show Act.put _ (some 24) _ = _
      simp only [Act.put, List.setIfInBounds_toArray, List.set_cons_zero, List.set_cons_succ, i64_w, i32_w]
      rfl
     refine one_ (i := 6) (N := some 25) #[tT, tT, tT, tT, tT, tT, tT, fF] rfl rfl (one_of HT_.out kf) (by decide) (fun K hK => ?_)
     refine goes_ Try.func129 kf rfl #[.int .u32 t419, .int .u32 t420] (by rfl) rfl rfl sm ?_
     with_reducible refine (cmp_Compare_uint32.calls t419 t420 t421 _ A12.out).mono ?_
     rintro e w' ⟨rfl, ⟨nd, rfl⟩⟩
     refine ⟨_, rfl, ?_⟩
     refine hK.out _ _ ⟨(blk_cell BK417.out 0).trans rfl, (blk_cell BK417.out 1).trans rfl, (blk_cell BK418.out 0).trans rfl, (blk_cell BK418.out 1).trans rfl⟩ (fun hHeld => ?_)
     clear hK K
     refine norm_ (a' := ?_) ?_ ?_
     rotate_left
     ·show Act.put _ (some 25) _ = _
      simp only [Act.put, List.setIfInBounds_toArray, List.set_cons_zero, List.set_cons_succ, i64_w, i32_w]
      rfl
     refine pq (i := 7) (N := some 6) #[tT, tT, tT, tT, tT, tT, tT, tT] rfl rfl HT_.out ?_
     refine done_ (done_of HT_.out kf) ?_
     try go_wp2
     go_ret
     exact ⟨by first | rfl | (simp [errW_none, errW_some] <;> rfl) | (simp only [← hji3]; first | rfl | (simp [errW_none, errW_some] <;> rfl)) | (simp [*, errW_none, errW_some] <;> rfl), bz2 GE417 GE418⟩
   ·rw [if_neg c9] at H
    have c9b0 : decide (0 ≤ x5_1) = false := decide_eq_false c9
    clear c9
    obtain rfl := Option.some.inj H
    go_wp2
    go_ret
    exact ⟨by first | rfl | (simp [errW_none, errW_some] <;> rfl) | (simp only [← hji3]; first | rfl | (simp [errW_none, errW_some] <;> rfl)) | (simp [*, errW_none, errW_some] <;> rfl), bz2 GE417 GE418⟩
mutual
def impl_long_plus.j0 : Nat → Bool → List Int → Bool → List Int → Option (Bool × List Int)
 | 0, _, _, _, _ => none
 | k + 1, x423000, x423001, x424000, x424001 => impl_long_plus.l0 k 0 (wrap64 ((x423001.length : Int) + 1)) 0 x423000 x423001 x424000 x424001 x423000 ([] : List Int)
def impl_long_plus.l0 : Nat → Int → Int → Int → Bool → List Int → Bool → List Int → Bool → List Int → Option (Bool × List Int)
 | 0, _, _, _, _, _, _, _, _, _ => none
 | k + 1, x6, x21, x22, x423000, x423001, x424000, x424001, x427000, x427001 => if x22 < x21 then ((impl_long_digit.f x423000 x423001 x22).bind fun t427 => (if (x423000 == x424000) = true then ((impl_long_digit.f x424000 x424001 x22).bind fun t428 => (if x427001.length < 35184372088832 then (impl_long_plus.l0 k ((wrap64 ((wrap64 (x6 + (wrap64 (t427)))) + (wrap64 (t428)))) / 4294967296) x21 (wrap64 (x22 + 1)) x423000 x423001 x424000 x424001 x427000 (x427001 ++ [(wrap64 ((wrap64 (x6 + (wrap64 (t427)))) + (wrap64 (t428)))) % 4294967296])) else (none))) else ((impl_long_digit.f x424000 x424001 x22).bind fun t432 => (if x427001.length < 35184372088832 then (impl_long_plus.l0 k ((wrap64 ((wrap64 (x6 + (wrap64 (t427)))) - (wrap64 (t432)))) / 4294967296) x21 (wrap64 (x22 + 1)) x423000 x423001 x424000 x424001 x427000 (x427001 ++ [(wrap64 ((wrap64 (x6 + (wrap64 (t427)))) - (wrap64 (t432)))) % 4294967296])) else (none))))) else (some (x427000, x427001))
end
def impl_long_plus.f (k : Nat) (a0_0 : Bool) (l0_1 : List Int) (a1_0 : Bool) (l1_1 : List Int) : Option (Bool × List Int) := (impl_compareDigits.f k a0_0 l0_1 a1_0 l1_1).bind fun t425 => (if t425 < 0 then (impl_long_plus.j0 k a1_0 l1_1 a0_0 l0_1) else (impl_long_plus.j0 k a0_0 l0_1 a1_0 l1_1))
set_option maxHeartbeats 8000000 in
set_option maxRecDepth 100000 in
theorem impl_long_plus.calls (k : Nat) (a0_0 : Bool) (A0_1 : Option Addr) (c0_1 : Nat) (l0_1 : List Int) (a1_0 : Bool) (A1_1 : Option Addr) (c1_1 : Nat) (l1_1 : List Int) (r1 : Bool) (r2 : List Int) (w : World) (hr0_1 : Kd.C (Kd.int .u32) w A0_1 l0_1.length l0_1) (hc0_1 : l0_1.length ≤ c0_1) (hr1_1 : Kd.C (Kd.int .u32) w A1_1 l1_1.length l1_1) (hc1_1 : l1_1.length ≤ c1_1) (h : impl_long_plus.f k a0_0 l0_1 a1_0 l1_1 = some (r1, r2)) :
 Calls Try.prog 86 #[.agg #[.bool a0_0, .slice A0_1 l0_1.length c0_1], .agg #[.bool a1_0, .slice A1_1 l1_1.length c1_1]] w fun e w' => ∃ v1_ : Value, e = .returned (.agg #[.bool r1, v1_]) ∧ Kd.R (Kd.int .u32) 86 w' w.heap.size (fun _ => True) v1_ r2 ∧ Below w.heap.size w w' := by
 have hu69 := Try.underlying69
 have HR0_1 := Aside0.mk hr0_1
 have HC0_1 := Aside0.mk hc0_1
 clear hr0_1 hc0_1
 have HR1_1 := Aside0.mk hr1_1
 have HC1_1 := Aside0.mk hc1_1
 clear hr1_1 hc1_1
 have HB := Aside0.mk (Below.refl w.heap.size w)
 have H : ((impl_compareDigits.f k a0_0 l0_1 a1_0 l1_1).bind fun t425 => (if t425 < 0 then (impl_long_plus.j0 k a1_0 l1_1 a0_0 l0_1) else (impl_long_plus.j0 k a0_0 l0_1 a1_0 l1_1))) = some (r1, r2) := h
 clear h
 obtain ⟨t425, A3, H⟩ := bi H
 have HC4 := Aside0.mk H
 clear H
 go_enter Try.func86, Try.ntmps86
 go_upto_if 12 with (first | ((with_reducible refine gate_dst (N := 2) rfl ?_); refine bv (N := 2) (cs := #[.bool a0_0, .slice A0_1 l0_1.length c0_1]) (t := 69) ?_; intro gb422 hg w5 hbox hb; have n0_ := Aside0.mk (below_step bz hb); have n1_ := Aside0.mk (hbox); have n2_ := (gz hg : Aside0 (w.heap.size ≤ _)); have n3_ := (gz hg : Aside0 (w.heap.size ≤ _)); clear HB; have HB := n0_; have BK422 := n1_; have GW422 := n2_; have GE422 := n3_; clear n0_ n1_ n2_ n3_; clear hb hbox hg) | ((with_reducible refine gate_dst (N := 3) rfl ?_); refine bv (N := 3) (cs := #[.bool a1_0, .slice A1_1 l1_1.length c1_1]) (t := 69) ?_; intro gb423 hg w6 hbox hb; have n0_ := bb BK422 hb; have n1_ := Aside0.mk (below_step (bz1 GE422) hb); have n2_ := Aside0.mk (hbox); have n3_ := Aside0.mk ((by rw [hg]; exact (below_size (bz1 GE422)) : w.heap.size ≤ gb423)); have n4_ := Aside0.mk ((by rw [hg]; exact (below_size (bz1 GE422)) : w.heap.size ≤ gb423)); have n5_ := Aside0.mk ((by rw [hg]; exact Nat.ne_of_lt (blk_lt (g := gb422) (o := .cells #[.bool a0_0, .slice A0_1 l0_1.length c0_1] 69 (0, 0)) (bk BK422)) : gb422 ≠ gb423)); have n6_ := Aside0.mk ((by rw [hg]; exact Nat.ne_of_gt (blk_lt (g := gb422) (o := .cells #[.bool a0_0, .slice A0_1 l0_1.length c0_1] 69 (0, 0)) (bk BK422)) : gb423 ≠ gb422)); clear BK422; clear HB; have BK422 := n0_; have HB := n1_; have BK423 := n2_; have GW423 := n3_; have GE423 := n4_; have NB422_423 := n5_; have NB423_422 := n6_; clear n0_ n1_ n2_ n3_ n4_ n5_ n6_; clear hb hbox hg) | ((with_reducible refine gate_dst (N := 4) rfl ?_); refine bv (N := 4) (cs := #[.bool false, .slice none 0 0]) (t := 69) ?_; intro gb424 hg w7 hbox hb; have n0_ := bb BK422 hb; have n1_ := bb BK423 hb; have n2_ := Aside0.mk (below_step (bz2 GE422 GE423) hb); have n3_ := Aside0.mk (hbox); have n4_ := Aside0.mk ((by rw [hg]; exact (below_size (bz2 GE422 GE423)) : w.heap.size ≤ gb424)); have n5_ := Aside0.mk ((by rw [hg]; exact (below_size (bz2 GE422 GE423)) : w.heap.size ≤ gb424)); have n6_ := Aside0.mk ((by rw [hg]; exact Nat.ne_of_lt (blk_lt (g := gb422) (o := .cells #[.bool a0_0, .slice A0_1 l0_1.length c0_1] 69 (0, 0)) (bk BK422)) : gb422 ≠ gb424)); have n7_ := Aside0.mk ((by rw [hg]; exact Nat.ne_of_gt (blk_lt (g := gb422) (o := .cells #[.bool a0_0, .slice A0_1 l0_1.length c0_1] 69 (0, 0)) (bk BK422)) : gb424 ≠ gb422)); have n8_ := Aside0.mk ((by rw [hg]; exact Nat.ne_of_lt (blk_lt (g := gb423) (o := .cells #[.bool a1_0, .slice A1_1 l1_1.length c1_1] 69 (0, 0)) (bk BK423)) : gb423 ≠ gb424)); have n9_ := Aside0.mk ((by rw [hg]; exact Nat.ne_of_gt (blk_lt (g := gb423) (o := .cells #[.bool a1_0, .slice A1_1 l1_1.length c1_1] 69 (0, 0)) (bk BK423)) : gb424 ≠ gb423)); clear BK422; clear BK423; clear HB; have BK422 := n0_; have BK423 := n1_; have HB := n2_; have BK424 := n3_; have GW424 := n4_; have GE424 := n5_; have NB422_424 := n6_; have NB424_422 := n7_; have NB423_424 := n8_; have NB424_423 := n9_; clear n0_ n1_ n2_ n3_ n4_ n5_ n6_ n7_ n8_ n9_; clear hb hbox hg; have hnb8 := NB422_423.out; have hnc8 := NB423_422.out; have hnb9 := NB422_424.out; have hnc9 := NB424_422.out; have hcz10_0 : w7.cell? ⟨gb422, 0, none⟩ = some (.bool a0_0) := (blk_cell BK422.out 0).trans rfl; have hcz10_1 : w7.cell? ⟨gb422, 1, none⟩ = some (.slice A0_1 l0_1.length c0_1) := (blk_cell BK422.out 1).trans rfl; have hfz10_0 := blk_frozen BK422.out 0; have hfz10_1 := blk_frozen BK422.out 1; have hnb11 := NB423_424.out; have hnc11 := NB424_423.out; have hcz12_0 : w7.cell? ⟨gb423, 0, none⟩ = some (.bool a1_0) := (blk_cell BK423.out 0).trans rfl; have hcz12_1 : w7.cell? ⟨gb423, 1, none⟩ = some (.slice A1_1 l1_1.length c1_1) := (blk_cell BK423.out 1).trans rfl; have hfz12_0 := blk_frozen BK423.out 0; have hfz12_1 := blk_frozen BK423.out 1) | ((with_reducible refine gate_callee (f := 112) rfl ?_); refine goesL_ (some 11) rfl rfl Try.func112 kf rfl #[.agg #[.bool a0_0, .slice A0_1 l0_1.length c0_1], .agg #[.bool a1_0, .slice A1_1 l1_1.length c1_1]] rfl sm ?_; (with_reducible refine (impl_compareDigits.calls k a0_0 _ _ l0_1 a1_0 _ _ l1_1 t425 _ ?side1 ?side2 ?side3 ?side4 A3.out).mono ?_); (case side1 => exact cb HR0_1); (case side2 => exact HC0_1.out); (case side3 => exact cb HR1_1); (case side4 => exact HC1_1.out); rintro e w13 ⟨rfl, hb⟩; refine ⟨_, rfl, ?_⟩; have n0_ := bb BK422 hb; have n1_ := bb BK423 hb; have n2_ := bb BK424 hb; have n3_ := Aside0.mk (below_step (bz3 GE422 GE423 GE424) hb); clear BK422; clear BK423; clear BK424; clear HB; have BK422 := n0_; have BK423 := n1_; have BK424 := n2_; have HB := n3_; clear n0_ n1_ n2_ n3_; (try clear hb); (try clear hb2); (try clear hk); (try clear hi)))
 (try simp only [Act.put, List.setIfInBounds_toArray, List.set_cons_zero, List.set_cons_succ])
 go_cut [] (fun wc => ∃ (kq : Nat) (a0_0 : Bool) (A0_1 : Option Addr) (c0_1 : Nat) (l0_1 : List Int) (a1_0 : Bool) (A1_1 : Option Addr) (c1_1 : Nat) (l1_1 : List Int), Aside0 (Kd.C (Kd.int .u32) w A0_1 l0_1.length l0_1) ∧ Aside0 (l0_1.length ≤ c0_1) ∧ Aside0 (Kd.C (Kd.int .u32) w A1_1 l1_1.length l1_1) ∧ Aside0 (l1_1.length ≤ c1_1) ∧ Aside0 (impl_long_plus.j0 kq a0_0 l0_1 a1_0 l1_1 = some (r1, r2)) ∧ Aside0 (kq ≤ k) ∧ Aside0 (wc.heap[gb422]? = some (.cells #[.bool a0_0, (.slice A0_1 l0_1.length c0_1)] 69 (0, 0))) ∧ Aside0 (wc.heap[gb423]? = some (.cells #[.bool a1_0, (.slice A1_1 l1_1.length c1_1)] 69 (0, 0))) ∧ Aside0 (wc.heap[gb424]? = some (.cells #[.bool false, (.slice none 0 0)] 69 (0, 0))) ∧ Aside0 (Below w.heap.size w wc))
 case first =>
  have H := HC4.out
  clear HC4
  by_cases c14 : t425 < 0
  ·rw [if_pos c14] at H
   have c14b0 : decide (t425 < 0) = true := decide_eq_true c14
   clear c14
   (first | rw [c14b0] | (simp only [i64_w, i32_w]; rw [c14b0]) | skip)
   have H' := Aside0.mk H
   clear H
   have hnbS := NB422_423.out
   have hncS := NB423_422.out
   have hczS0_0 : w13.cell? ⟨gb422, 0, none⟩ = some (.bool a0_0) := (blk_cell BK422.out 0).trans rfl
   have hczS0_1 : w13.cell? ⟨gb422, 1, none⟩ = some (.slice A0_1 l0_1.length c0_1) := (blk_cell BK422.out 1).trans rfl
   have hfzS0_0 := blk_frozen BK422.out 0
   have hfzS0_1 := blk_frozen BK422.out 1
   have hczS1_0 : w13.cell? ⟨gb423, 0, none⟩ = some (.bool a1_0) := (blk_cell BK423.out 0).trans rfl
   have hczS1_1 : w13.cell? ⟨gb423, 1, none⟩ = some (.slice A1_1 l1_1.length c1_1) := (blk_cell BK423.out 1).trans rfl
   have hfzS1_0 := blk_frozen BK423.out 0
   have hfzS1_1 := blk_frozen BK423.out 1
   go_wp2
   go_meet
   case rel => exact ⟨_, a1_0, A1_1, c1_1, l1_1, a0_0, A0_1, c0_1, l0_1, HR1_1, HC1_1, HR0_1, HC0_1, H', ⟨by first | omega | exact Nat.le_refl _⟩, ⟨by (with_reducible repeat (first | refine blk_drewN ?_ _ | refine blk_drew ?_ | refine blk_alloc ?_ _)); refine blk_far ?_ NB422_423.out _; (with_reducible repeat (first | refine blk_drewN ?_ _ | refine blk_drew ?_ | refine blk_alloc ?_ _)); refine blk_far ?_ NB422_423.out _; (with_reducible repeat (first | refine blk_drewN ?_ _ | refine blk_drew ?_ | refine blk_alloc ?_ _)); refine blk_put (cs := #[.bool a1_0, .slice A0_1 l0_1.length c0_1]) ?_ 1 _ rfl; (with_reducible repeat (first | refine blk_drewN ?_ _ | refine blk_drew ?_ | refine blk_alloc ?_ _)); refine blk_put (cs := #[.bool a0_0, .slice A0_1 l0_1.length c0_1]) ?_ 0 _ rfl; (with_reducible repeat (first | refine blk_drewN ?_ _ | refine blk_drew ?_ | refine blk_alloc ?_ _)); exact BK422.out⟩, ⟨by (with_reducible repeat (first | refine blk_drewN ?_ _ | refine blk_drew ?_ | refine blk_alloc ?_ _)); refine blk_put (cs := #[.bool a0_0, .slice A1_1 l1_1.length c1_1]) ?_ 1 _ rfl; (with_reducible repeat (first | refine blk_drewN ?_ _ | refine blk_drew ?_ | refine blk_alloc ?_ _)); refine blk_put (cs := #[.bool a1_0, .slice A1_1 l1_1.length c1_1]) ?_ 0 _ rfl; (with_reducible repeat (first | refine blk_drewN ?_ _ | refine blk_drew ?_ | refine blk_alloc ?_ _)); refine blk_far ?_ NB423_422.out _; (with_reducible repeat (first | refine blk_drewN ?_ _ | refine blk_drew ?_ | refine blk_alloc ?_ _)); refine blk_far ?_ NB423_422.out _; (with_reducible repeat (first | refine blk_drewN ?_ _ | refine blk_drew ?_ | refine blk_alloc ?_ _)); exact BK423.out⟩, ⟨by (with_reducible repeat (first | refine blk_drewN ?_ _ | refine blk_drew ?_ | refine blk_alloc ?_ _)); refine blk_far ?_ NB424_423.out _; (with_reducible repeat (first | refine blk_drewN ?_ _ | refine blk_drew ?_ | refine blk_alloc ?_ _)); refine blk_far ?_ NB424_423.out _; (with_reducible repeat (first | refine blk_drewN ?_ _ | refine blk_drew ?_ | refine blk_alloc ?_ _)); refine blk_far ?_ NB424_422.out _; (with_reducible repeat (first | refine blk_drewN ?_ _ | refine blk_drew ?_ | refine blk_alloc ?_ _)); refine blk_far ?_ NB424_422.out _; (with_reducible repeat (first | refine blk_drewN ?_ _ | refine blk_drew ?_ | refine blk_alloc ?_ _)); exact BK424.out⟩, ⟨bz3 GE422 GE423 GE424⟩⟩
  ·rw [if_neg c14] at H
   have c14b0 : decide (t425 < 0) = false := decide_eq_false c14
   clear c14
   (first | rw [c14b0] | (simp only [i64_w, i32_w]; rw [c14b0]) | skip)
   have H' := Aside0.mk H
   clear H
   go_wp2
   go_meet
   case rel => exact ⟨_, a0_0, A0_1, c0_1, l0_1, a1_0, A1_1, c1_1, l1_1, HR0_1, HC0_1, HR1_1, HC1_1, H', ⟨by first | omega | exact Nat.le_refl _⟩, ⟨bk BK422⟩, ⟨bk BK423⟩, ⟨bk BK424⟩, ⟨bz3 GE422 GE423 GE424⟩⟩
 case rest =>
  clear HC4
  try clear c1; try clear p2; try clear c8; try clear c9; try clear c11; try clear c14; try clear c14b0; try clear hcz10_0; try clear hcz10_1; try clear hcz12_0; try clear hcz12_1; try clear hfz10_0; try clear hfz10_1; try clear hfz12_0; try clear hfz12_1
  clear HR0_1 HC0_1 HR1_1 HC1_1
  obtain ⟨kq, a0_0, A0_1, c0_1, l0_1, a1_0, A1_1, c1_1, l1_1, HR0_1, HC0_1, HR1_1, HC1_1, HA, HJ3, BK422, BK423, BK424, HB⟩ := hcut
  cases kq with
  | zero => exact absurd HA.out (by simp [impl_long_plus.j0])
  | succ kj3 =>
   have H := HA.out
   clear HA
   simp only [impl_long_plus.j0] at H
   have H' := Aside0.mk H
   clear H
   have hnb15 := NB422_423.out
   have hnc15 := NB423_422.out
   have hnb16 := NB422_424.out
   have hnc16 := NB424_422.out
   have hcz17_0 : wc.cell? ⟨gb422, 0, none⟩ = some (.bool a0_0) := (blk_cell BK422.out 0).trans rfl
   have hcz17_1 : wc.cell? ⟨gb422, 1, none⟩ = some (.slice A0_1 l0_1.length c0_1) := (blk_cell BK422.out 1).trans rfl
   have hfz17_0 := blk_frozen BK422.out 0
   have hfz17_1 := blk_frozen BK422.out 1
   go_wp2_with (first | ((with_reducible refine gate_dst (N := 5) rfl ?_); refine bv (N := 5) (cs := #[.bool false, .slice none 0 0]) (t := 69) ?_; intro gb426 hg w18 hbox hb; have n0_ := bb BK422 hb; have n1_ := bb BK423 hb; have n2_ := bb BK424 hb; have n3_ := Aside0.mk (below_step (bz3 GE422 GE423 GE424) hb); have n4_ := Aside0.mk (hbox); have n5_ := Aside0.mk ((by rw [hg]; exact (below_size (bz3 GE422 GE423 GE424)) : w.heap.size ≤ gb426)); have n6_ := Aside0.mk ((by rw [hg]; exact (below_size (bz3 GE422 GE423 GE424)) : w.heap.size ≤ gb426)); have n7_ := Aside0.mk ((by rw [hg]; exact Nat.ne_of_lt (blk_lt (g := gb422) (o := .cells #[.bool a0_0, .slice A0_1 l0_1.length c0_1] 69 (0, 0)) (bk BK422)) : gb422 ≠ gb426)); have n8_ := Aside0.mk ((by rw [hg]; exact Nat.ne_of_gt (blk_lt (g := gb422) (o := .cells #[.bool a0_0, .slice A0_1 l0_1.length c0_1] 69 (0, 0)) (bk BK422)) : gb426 ≠ gb422)); have n9_ := Aside0.mk ((by rw [hg]; exact Nat.ne_of_lt (blk_lt (g := gb423) (o := .cells #[.bool a1_0, .slice A1_1 l1_1.length c1_1] 69 (0, 0)) (bk BK423)) : gb423 ≠ gb426)); have n10_ := Aside0.mk ((by rw [hg]; exact Nat.ne_of_gt (blk_lt (g := gb423) (o := .cells #[.bool a1_0, .slice A1_1 l1_1.length c1_1] 69 (0, 0)) (bk BK423)) : gb426 ≠ gb423)); have n11_ := Aside0.mk ((by rw [hg]; exact Nat.ne_of_lt (blk_lt (g := gb424) (o := .cells #[.bool false, .slice none 0 0] 69 (0, 0)) (bk BK424)) : gb424 ≠ gb426)); have n12_ := Aside0.mk ((by rw [hg]; exact Nat.ne_of_gt (blk_lt (g := gb424) (o := .cells #[.bool false, .slice none 0 0] 69 (0, 0)) (bk BK424)) : gb426 ≠ gb424)); clear BK422; clear BK423; clear BK424; clear HB; have BK422 := n0_; have BK423 := n1_; have BK424 := n2_; have HB := n3_; have BK426 := n4_; have GW426 := n5_; have GE426 := n6_; have NB422_426 := n7_; have NB426_422 := n8_; have NB423_426 := n9_; have NB426_423 := n10_; have NB424_426 := n11_; have NB426_424 := n12_; clear n0_ n1_ n2_ n3_ n4_ n5_ n6_ n7_ n8_ n9_ n10_ n11_ n12_; clear hb hbox hg; have hnb19 := NB426_422.out; have hnc19 := NB422_426.out; have hnb20 := NB426_423.out; have hnc20 := NB423_426.out; have hnb21 := NB426_424.out; have hnc21 := NB424_426.out; have hcz22_0 : w18.cell? ⟨gb426, 0, none⟩ = some (.bool false) := (blk_cell BK426.out 0).trans rfl; have hcz22_1 : w18.cell? ⟨gb426, 1, none⟩ = some (.slice none 0 0) := (blk_cell BK426.out 1).trans rfl; have hfz22_0 := blk_frozen BK426.out 0; have hfz22_1 := blk_frozen BK426.out 1; have hcz23_0 : w18.cell? ⟨gb422, 0, none⟩ = some (.bool a0_0) := (blk_cell BK422.out 0).trans rfl; have hcz23_1 : w18.cell? ⟨gb422, 1, none⟩ = some (.slice A0_1 l0_1.length c0_1) := (blk_cell BK422.out 1).trans rfl; have hfz23_0 := blk_frozen BK422.out 0; have hfz23_1 := blk_frozen BK422.out 1))
   go_loopg [6, 22] kj3 (fun kq v6 v22 w' => ∃ (x6_2 : Int) (x22_2 : Int) (x427001_2 : List Int) (u427001 : Value), v6 = .int .i64 x6_2 ∧ v22 = .int .i64 x22_2 ∧ Aside0 (impl_long_plus.l0 kq x6_2 (wrap64 ((l0_1.length : Int) + 1)) x22_2 a0_0 l0_1 a1_0 l1_1 a0_0 x427001_2 = some (r1, r2)) ∧ Aside0 (kq ≤ kj3) ∧ Aside0 (Kd.R (Kd.int .u32) 86 w' w.heap.size (fun _ => True) u427001 x427001_2) ∧ Aside0 (w'.heap[gb422]? = some (.cells #[.bool a0_0, (.slice A0_1 l0_1.length c0_1)] 69 (0, 0))) ∧ Aside0 (w'.heap[gb423]? = some (.cells #[.bool a1_0, (.slice A1_1 l1_1.length c1_1)] 69 (0, 0))) ∧ Aside0 (w'.heap[gb424]? = some (.cells #[.bool false, (.slice none 0 0)] 69 (0, 0))) ∧ Aside0 (w'.heap[gb426]? = some (.cells #[.bool a0_0, u427001] 69 (0, 0))) ∧ Aside0 (Below w.heap.size w w'))
   case atStart => exact ⟨(0), (0), (([] : List Int)), (.slice none 0 0), sr, sr, H', ⟨Nat.le_refl _⟩, ⟨by first | exact Kd.R_nil _ _ _ _ _ | exact Kd.N_nil _ _ _ _ _ | exact Kd.V_nil _ _ _ _ _ | exact Kd.Q_nil _ _ _ _ _ | exact Kd.S_nil _ _ _ _ _⟩, ⟨by (with_reducible repeat (first | refine blk_drewN ?_ _ | refine blk_drew ?_ | refine blk_alloc ?_ _)); refine blk_far ?_ NB422_426.out _; (with_reducible repeat (first | refine blk_drewN ?_ _ | refine blk_drew ?_ | refine blk_alloc ?_ _)); refine blk_far ?_ NB422_426.out _; (with_reducible repeat (first | refine blk_drewN ?_ _ | refine blk_drew ?_ | refine blk_alloc ?_ _)); exact BK422.out⟩, ⟨by (with_reducible repeat (first | refine blk_drewN ?_ _ | refine blk_drew ?_ | refine blk_alloc ?_ _)); refine blk_far ?_ NB423_426.out _; (with_reducible repeat (first | refine blk_drewN ?_ _ | refine blk_drew ?_ | refine blk_alloc ?_ _)); refine blk_far ?_ NB423_426.out _; (with_reducible repeat (first | refine blk_drewN ?_ _ | refine blk_drew ?_ | refine blk_alloc ?_ _)); exact BK423.out⟩, ⟨by (with_reducible repeat (first | refine blk_drewN ?_ _ | refine blk_drew ?_ | refine blk_alloc ?_ _)); refine blk_far ?_ NB424_426.out _; (with_reducible repeat (first | refine blk_drewN ?_ _ | refine blk_drew ?_ | refine blk_alloc ?_ _)); refine blk_far ?_ NB424_426.out _; (with_reducible repeat (first | refine blk_drewN ?_ _ | refine blk_drew ?_ | refine blk_alloc ?_ _)); exact BK424.out⟩, ⟨by (with_reducible repeat (first | refine blk_drewN ?_ _ | refine blk_drew ?_ | refine blk_alloc ?_ _)); refine blk_put (cs := #[.bool a0_0, .slice none 0 0]) ?_ 1 _ rfl; (with_reducible repeat (first | refine blk_drewN ?_ _ | refine blk_drew ?_ | refine blk_alloc ?_ _)); refine blk_put (cs := #[.bool false, .slice none 0 0]) ?_ 0 _ rfl; (with_reducible repeat (first | refine blk_drewN ?_ _ | refine blk_drew ?_ | refine blk_alloc ?_ _)); exact BK426.out⟩, ⟨bz4 GE422 GE423 GE424 GE426⟩⟩
   case round =>
    clear H'
    try clear c1; try clear c2; try clear p2; try clear p6; try clear c8; try clear c9; try clear c11; try clear c14; try clear c14b0; try clear c15; try clear c16; try clear c19; try clear c20; try clear c21; try clear hcz10_0; try clear hcz10_1; try clear hcz12_0; try clear hcz12_1; try clear hcz17_0; try clear hcz17_1; try clear hcz22_0; try clear hcz22_1; try clear hcz23_0; try clear hcz23_1; try clear hfz10_0; try clear hfz10_1; try clear hfz12_0; try clear hfz12_1; try clear hfz17_0; try clear hfz17_1; try clear hfz22_0; try clear hfz22_1; try clear hfz23_0; try clear hfz23_1; try clear p2
    obtain ⟨x6_2, x22_2, x427001_2, u427001, rfl, rfl, HA, HK2, HO_427001, BK422, BK423, BK424, BK426, HB⟩ := hrel
    cases gk with
    | zero => exact absurd HA.out (by simp [impl_long_plus.l0])
    | succ k2 =>
     have H := HA.out
     clear HA
     simp only [impl_long_plus.l0] at H
     by_cases c24 : x22_2 < (wrap64 ((l0_1.length : Int) + 1))
     ·rw [if_pos c24] at H
      have c24b0 : decide (x22_2 < (wrap64 ((l0_1.length : Int) + 1))) = true := decide_eq_true c24
      (try (have c24b0w : decide (x22_2 < (IntKind.i64.wrap ((l0_1.length : Int) + 1))) = true := by simp only [i64_w]; exact c24b0))
      clear c24
      obtain ⟨t427, A25, H⟩ := bi H
      by_cases c26 : (a0_0 == a1_0) = true
      ·rw [if_pos c26] at H
       have c26b0 : (a0_0 == a1_0) = true := c26
       (try (have c26b1 : decide (a0_0 = a1_0) = true := by simpa using c26))
       (try (have c26b2 : (a0_0 == a1_0) = true := by simpa using c26))
       clear c26
       obtain ⟨t428, A27, H⟩ := bi H
       by_cases c28 : x427001_2.length < 35184372088832
       ·rw [if_pos c28] at H
        have LMc28 := Aside0.mk c28
        clear c28
        obtain ⟨y429, hy429⟩ : ∃ y_ : List Int, y_ = (x427001_2 ++ [(wrap64 ((wrap64 (x6_2 + (wrap64 (t427)))) + (wrap64 (t428)))) % 4294967296]) := ⟨_, rfl⟩
        replace H : (impl_long_plus.l0 k2 ((wrap64 ((wrap64 (x6_2 + (wrap64 (t427)))) + (wrap64 (t428)))) / 4294967296) (wrap64 ((l0_1.length : Int) + 1)) (wrap64 (x22_2 + 1)) a0_0 l0_1 a1_0 l1_1 a0_0 y429) = some (r1, r2) := by first | (rw [hy429]; with_reducible exact H) | (have H2_ := (Option.bind_some _ _).symm.trans H; rw [hy429]; with_reducible exact H2_) | (have H2_ := (Option.bind_some _ _).symm.trans H; with_reducible exact H2_) | with_reducible exact H | (rw [hy429]; exact H) | exact H
        have Ny429 := Aside0.mk hy429
        clear hy429
        have H' := Aside0.mk H
        clear H
        have hnb29 := NB422_423.out
        have hnc29 := NB423_422.out
        have hnb30 := NB422_424.out
        have hnc30 := NB424_422.out
        have hnb31 := NB422_426.out
        have hnc31 := NB426_422.out
        have hcz32_0 : wr.cell? ⟨gb422, 0, none⟩ = some (.bool a0_0) := (blk_cell BK422.out 0).trans rfl
        have hcz32_1 : wr.cell? ⟨gb422, 1, none⟩ = some (.slice A0_1 l0_1.length c0_1) := (blk_cell BK422.out 1).trans rfl
        have hfz32_0 := blk_frozen BK422.out 0
        have hfz32_1 := blk_frozen BK422.out 1
        go_wp2_with (first | ((with_reducible refine gate_callee (f := 113) rfl ?_); refine goesL_ (some 28) rfl rfl Try.func113 kf rfl #[.agg #[.bool a0_0, .slice A0_1 l0_1.length c0_1], .int .i64 x22_2] rfl sm ?_; (with_reducible refine (impl_long_digit.calls a0_0 _ _ l0_1 x22_2 t427 _ ?side1 ?side2 A25.out).mono ?_); (case side1 => exact cb HR0_1); (case side2 => exact HC0_1.out); rintro e w33 ⟨rfl, hb⟩; refine ⟨_, rfl, ?_⟩; have n0_ := Aside0.mk (Kd.R_below (kr HO_427001) hb); have n1_ := bb BK422 hb; have n2_ := bb BK423 hb; have n3_ := bb BK424 hb; have n4_ := bb BK426 hb; have n5_ := Aside0.mk (below_step (bz4 GE422 GE423 GE424 GE426) hb); clear HO_427001; clear BK422; clear BK423; clear BK424; clear BK426; clear HB; have HO_427001 := n0_; have BK422 := n1_; have BK423 := n2_; have BK424 := n3_; have BK426 := n4_; have HB := n5_; clear n0_ n1_ n2_ n3_ n4_ n5_; (try clear hb); (try clear hb2); (try clear hk); (try clear hi); have hcz34_0 : w33.cell? ⟨gb422, 0, none⟩ = some (.bool a0_0) := (blk_cell BK422.out 0).trans rfl; have hcz34_1 : w33.cell? ⟨gb422, 1, none⟩ = some (.slice A0_1 l0_1.length c0_1) := (blk_cell BK422.out 1).trans rfl; have hfz34_0 := blk_frozen BK422.out 0; have hfz34_1 := blk_frozen BK422.out 1; have hnb35 := NB423_424.out; have hnc35 := NB424_423.out; have hnb36 := NB423_426.out; have hnc36 := NB426_423.out; have hcz37_0 : w33.cell? ⟨gb423, 0, none⟩ = some (.bool a1_0) := (blk_cell BK423.out 0).trans rfl; have hcz37_1 : w33.cell? ⟨gb423, 1, none⟩ = some (.slice A1_1 l1_1.length c1_1) := (blk_cell BK423.out 1).trans rfl; have hfz37_0 := blk_frozen BK423.out 0; have hfz37_1 := blk_frozen BK423.out 1) | ((with_reducible refine gate_callee (f := 113) rfl ?_); refine goesL_ (some 39) rfl rfl Try.func113 kf rfl #[.agg #[.bool a1_0, .slice A1_1 l1_1.length c1_1], .int .i64 x22_2] rfl sm ?_; (with_reducible refine (impl_long_digit.calls a1_0 _ _ l1_1 x22_2 t428 _ ?side1 ?side2 A27.out).mono ?_); (case side1 => exact cb HR1_1); (case side2 => exact HC1_1.out); rintro e w38 ⟨rfl, hb⟩; refine ⟨_, rfl, ?_⟩; have n0_ := Aside0.mk (Kd.R_below (kr HO_427001) hb); have n1_ := bb BK422 hb; have n2_ := bb BK423 hb; have n3_ := bb BK424 hb; have n4_ := bb BK426 hb; have n5_ := Aside0.mk (below_step (bz4 GE422 GE423 GE424 GE426) hb); clear HO_427001; clear BK422; clear BK423; clear BK424; clear BK426; clear HB; have HO_427001 := n0_; have BK422 := n1_; have BK423 := n2_; have BK424 := n3_; have BK426 := n4_; have HB := n5_; clear n0_ n1_ n2_ n3_ n4_ n5_; (try clear hb); (try clear hb2); (try clear hk); (try clear hi); have hnb39 := NB426_424.out; have hnc39 := NB424_426.out; have hcz40_0 : w38.cell? ⟨gb426, 0, none⟩ = some (.bool a0_0) := (blk_cell BK426.out 0).trans rfl; have hcz40_1 : w38.cell? ⟨gb426, 1, none⟩ = some (u427001) := (blk_cell BK426.out 1).trans rfl; have hfz40_0 := blk_frozen BK426.out 0; have hfz40_1 := blk_frozen BK426.out 1) | ((with_reducible refine gate_builtin (b := .append) (xs := #[.tmp 49, .tmp 52]) rfl ?_); at_builtin; refine Kd.R_append (Kd.int .u32) (w0 := w) w.heap.size rfl (.tmp 49) (.tmp 52) 67 86 (.int .u32 0) 4 rfl Try.underlying67 info86 rfl (by decide) (by omega) u427001 x427001_2 ((wrap64 ((wrap64 (x6_2 + (wrap64 (t427)))) + (wrap64 (t428)))) % 4294967296) [.int .u32 ((wrap64 ((wrap64 (x6_2 + (wrap64 (t427)))) + (wrap64 (t428)))) % 4294967296)] (fun _ => True) (fun _ => False) rfl rfl ?aP (fun _ hk => hk.elim) ?aF ?aO ?aB ?aS ?aL ?_; (case aP => exact rfl); (case aB => exact (bz4 GE422 GE423 GE424 GE426)); (case aF => exact (fun _ _ => trivial)); (case aO => exact (kr HO_427001)); (case aS => exact (below_size (bz4 GE422 GE423 GE424 GE426))); (case aL => have := LMc28.out; omega); intro v430 w41 ho hb hg hat; rw [← Ny429.out] at ho; have n0_ := Aside0.mk (blk_grown (g := gb422) (o := .cells #[.bool a0_0, .slice A0_1 l0_1.length c0_1] 69 (0, 0)) (bk BK422) hg (Kd.R_ne HO_427001.out BK422.out (by decide))); have n1_ := Aside0.mk (blk_grown (g := gb423) (o := .cells #[.bool a1_0, .slice A1_1 l1_1.length c1_1] 69 (0, 0)) (bk BK423) hg (Kd.R_ne HO_427001.out BK423.out (by decide))); have n2_ := Aside0.mk (blk_grown (g := gb424) (o := .cells #[.bool false, .slice none 0 0] 69 (0, 0)) (bk BK424) hg (Kd.R_ne HO_427001.out BK424.out (by decide))); have n3_ := Aside0.mk (blk_grown (g := gb426) (o := .cells #[.bool a0_0, u427001] 69 (0, 0)) (bk BK426) hg (Kd.R_ne HO_427001.out BK426.out (by decide))); have n4_ := Aside0.mk (hb); have n5_ := Aside0.mk (ho); clear BK422; clear BK423; clear BK424; clear BK426; clear HB; clear HO_427001; have BK422 := n0_; have BK423 := n1_; have BK424 := n2_; have BK426 := n3_; have HB := n4_; have HO431 := n5_; clear n0_ n1_ n2_ n3_ n4_ n5_; clear ho hb hg hat; obtain ⟨Ao42, co42, eo42⟩ := Kd.R_slice HO431.out; subst eo42; have hcz43_0 : w41.cell? ⟨gb426, 0, none⟩ = some (.bool a0_0) := (blk_cell BK426.out 0).trans rfl; have hcz43_1 : w41.cell? ⟨gb426, 1, none⟩ = some (u427001) := (blk_cell BK426.out 1).trans rfl; have hfz43_0 := blk_frozen BK426.out 0; have hfz43_1 := blk_frozen BK426.out 1))
        go_roundg k2
        case measure => have := HJ3.out; have := HK2.out; omega
        case rel => exact ⟨((wrap64 ((wrap64 (x6_2 + (wrap64 (t427)))) + (wrap64 (t428)))) / 4294967296), (wrap64 (x22_2 + 1)), (y429), (.slice Ao42 y429.length co42), sr, sr, H', ⟨by have := HJ3.out; have := HK2.out; omega⟩, ⟨by (with_reducible repeat (first | apply Kd.R_alloc | apply Kd.R_drewN | apply Kd.R_drew)); exact Kd.R_mono (Kd.R_far (p := ⟨gb426, 1, none⟩) (Kd.R_types HO431.out BK426.out (by decide)) (fun _ hk => hk.2) (.slice Ao42 y429.length co42)) (fun _ hk => trivial)⟩, ⟨by (with_reducible repeat (first | refine blk_drewN ?_ _ | refine blk_drew ?_ | refine blk_alloc ?_ _)); refine blk_far ?_ NB422_426.out _; (with_reducible repeat (first | refine blk_drewN ?_ _ | refine blk_drew ?_ | refine blk_alloc ?_ _)); exact BK422.out⟩, ⟨by (with_reducible repeat (first | refine blk_drewN ?_ _ | refine blk_drew ?_ | refine blk_alloc ?_ _)); refine blk_far ?_ NB423_426.out _; (with_reducible repeat (first | refine blk_drewN ?_ _ | refine blk_drew ?_ | refine blk_alloc ?_ _)); exact BK423.out⟩, ⟨by (with_reducible repeat (first | refine blk_drewN ?_ _ | refine blk_drew ?_ | refine blk_alloc ?_ _)); refine blk_far ?_ NB424_426.out _; (with_reducible repeat (first | refine blk_drewN ?_ _ | refine blk_drew ?_ | refine blk_alloc ?_ _)); exact BK424.out⟩, ⟨by (with_reducible repeat (first | refine blk_drewN ?_ _ | refine blk_drew ?_ | refine blk_alloc ?_ _)); refine blk_put (cs := #[.bool a0_0, u427001]) ?_ 1 _ rfl; (with_reducible repeat (first | refine blk_drewN ?_ _ | refine blk_drew ?_ | refine blk_alloc ?_ _)); exact BK426.out⟩, ⟨bz4 GE422 GE423 GE424 GE426⟩⟩
       ·rw [if_neg c28] at H
        exact absurd H (by simp)
      ·rw [if_neg c26] at H
       have c26b0 : (a0_0 == a1_0) = false := by simpa using c26
       (try (have c26b1 : decide (a0_0 = a1_0) = false := by simpa using c26))
       (try (have c26b2 : (a0_0 == a1_0) = false := by simpa using c26))
       (try (have c26b3 : ¬ (a0_0 = a1_0) := by simpa using c26))
       clear c26
       obtain ⟨t432, A44, H⟩ := bi H
       by_cases c45 : x427001_2.length < 35184372088832
       ·rw [if_pos c45] at H
        have LMc45 := Aside0.mk c45
        clear c45
        obtain ⟨y433, hy433⟩ : ∃ y_ : List Int, y_ = (x427001_2 ++ [(wrap64 ((wrap64 (x6_2 + (wrap64 (t427)))) - (wrap64 (t432)))) % 4294967296]) := ⟨_, rfl⟩
        replace H : (impl_long_plus.l0 k2 ((wrap64 ((wrap64 (x6_2 + (wrap64 (t427)))) - (wrap64 (t432)))) / 4294967296) (wrap64 ((l0_1.length : Int) + 1)) (wrap64 (x22_2 + 1)) a0_0 l0_1 a1_0 l1_1 a0_0 y433) = some (r1, r2) := by first | (rw [hy433]; with_reducible exact H) | (have H2_ := (Option.bind_some _ _).symm.trans H; rw [hy433]; with_reducible exact H2_) | (have H2_ := (Option.bind_some _ _).symm.trans H; with_reducible exact H2_) | with_reducible exact H | (rw [hy433]; exact H) | exact H
        have Ny433 := Aside0.mk hy433
        clear hy433
        have H' := Aside0.mk H
        clear H
        have hnb46 := NB422_423.out
        have hnc46 := NB423_422.out
        have hnb47 := NB422_424.out
        have hnc47 := NB424_422.out
        have hnb48 := NB422_426.out
        have hnc48 := NB426_422.out
        have hcz49_0 : wr.cell? ⟨gb422, 0, none⟩ = some (.bool a0_0) := (blk_cell BK422.out 0).trans rfl
        have hcz49_1 : wr.cell? ⟨gb422, 1, none⟩ = some (.slice A0_1 l0_1.length c0_1) := (blk_cell BK422.out 1).trans rfl
        have hfz49_0 := blk_frozen BK422.out 0
        have hfz49_1 := blk_frozen BK422.out 1
        go_wp2_with (first | ((with_reducible refine gate_callee (f := 113) rfl ?_); refine goesL_ (some 28) rfl rfl Try.func113 kf rfl #[.agg #[.bool a0_0, .slice A0_1 l0_1.length c0_1], .int .i64 x22_2] rfl sm ?_; (with_reducible refine (impl_long_digit.calls a0_0 _ _ l0_1 x22_2 t427 _ ?side1 ?side2 A25.out).mono ?_); (case side1 => exact cb HR0_1); (case side2 => exact HC0_1.out); rintro e w50 ⟨rfl, hb⟩; refine ⟨_, rfl, ?_⟩; have n0_ := Aside0.mk (Kd.R_below (kr HO_427001) hb); have n1_ := bb BK422 hb; have n2_ := bb BK423 hb; have n3_ := bb BK424 hb; have n4_ := bb BK426 hb; have n5_ := Aside0.mk (below_step (bz4 GE422 GE423 GE424 GE426) hb); clear HO_427001; clear BK422; clear BK423; clear BK424; clear BK426; clear HB; have HO_427001 := n0_; have BK422 := n1_; have BK423 := n2_; have BK424 := n3_; have BK426 := n4_; have HB := n5_; clear n0_ n1_ n2_ n3_ n4_ n5_; (try clear hb); (try clear hb2); (try clear hk); (try clear hi); have hcz51_0 : w50.cell? ⟨gb422, 0, none⟩ = some (.bool a0_0) := (blk_cell BK422.out 0).trans rfl; have hcz51_1 : w50.cell? ⟨gb422, 1, none⟩ = some (.slice A0_1 l0_1.length c0_1) := (blk_cell BK422.out 1).trans rfl; have hfz51_0 := blk_frozen BK422.out 0; have hfz51_1 := blk_frozen BK422.out 1; have hnb52 := NB423_424.out; have hnc52 := NB424_423.out; have hnb53 := NB423_426.out; have hnc53 := NB426_423.out; have hcz54_0 : w50.cell? ⟨gb423, 0, none⟩ = some (.bool a1_0) := (blk_cell BK423.out 0).trans rfl; have hcz54_1 : w50.cell? ⟨gb423, 1, none⟩ = some (.slice A1_1 l1_1.length c1_1) := (blk_cell BK423.out 1).trans rfl; have hfz54_0 := blk_frozen BK423.out 0; have hfz54_1 := blk_frozen BK423.out 1) | ((with_reducible refine gate_callee (f := 113) rfl ?_); refine goesL_ (some 45) rfl rfl Try.func113 kf rfl #[.agg #[.bool a1_0, .slice A1_1 l1_1.length c1_1], .int .i64 x22_2] rfl sm ?_; (with_reducible refine (impl_long_digit.calls a1_0 _ _ l1_1 x22_2 t432 _ ?side1 ?side2 A44.out).mono ?_); (case side1 => exact cb HR1_1); (case side2 => exact HC1_1.out); rintro e w55 ⟨rfl, hb⟩; refine ⟨_, rfl, ?_⟩; have n0_ := Aside0.mk (Kd.R_below (kr HO_427001) hb); have n1_ := bb BK422 hb; have n2_ := bb BK423 hb; have n3_ := bb BK424 hb; have n4_ := bb BK426 hb; have n5_ := Aside0.mk (below_step (bz4 GE422 GE423 GE424 GE426) hb); clear HO_427001; clear BK422; clear BK423; clear BK424; clear BK426; clear HB; have HO_427001 := n0_; have BK422 := n1_; have BK423 := n2_; have BK424 := n3_; have BK426 := n4_; have HB := n5_; clear n0_ n1_ n2_ n3_ n4_ n5_; (try clear hb); (try clear hb2); (try clear hk); (try clear hi); have hnb56 := NB426_424.out; have hnc56 := NB424_426.out; have hcz57_0 : w55.cell? ⟨gb426, 0, none⟩ = some (.bool a0_0) := (blk_cell BK426.out 0).trans rfl; have hcz57_1 : w55.cell? ⟨gb426, 1, none⟩ = some (u427001) := (blk_cell BK426.out 1).trans rfl; have hfz57_0 := blk_frozen BK426.out 0; have hfz57_1 := blk_frozen BK426.out 1) | ((with_reducible refine gate_builtin (b := .append) (xs := #[.tmp 49, .tmp 52]) rfl ?_); at_builtin; refine Kd.R_append (Kd.int .u32) (w0 := w) w.heap.size rfl (.tmp 49) (.tmp 52) 67 86 (.int .u32 0) 4 rfl Try.underlying67 info86 rfl (by decide) (by omega) u427001 x427001_2 ((wrap64 ((wrap64 (x6_2 + (wrap64 (t427)))) - (wrap64 (t432)))) % 4294967296) [.int .u32 ((wrap64 ((wrap64 (x6_2 + (wrap64 (t427)))) - (wrap64 (t432)))) % 4294967296)] (fun _ => True) (fun _ => False) rfl rfl ?aP (fun _ hk => hk.elim) ?aF ?aO ?aB ?aS ?aL ?_; (case aP => exact rfl); (case aB => exact (bz4 GE422 GE423 GE424 GE426)); (case aF => exact (fun _ _ => trivial)); (case aO => exact (kr HO_427001)); (case aS => exact (below_size (bz4 GE422 GE423 GE424 GE426))); (case aL => have := LMc45.out; omega); intro v434 w58 ho hb hg hat; rw [← Ny433.out] at ho; have n0_ := Aside0.mk (blk_grown (g := gb422) (o := .cells #[.bool a0_0, .slice A0_1 l0_1.length c0_1] 69 (0, 0)) (bk BK422) hg (Kd.R_ne HO_427001.out BK422.out (by decide))); have n1_ := Aside0.mk (blk_grown (g := gb423) (o := .cells #[.bool a1_0, .slice A1_1 l1_1.length c1_1] 69 (0, 0)) (bk BK423) hg (Kd.R_ne HO_427001.out BK423.out (by decide))); have n2_ := Aside0.mk (blk_grown (g := gb424) (o := .cells #[.bool false, .slice none 0 0] 69 (0, 0)) (bk BK424) hg (Kd.R_ne HO_427001.out BK424.out (by decide))); have n3_ := Aside0.mk (blk_grown (g := gb426) (o := .cells #[.bool a0_0, u427001] 69 (0, 0)) (bk BK426) hg (Kd.R_ne HO_427001.out BK426.out (by decide))); have n4_ := Aside0.mk (hb); have n5_ := Aside0.mk (ho); clear BK422; clear BK423; clear BK424; clear BK426; clear HB; clear HO_427001; have BK422 := n0_; have BK423 := n1_; have BK424 := n2_; have BK426 := n3_; have HB := n4_; have HO435 := n5_; clear n0_ n1_ n2_ n3_ n4_ n5_; clear ho hb hg hat; obtain ⟨Ao59, co59, eo59⟩ := Kd.R_slice HO435.out; subst eo59; have hcz60_0 : w58.cell? ⟨gb426, 0, none⟩ = some (.bool a0_0) := (blk_cell BK426.out 0).trans rfl; have hcz60_1 : w58.cell? ⟨gb426, 1, none⟩ = some (u427001) := (blk_cell BK426.out 1).trans rfl; have hfz60_0 := blk_frozen BK426.out 0; have hfz60_1 := blk_frozen BK426.out 1))
        go_roundg k2
        case measure => have := HJ3.out; have := HK2.out; omega
        case rel => exact ⟨((wrap64 ((wrap64 (x6_2 + (wrap64 (t427)))) - (wrap64 (t432)))) / 4294967296), (wrap64 (x22_2 + 1)), (y433), (.slice Ao59 y433.length co59), sr, sr, H', ⟨by have := HJ3.out; have := HK2.out; omega⟩, ⟨by (with_reducible repeat (first | apply Kd.R_alloc | apply Kd.R_drewN | apply Kd.R_drew)); exact Kd.R_mono (Kd.R_far (p := ⟨gb426, 1, none⟩) (Kd.R_types HO435.out BK426.out (by decide)) (fun _ hk => hk.2) (.slice Ao59 y433.length co59)) (fun _ hk => trivial)⟩, ⟨by (with_reducible repeat (first | refine blk_drewN ?_ _ | refine blk_drew ?_ | refine blk_alloc ?_ _)); refine blk_far ?_ NB422_426.out _; (with_reducible repeat (first | refine blk_drewN ?_ _ | refine blk_drew ?_ | refine blk_alloc ?_ _)); exact BK422.out⟩, ⟨by (with_reducible repeat (first | refine blk_drewN ?_ _ | refine blk_drew ?_ | refine blk_alloc ?_ _)); refine blk_far ?_ NB423_426.out _; (with_reducible repeat (first | refine blk_drewN ?_ _ | refine blk_drew ?_ | refine blk_alloc ?_ _)); exact BK423.out⟩, ⟨by (with_reducible repeat (first | refine blk_drewN ?_ _ | refine blk_drew ?_ | refine blk_alloc ?_ _)); refine blk_far ?_ NB424_426.out _; (with_reducible repeat (first | refine blk_drewN ?_ _ | refine blk_drew ?_ | refine blk_alloc ?_ _)); exact BK424.out⟩, ⟨by (with_reducible repeat (first | refine blk_drewN ?_ _ | refine blk_drew ?_ | refine blk_alloc ?_ _)); refine blk_put (cs := #[.bool a0_0, u427001]) ?_ 1 _ rfl; (with_reducible repeat (first | refine blk_drewN ?_ _ | refine blk_drew ?_ | refine blk_alloc ?_ _)); exact BK426.out⟩, ⟨bz4 GE422 GE423 GE424 GE426⟩⟩
       ·rw [if_neg c45] at H
        exact absurd H (by simp)
     ·rw [if_neg c24] at H
      have c24b0 : decide (x22_2 < (wrap64 ((l0_1.length : Int) + 1))) = false := decide_eq_false c24
      (try (have c24b0w : decide (x22_2 < (IntKind.i64.wrap ((l0_1.length : Int) + 1))) = false := by simp only [i64_w]; exact c24b0))
      clear c24
      simp only [Option.some.injEq, Prod.mk.injEq] at H
      obtain ⟨rfl, rfl⟩ := H
      have hnb61 := NB426_422.out
      have hnc61 := NB422_426.out
      have hnb62 := NB426_423.out
      have hnc62 := NB423_426.out
      have hnb63 := NB426_424.out
      have hnc63 := NB424_426.out
      have hcz64_0 : wr.cell? ⟨gb426, 0, none⟩ = some (.bool a0_0) := (blk_cell BK426.out 0).trans rfl
      have hcz64_1 : wr.cell? ⟨gb426, 1, none⟩ = some (u427001) := (blk_cell BK426.out 1).trans rfl
      have hfz64_0 := blk_frozen BK426.out 0
      have hfz64_1 := blk_frozen BK426.out 1
      have hnb65 := NB424_422.out
      have hnc65 := NB422_424.out
      have hnb66 := NB424_423.out
      have hnc66 := NB423_424.out
      have hcz67_0 : wr.cell? ⟨gb424, 0, none⟩ = some (.bool false) := (blk_cell BK424.out 0).trans rfl
      have hcz67_1 : wr.cell? ⟨gb424, 1, none⟩ = some (.slice none 0 0) := (blk_cell BK424.out 1).trans rfl
      have hfz67_0 := blk_frozen BK424.out 0
      have hfz67_1 := blk_frozen BK424.out 1
      obtain ⟨Ao68, co68, eo68⟩ := Kd.R_slice HO_427001.out
      subst eo68
      go_wp2
      refine bodyPost_ret (results_cell_row rfl _ _ gb424 69 #[.bool a0_0, .slice Ao68 x427001_2.length co68] (0, 0) _ rfl (by (with_reducible repeat (first | refine blk_drewN ?_ _ | refine blk_drew ?_ | refine blk_alloc ?_ _)); refine blk_put (cs := #[.bool a0_0, .slice none 0 0]) ?_ 1 _ rfl; (with_reducible repeat (first | refine blk_drewN ?_ _ | refine blk_drew ?_ | refine blk_alloc ?_ _)); refine blk_put (cs := #[.bool false, .slice none 0 0]) ?_ 0 _ rfl; (with_reducible repeat (first | refine blk_drewN ?_ _ | refine blk_drew ?_ | refine blk_alloc ?_ _)); exact BK424.out) Try.underlying69 rfl kf) rfl ?_
      exact ⟨_, er, by (with_reducible repeat (first | apply Kd.R_alloc | apply Kd.R_drewN | apply Kd.R_drew)); exact Kd.R_mono (Kd.R_far (p := ⟨gb424, 1, none⟩) (Kd.R_far (p := ⟨gb424, 0, none⟩) (Kd.R_types HO_427001.out BK424.out (by decide)) (fun _ hk => hk.2) (.bool a0_0)) (fun _ hk => hk.2) (.slice Ao68 x427001_2.length co68)) (fun _ hk => trivial), bz4 GE422 GE423 GE424 GE426⟩
def impl_longOf.f (a0 : Int) (a1 : Int) : Option (Bool × List Int) := (impl_size.f a0).bind fun t437 => (if 0 ≤ (Int.tmod a1 32) then (if (Int.tmod a1 32) > 0 then ((impl_size.f a0).bind fun t438 => (if 0 ≤ (wrap64 (64 - (Int.tmod a1 32))) then (if 0 ≤ (wrap64 (Int.tdiv a1 32)) then (if (wrap64 (Int.tdiv a1 32) : Int).toNat ≤ 70368744177664 then ((some (List.replicate (wrap64 (Int.tdiv a1 32) : Int).toNat 0 : List Int)).bind fun y439 => ((some (([(shl .u64 t437 (Int.tmod a1 32)) % 4294967296, ((shl .u64 t437 (Int.tmod a1 32)) / 4294967296) % 4294967296, (shr .u64 t438 (wrap64 (64 - (Int.tmod a1 32)))) % 4294967296] : List Int) : List Int)).bind fun y442 => (if y439.length + y442.length < 35184372088832 then (some (decide (a0 < 0), (y439 ++ y442))) else (none)))) else (none)) else (none)) else (none))) else (if 0 ≤ (wrap64 (Int.tdiv a1 32)) then (if (wrap64 (Int.tdiv a1 32) : Int).toNat ≤ 70368744177664 then ((some (List.replicate (wrap64 (Int.tdiv a1 32) : Int).toNat 0 : List Int)).bind fun y448 => ((some (([(shl .u64 t437 (Int.tmod a1 32)) % 4294967296, ((shl .u64 t437 (Int.tmod a1 32)) / 4294967296) % 4294967296, 0] : List Int) : List Int)).bind fun y451 => (if y448.length + y451.length < 35184372088832 then (some (decide (a0 < 0), (y448 ++ y451))) else (none)))) else (none)) else (none))) else (none))
set_option maxHeartbeats 8000000 in
set_option maxRecDepth 100000 in
theorem impl_longOf.calls (a0 : Int) (a1 : Int) (r1 : Bool) (r2 : List Int) (w : World) (h : impl_longOf.f a0 a1 = some (r1, r2)) :
 Calls Try.prog 87 #[.int .i64 a0, .int .i64 a1] w fun e w' => ∃ v1_ : Value, e = .returned (.agg #[.bool r1, v1_]) ∧ Kd.R (Kd.int .u32) 86 w' w.heap.size (fun _ => True) v1_ r2 ∧ Below w.heap.size w w' := by
 have hu69 := Try.underlying69
 have HB := Aside0.mk (Below.refl w.heap.size w)
 have H : ((impl_size.f a0).bind fun t437 => (if 0 ≤ (Int.tmod a1 32) then (if (Int.tmod a1 32) > 0 then ((impl_size.f a0).bind fun t438 => (if 0 ≤ (wrap64 (64 - (Int.tmod a1 32))) then (if 0 ≤ (wrap64 (Int.tdiv a1 32)) then (if (wrap64 (Int.tdiv a1 32) : Int).toNat ≤ 70368744177664 then ((some (List.replicate (wrap64 (Int.tdiv a1 32) : Int).toNat 0 : List Int)).bind fun y439 => ((some (([(shl .u64 t437 (Int.tmod a1 32)) % 4294967296, ((shl .u64 t437 (Int.tmod a1 32)) / 4294967296) % 4294967296, (shr .u64 t438 (wrap64 (64 - (Int.tmod a1 32)))) % 4294967296] : List Int) : List Int)).bind fun y442 => (if y439.length + y442.length < 35184372088832 then (some (decide (a0 < 0), (y439 ++ y442))) else (none)))) else (none)) else (none)) else (none))) else (if 0 ≤ (wrap64 (Int.tdiv a1 32)) then (if (wrap64 (Int.tdiv a1 32) : Int).toNat ≤ 70368744177664 then ((some (List.replicate (wrap64 (Int.tdiv a1 32) : Int).toNat 0 : List Int)).bind fun y448 => ((some (([(shl .u64 t437 (Int.tmod a1 32)) % 4294967296, ((shl .u64 t437 (Int.tmod a1 32)) / 4294967296) % 4294967296, 0] : List Int) : List Int)).bind fun y451 => (if y448.length + y451.length < 35184372088832 then (some (decide (a0 < 0), (y448 ++ y451))) else (none)))) else (none)) else (none))) else (none))) = some (r1, r2) := h
 clear h
 obtain ⟨t437, A3, H⟩ := bi H
 obtain ⟨ji4, hji4⟩ : ∃ j_ : Int, (Int.tmod a1 32) = j_ := ⟨_, rfl⟩
 first | rw [hji4] at H | simp only [hji4] at H
 (try rw [hji4] at A3)
 by_cases c5 : 0 ≤ (ji4)
 ·rw [if_pos c5] at H
  have c5b0 := eq_true c5
  have c5b1 : decide (0 ≤ (ji4)) = true := decide_eq_true c5
  clear c5
  obtain ⟨ji6, hji6⟩ : ∃ j_ : Int, (shl .u64 t437 (ji4)) = j_ := ⟨_, rfl⟩
  first | rw [hji6] at H | simp only [hji6] at H
  (try rw [hji6] at A3)
  have hji6_ : (IntKind.u64.wrap (t437 * 2 ^ min (ji4).toNat 64)) = ji6 := hji6
  have hji6z : (ji4) ≤ 64 → (IntKind.u64.wrap (t437 * 2 ^ (ji4).toNat)) = ji6 := shl_small hji6
  by_cases c7 : (ji4) > 0
  ·rw [if_pos c7] at H
   have c7b0 : decide (0 < (ji4)) = true := decide_eq_true c7
   clear c7
   obtain ⟨t438, A8, H⟩ := bi H
   obtain ⟨ji9, hji9⟩ : ∃ j_ : Int, (wrap64 (64 - (ji4))) = j_ := ⟨_, rfl⟩
   first | rw [hji9] at H | simp only [hji9] at H
   (try rw [hji9] at A3)
   (try rw [hji9] at A8)
   have hji9w : (IntKind.i64.wrap (64 - (ji4))) = ji9 := (i64_w _).trans hji9
   by_cases c10 : 0 ≤ (ji9)
   ·rw [if_pos c10] at H
    have c10b0 := eq_true c10
    have c10b1 : decide (0 ≤ (ji9)) = true := decide_eq_true c10
    clear c10
    obtain ⟨ji11, hji11⟩ : ∃ j_ : Int, (shr .u64 t438 (ji9)) = j_ := ⟨_, rfl⟩
    first | rw [hji11] at H | simp only [hji11] at H
    (try rw [hji11] at A3)
    (try rw [hji11] at A8)
    have hji11_ : (t438 / 2 ^ min (ji9).toNat 64) = ji11 := hji11
    have hji11z : (ji9) ≤ 64 → (t438 / 2 ^ (ji9).toNat) = ji11 := shr_small hji11
    obtain ⟨ji12, hji12⟩ : ∃ j_ : Int, (wrap64 (Int.tdiv a1 32)) = j_ := ⟨_, rfl⟩
    first | rw [hji12] at H | simp only [hji12] at H
    (try rw [hji12] at A3)
    (try rw [hji12] at A8)
    have hji12w : (IntKind.i64.wrap (Int.tdiv a1 32)) = ji12 := (i64_w _).trans hji12
    by_cases c13 : 0 ≤ (ji12)
    ·rw [if_pos c13] at H
     have c13b0 := eq_true c13
     have c13b1 : decide (0 ≤ (ji12)) = true := decide_eq_true c13
     clear c13
     by_cases c14 : (ji12 : Int).toNat ≤ 70368744177664
     ·rw [if_pos c14] at H
      have c14b0 := eq_true c14
      have c14b1 : decide ((ji12 : Int).toNat ≤ 70368744177664) = true := decide_eq_true c14
      clear c14
      obtain ⟨y439, hy439⟩ : ∃ y_ : List Int, y_ = (List.replicate (ji12 : Int).toNat 0) := ⟨_, rfl⟩
      replace H : ((some (([(ji6) % 4294967296, ((ji6) / 4294967296) % 4294967296, (ji11) % 4294967296] : List Int) : List Int)).bind fun y442 => (if y439.length + y442.length < 35184372088832 then (some (decide (a0 < 0), (y439 ++ y442))) else (none))) = some (r1, r2) := by first | (rw [hy439]; with_reducible exact H) | (have H2_ := (Option.bind_some _ _).symm.trans H; rw [hy439]; with_reducible exact H2_) | (have H2_ := (Option.bind_some _ _).symm.trans H; with_reducible exact H2_) | with_reducible exact H | (rw [hy439]; exact H) | exact H
      have Ny439 := Aside0.mk hy439
      clear hy439
      obtain ⟨y442, hy442⟩ : ∃ y_ : List Int, y_ = (([(ji6) % 4294967296, ((ji6) / 4294967296) % 4294967296, (ji11) % 4294967296] : List Int)) := ⟨_, rfl⟩
      replace H : (if y439.length + y442.length < 35184372088832 then (some (decide (a0 < 0), (y439 ++ y442))) else (none)) = some (r1, r2) := by first | (rw [hy442]; with_reducible exact H) | (have H2_ := (Option.bind_some _ _).symm.trans H; rw [hy442]; with_reducible exact H2_) | (have H2_ := (Option.bind_some _ _).symm.trans H; with_reducible exact H2_) | with_reducible exact H | (rw [hy442]; exact H) | exact H
      have Ny442 := Aside0.mk hy442
      clear hy442
      by_cases c15 : y439.length + y442.length < 35184372088832
      ·rw [if_pos c15] at H
       have LMc15 := Aside0.mk c15
       clear c15
       obtain ⟨y445, hy445⟩ : ∃ y_ : List Int, y_ = (y439 ++ y442) := ⟨_, rfl⟩
       replace H : (some (decide (a0 < 0), y445)) = some (r1, r2) := by first | (rw [hy445]; with_reducible exact H) | (have H2_ := (Option.bind_some _ _).symm.trans H; rw [hy445]; with_reducible exact H2_) | (have H2_ := (Option.bind_some _ _).symm.trans H; with_reducible exact H2_) | with_reducible exact H | (rw [hy445]; exact H) | exact H
       have Ny445 := Aside0.mk hy445
       clear hy445
       simp only [Option.some.injEq, Prod.mk.injEq] at H
       obtain ⟨rfl, rfl⟩ := H
       go_enter Try.func87, Try.ntmps87
       go_wp2_with (first | ((with_reducible refine gate_dst (N := 4) rfl ?_); refine bv (N := 4) (cs := #[.bool false, .slice none 0 0]) (t := 69) ?_; intro gb436 hg w16 hbox hb; have n0_ := Aside0.mk (below_step bz hb); have n1_ := Aside0.mk (hbox); have n2_ := (gz hg : Aside0 (w.heap.size ≤ _)); have n3_ := (gz hg : Aside0 (w.heap.size ≤ _)); clear HB; have HB := n0_; have BK436 := n1_; have GW436 := n2_; have GE436 := n3_; clear n0_ n1_ n2_ n3_; clear hb hbox hg) | ((with_reducible refine gate_callee (f := 111) rfl ?_); refine goesL_ (some 9) rfl rfl Try.func111 kf rfl #[.int .i64 a0] rfl sm ?_; (with_reducible refine (impl_size.calls a0 t437 _ A3.out).mono ?_); rintro e w' ⟨rfl, ⟨nd, rfl⟩⟩; refine ⟨_, rfl, ?_⟩; (try (rw [drewN_self w16]; generalize hq_ : World.drewN w16 _ = w16; have n0_ : Aside0 (w16.heap[gb436]? = some (.cells #[.bool false, .slice none 0 0] 69 (0, 0))) := ⟨by rw [← hq_]; exact (bk BK436)⟩; have n1_ : Aside0 (Below w.heap.size w w16) := ⟨by rw [← hq_]; exact (bz1 GE436)⟩; clear BK436 HB hq_; have BK436 := n0_; have HB := n1_; clear n0_ n1_))) | ((with_reducible refine gate_callee (f := 111) rfl ?_); refine goesL_ (some 17) rfl rfl Try.func111 kf rfl #[.int .i64 a0] rfl sm ?_; (with_reducible refine (impl_size.calls a0 t438 _ A8.out).mono ?_); rintro e w' ⟨rfl, ⟨nd, rfl⟩⟩; refine ⟨_, rfl, ?_⟩; (try (rw [drewN_self w16]; generalize hq_ : World.drewN w16 _ = w16; have n0_ : Aside0 (w16.heap[gb436]? = some (.cells #[.bool false, .slice none 0 0] 69 (0, 0))) := ⟨by rw [← hq_]; exact (bk BK436)⟩; have n1_ : Aside0 (Below w.heap.size w w16) := ⟨by rw [← hq_]; exact (bz1 GE436)⟩; clear BK436 HB hq_; have BK436 := n0_; have HB := n1_; clear n0_ n1_))) | ((with_reducible refine gate_dst (N := 24) rfl ?_); refine Kd.R_make (Kd.int .u32) _ 86 rfl (N := 24) rfl 67 _ _ rfl ji12 rfl rfl Try.underlying67 (.int .u32 0) 4 info86 rfl (by decide) (by omega) 0 (ok := fun _ => True) (okp := fun _ => True) rfl (fun _ hk => hk) trivial (of_decide_eq_true am) (Nat.le_trans (Nat.mul_le_mul_right _ (of_decide_eq_true am : ji12.toNat ≤ 70368744177664)) (by omega)) (Below.refl _ _) (Nat.le_refl _) ?_; intro v440 w17 ho18 hb hg_ hnew_; clear hg_ hnew_; (first | rw [← Ny439.out] at ho18 | (simp only [Int.reduceToNat] at ho18; rw [← Ny439.out] at ho18)); have n0_ := Aside0.mk (Kd.R_lower ho18 (below_size (bz1 GE436))); have n1_ := bb BK436 hb; have n2_ := Aside0.mk (below_step (bz1 GE436) hb); clear BK436; clear HB; have HO441 := n0_; have BK436 := n1_; have HB := n2_; clear n0_ n1_ n2_; clear hb ho18) | ((with_reducible refine gate_dst (N := 35) rfl ?_); refine Kd.R_lit (Kd.int .u32) _ 86 ?hg (N := 35) ?hd (xs := ([(ji6) % 4294967296, ((ji6) / 4294967296) % 4294967296, (ji11) % 4294967296] : List Int)) (inner := [.int .u32 ((ji6) % 4294967296), .int .u32 (((ji6) / 4294967296) % 4294967296), .int .u32 ((ji11) % 4294967296)]) (ok := fun _ => True) (okp := fun _ => True) ?hr ?hp (fun _ hk => hk) trivial (Below.refl _ _) (Nat.le_refl _) (by simp) ?_; (case hd => rfl); (case hg => rfl); (case hr => first | (go_simp; done) | (go_simp; rfl)); (case hp => exact (Reps.one (show Kd.M (Kd.int .u32) _ _ _ ((ji6) % 4294967296) [.int .u32 ((ji6) % 4294967296)] from rfl) (Reps.one (show Kd.M (Kd.int .u32) _ _ _ (((ji6) / 4294967296) % 4294967296) [.int .u32 (((ji6) / 4294967296) % 4294967296)] from rfl) (Reps.one (show Kd.M (Kd.int .u32) _ _ _ ((ji11) % 4294967296) [.int .u32 ((ji11) % 4294967296)] from rfl) (Reps.none _ _))))); intro v443 w19 ho20 hb hg_ hnew_; clear hg_ hnew_; (first | rw [← Ny442.out] at ho20 | (simp only [Int.reduceToNat] at ho20; rw [← Ny442.out] at ho20)); have n0_ := Aside0.mk (Kd.R_elder' (kr HO441) (Kd.R_base ho20) hb); have n1_ := Aside0.mk (Kd.R_lower (Kd.R_new' ho20 (Kd.R_lt (kr HO441))) (below_size (bz1 GE436))); have n2_ := bb BK436 hb; have n3_ := Aside0.mk (below_step (bz1 GE436) hb); clear HO441; clear BK436; clear HB; have HO441 := n0_; have HO444 := n1_; have BK436 := n2_; have HB := n3_; clear n0_ n1_ n2_ n3_; clear hb ho20; obtain ⟨Ao22, co22, eo22⟩ := Kd.R_slice HO444.out; subst eo22) | ((with_reducible refine gate_builtin (b := .append) (xs := #[.tmp 27, .tmp 35]) rfl ?_); at_builtin; refine Kd.R_append_rows (Kd.int .u32) (w0 := w) w.heap.size rfl (.tmp 27) (.tmp 35) 67 86 (.int .u32 0) 4 rfl Try.underlying67 info86 rfl (by decide) (by omega) v440 y439 y442 _ _ _ (fun k_ => some k_ ≠ (.slice Ao22 y442.length co22 : Value).ownBlock) (fun _ => False) rfl rfl ?aO ?aR (fun _ _ h => h) (fun _ h => h.elim) ?aF ?aB ?aS ?aL ?_; (case aR => repeat (first | exact (Kd.R_reads' HO444.out).2.2 | (with_reducible refine Kd.C_alloc ?_ _) | (with_reducible refine Kd.C_drewN ?_ _) | (with_reducible refine Kd.C_drew ?_))); (case aB => exact (bz1 GE436)); (case aF => exact (fun k_ hk => Kd.fresh' (Kd.R_lt (kr HO444)) k_ hk)); (case aO => exact (by (with_reducible repeat (first | apply Kd.R_alloc | apply Kd.R_drewN | apply Kd.R_drew)); exact Kd.R_mono HO441.out (fun _ hk => hk.2))); (case aS => exact (below_size (bz1 GE436))); (case aL => have := LMc15.out; omega); intro v446 w21 ho hb hg hat; rw [← Ny445.out] at ho; have n0_ := Aside0.mk (blk_grown (g := gb436) (o := .cells #[.bool false, .slice none 0 0] 69 (0, 0)) (bk BK436) hg (Kd.R_ne HO441.out BK436.out (by decide))); have n1_ := Aside0.mk (Kd.R_after (ok := (fun _ => True)) (kr HO444) hg hat); have n2_ := Aside0.mk (hb); have n3_ := Aside0.mk (ho); clear BK436; clear HO444; clear HB; clear HO441; have BK436 := n0_; have HO444 := n1_; have HB := n2_; have HO447 := n3_; clear n0_ n1_ n2_ n3_; clear ho hb hg hat; obtain ⟨Ao23, co23, eo23⟩ := Kd.R_slice HO447.out; subst eo23; have hcz24_0 : w21.cell? ⟨gb436, 0, none⟩ = some (.bool false) := (blk_cell BK436.out 0).trans rfl; have hcz24_1 : w21.cell? ⟨gb436, 1, none⟩ = some (.slice none 0 0) := (blk_cell BK436.out 1).trans rfl; have hfz24_0 := blk_frozen BK436.out 0; have hfz24_1 := blk_frozen BK436.out 1))
       refine bodyPost_ret (results_cell_row rfl _ _ gb436 69 #[.bool (decide (a0 < 0)), .slice Ao23 y445.length co23] (0, 0) _ rfl (by (with_reducible repeat (first | refine blk_drewN ?_ _ | refine blk_drew ?_ | refine blk_alloc ?_ _)); refine blk_put (cs := #[.bool (decide (a0 < 0)), .slice none 0 0]) ?_ 1 _ rfl; (with_reducible repeat (first | refine blk_drewN ?_ _ | refine blk_drew ?_ | refine blk_alloc ?_ _)); refine blk_put (cs := #[.bool false, .slice none 0 0]) ?_ 0 _ rfl; (with_reducible repeat (first | refine blk_drewN ?_ _ | refine blk_drew ?_ | refine blk_alloc ?_ _)); exact BK436.out) Try.underlying69 rfl kf) rfl ?_
       exact ⟨_, by first | rfl | (simp [errW_none, errW_some] <;> rfl) | (simp only [← hji4, ← hji6, ← hji9, ← hji11, ← hji12]; first | rfl | (simp [errW_none, errW_some] <;> rfl)) | (simp [*, errW_none, errW_some] <;> rfl), by (with_reducible repeat (first | apply Kd.R_alloc | apply Kd.R_drewN | apply Kd.R_drew)); exact Kd.R_mono (Kd.R_far (p := ⟨gb436, 1, none⟩) (Kd.R_far (p := ⟨gb436, 0, none⟩) (Kd.R_types HO447.out BK436.out (by decide)) (fun _ hk => hk.2) (.bool (decide (a0 < 0)))) (fun _ hk => hk.2) (.slice Ao23 y445.length co23)) (fun _ hk => trivial), bz1 GE436⟩
      ·rw [if_neg c15] at H
       exact absurd H (by simp)
     ·rw [if_neg c14] at H
      exact absurd H (by simp)
    ·rw [if_neg c13] at H
     exact absurd H (by simp)
   ·rw [if_neg c10] at H
    exact absurd H (by simp)
  ·rw [if_neg c7] at H
   have c7b0 : decide (0 < (ji4)) = false := decide_eq_false c7
   clear c7
   obtain ⟨ji25, hji25⟩ : ∃ j_ : Int, (wrap64 (Int.tdiv a1 32)) = j_ := ⟨_, rfl⟩
   first | rw [hji25] at H | simp only [hji25] at H
   (try rw [hji25] at A3)
   have hji25w : (IntKind.i64.wrap (Int.tdiv a1 32)) = ji25 := (i64_w _).trans hji25
   by_cases c26 : 0 ≤ (ji25)
   ·rw [if_pos c26] at H
    have c26b0 := eq_true c26
    have c26b1 : decide (0 ≤ (ji25)) = true := decide_eq_true c26
    clear c26
    by_cases c27 : (ji25 : Int).toNat ≤ 70368744177664
    ·rw [if_pos c27] at H
     have c27b0 := eq_true c27
     have c27b1 : decide ((ji25 : Int).toNat ≤ 70368744177664) = true := decide_eq_true c27
     clear c27
     obtain ⟨y448, hy448⟩ : ∃ y_ : List Int, y_ = (List.replicate (ji25 : Int).toNat 0) := ⟨_, rfl⟩
     replace H : ((some (([(ji6) % 4294967296, ((ji6) / 4294967296) % 4294967296, 0] : List Int) : List Int)).bind fun y451 => (if y448.length + y451.length < 35184372088832 then (some (decide (a0 < 0), (y448 ++ y451))) else (none))) = some (r1, r2) := by first | (rw [hy448]; with_reducible exact H) | (have H2_ := (Option.bind_some _ _).symm.trans H; rw [hy448]; with_reducible exact H2_) | (have H2_ := (Option.bind_some _ _).symm.trans H; with_reducible exact H2_) | with_reducible exact H | (rw [hy448]; exact H) | exact H
     have Ny448 := Aside0.mk hy448
     clear hy448
     obtain ⟨y451, hy451⟩ : ∃ y_ : List Int, y_ = (([(ji6) % 4294967296, ((ji6) / 4294967296) % 4294967296, 0] : List Int)) := ⟨_, rfl⟩
     replace H : (if y448.length + y451.length < 35184372088832 then (some (decide (a0 < 0), (y448 ++ y451))) else (none)) = some (r1, r2) := by first | (rw [hy451]; with_reducible exact H) | (have H2_ := (Option.bind_some _ _).symm.trans H; rw [hy451]; with_reducible exact H2_) | (have H2_ := (Option.bind_some _ _).symm.trans H; with_reducible exact H2_) | with_reducible exact H | (rw [hy451]; exact H) | exact H
     have Ny451 := Aside0.mk hy451
     clear hy451
     by_cases c28 : y448.length + y451.length < 35184372088832
     ·rw [if_pos c28] at H
      have LMc28 := Aside0.mk c28
      clear c28
      obtain ⟨y454, hy454⟩ : ∃ y_ : List Int, y_ = (y448 ++ y451) := ⟨_, rfl⟩
      replace H : (some (decide (a0 < 0), y454)) = some (r1, r2) := by first | (rw [hy454]; with_reducible exact H) | (have H2_ := (Option.bind_some _ _).symm.trans H; rw [hy454]; with_reducible exact H2_) | (have H2_ := (Option.bind_some _ _).symm.trans H; with_reducible exact H2_) | with_reducible exact H | (rw [hy454]; exact H) | exact H
      have Ny454 := Aside0.mk hy454
      clear hy454
      simp only [Option.some.injEq, Prod.mk.injEq] at H
      obtain ⟨rfl, rfl⟩ := H
      go_enter Try.func87, Try.ntmps87
      go_wp2_with (first | ((with_reducible refine gate_dst (N := 4) rfl ?_); refine bv (N := 4) (cs := #[.bool false, .slice none 0 0]) (t := 69) ?_; intro gb436 hg w29 hbox hb; have n0_ := Aside0.mk (below_step bz hb); have n1_ := Aside0.mk (hbox); have n2_ := (gz hg : Aside0 (w.heap.size ≤ _)); have n3_ := (gz hg : Aside0 (w.heap.size ≤ _)); clear HB; have HB := n0_; have BK436 := n1_; have GW436 := n2_; have GE436 := n3_; clear n0_ n1_ n2_ n3_; clear hb hbox hg) | ((with_reducible refine gate_callee (f := 111) rfl ?_); refine goesL_ (some 9) rfl rfl Try.func111 kf rfl #[.int .i64 a0] rfl sm ?_; (with_reducible refine (impl_size.calls a0 t437 _ A3.out).mono ?_); rintro e w' ⟨rfl, ⟨nd, rfl⟩⟩; refine ⟨_, rfl, ?_⟩; (try (rw [drewN_self w29]; generalize hq_ : World.drewN w29 _ = w29; have n0_ : Aside0 (w29.heap[gb436]? = some (.cells #[.bool false, .slice none 0 0] 69 (0, 0))) := ⟨by rw [← hq_]; exact (bk BK436)⟩; have n1_ : Aside0 (Below w.heap.size w w29) := ⟨by rw [← hq_]; exact (bz1 GE436)⟩; clear BK436 HB hq_; have BK436 := n0_; have HB := n1_; clear n0_ n1_))) | ((with_reducible refine gate_dst (N := 24) rfl ?_); refine Kd.R_make (Kd.int .u32) _ 86 rfl (N := 24) rfl 67 _ _ rfl ji25 rfl rfl Try.underlying67 (.int .u32 0) 4 info86 rfl (by decide) (by omega) 0 (ok := fun _ => True) (okp := fun _ => True) rfl (fun _ hk => hk) trivial (of_decide_eq_true am) (Nat.le_trans (Nat.mul_le_mul_right _ (of_decide_eq_true am : ji25.toNat ≤ 70368744177664)) (by omega)) (Below.refl _ _) (Nat.le_refl _) ?_; intro v449 w30 ho31 hb hg_ hnew_; clear hg_ hnew_; (first | rw [← Ny448.out] at ho31 | (simp only [Int.reduceToNat] at ho31; rw [← Ny448.out] at ho31)); have n0_ := Aside0.mk (Kd.R_lower ho31 (below_size (bz1 GE436))); have n1_ := bb BK436 hb; have n2_ := Aside0.mk (below_step (bz1 GE436) hb); clear BK436; clear HB; have HO450 := n0_; have BK436 := n1_; have HB := n2_; clear n0_ n1_ n2_; clear hb ho31) | ((with_reducible refine gate_dst (N := 35) rfl ?_); refine Kd.R_lit (Kd.int .u32) _ 86 ?hg (N := 35) ?hd (xs := ([(ji6) % 4294967296, ((ji6) / 4294967296) % 4294967296, 0] : List Int)) (inner := [.int .u32 ((ji6) % 4294967296), .int .u32 (((ji6) / 4294967296) % 4294967296), .int .u32 0]) (ok := fun _ => True) (okp := fun _ => True) ?hr ?hp (fun _ hk => hk) trivial (Below.refl _ _) (Nat.le_refl _) (by simp) ?_; (case hd => rfl); (case hg => rfl); (case hr => first | (go_simp; done) | (go_simp; rfl)); (case hp => exact (Reps.one (show Kd.M (Kd.int .u32) _ _ _ ((ji6) % 4294967296) [.int .u32 ((ji6) % 4294967296)] from rfl) (Reps.one (show Kd.M (Kd.int .u32) _ _ _ (((ji6) / 4294967296) % 4294967296) [.int .u32 (((ji6) / 4294967296) % 4294967296)] from rfl) (Reps.one (show Kd.M (Kd.int .u32) _ _ _ 0 [.int .u32 0] from rfl) (Reps.none _ _))))); intro v452 w32 ho33 hb hg_ hnew_; clear hg_ hnew_; (first | rw [← Ny451.out] at ho33 | (simp only [Int.reduceToNat] at ho33; rw [← Ny451.out] at ho33)); have n0_ := Aside0.mk (Kd.R_elder' (kr HO450) (Kd.R_base ho33) hb); have n1_ := Aside0.mk (Kd.R_lower (Kd.R_new' ho33 (Kd.R_lt (kr HO450))) (below_size (bz1 GE436))); have n2_ := bb BK436 hb; have n3_ := Aside0.mk (below_step (bz1 GE436) hb); clear HO450; clear BK436; clear HB; have HO450 := n0_; have HO453 := n1_; have BK436 := n2_; have HB := n3_; clear n0_ n1_ n2_ n3_; clear hb ho33; obtain ⟨Ao35, co35, eo35⟩ := Kd.R_slice HO453.out; subst eo35) | ((with_reducible refine gate_builtin (b := .append) (xs := #[.tmp 27, .tmp 35]) rfl ?_); at_builtin; refine Kd.R_append_rows (Kd.int .u32) (w0 := w) w.heap.size rfl (.tmp 27) (.tmp 35) 67 86 (.int .u32 0) 4 rfl Try.underlying67 info86 rfl (by decide) (by omega) v449 y448 y451 _ _ _ (fun k_ => some k_ ≠ (.slice Ao35 y451.length co35 : Value).ownBlock) (fun _ => False) rfl rfl ?aO ?aR (fun _ _ h => h) (fun _ h => h.elim) ?aF ?aB ?aS ?aL ?_; (case aR => repeat (first | exact (Kd.R_reads' HO453.out).2.2 | (with_reducible refine Kd.C_alloc ?_ _) | (with_reducible refine Kd.C_drewN ?_ _) | (with_reducible refine Kd.C_drew ?_))); (case aB => exact (bz1 GE436)); (case aF => exact (fun k_ hk => Kd.fresh' (Kd.R_lt (kr HO453)) k_ hk)); (case aO => exact (by (with_reducible repeat (first | apply Kd.R_alloc | apply Kd.R_drewN | apply Kd.R_drew)); exact Kd.R_mono HO450.out (fun _ hk => hk.2))); (case aS => exact (below_size (bz1 GE436))); (case aL => have := LMc28.out; omega); intro v455 w34 ho hb hg hat; rw [← Ny454.out] at ho; have n0_ := Aside0.mk (blk_grown (g := gb436) (o := .cells #[.bool false, .slice none 0 0] 69 (0, 0)) (bk BK436) hg (Kd.R_ne HO450.out BK436.out (by decide))); have n1_ := Aside0.mk (Kd.R_after (ok := (fun _ => True)) (kr HO453) hg hat); have n2_ := Aside0.mk (hb); have n3_ := Aside0.mk (ho); clear BK436; clear HO453; clear HB; clear HO450; have BK436 := n0_; have HO453 := n1_; have HB := n2_; have HO456 := n3_; clear n0_ n1_ n2_ n3_; clear ho hb hg hat; obtain ⟨Ao36, co36, eo36⟩ := Kd.R_slice HO456.out; subst eo36; have hcz37_0 : w34.cell? ⟨gb436, 0, none⟩ = some (.bool false) := (blk_cell BK436.out 0).trans rfl; have hcz37_1 : w34.cell? ⟨gb436, 1, none⟩ = some (.slice none 0 0) := (blk_cell BK436.out 1).trans rfl; have hfz37_0 := blk_frozen BK436.out 0; have hfz37_1 := blk_frozen BK436.out 1))
      refine bodyPost_ret (results_cell_row rfl _ _ gb436 69 #[.bool (decide (a0 < 0)), .slice Ao36 y454.length co36] (0, 0) _ rfl (by (with_reducible repeat (first | refine blk_drewN ?_ _ | refine blk_drew ?_ | refine blk_alloc ?_ _)); refine blk_put (cs := #[.bool (decide (a0 < 0)), .slice none 0 0]) ?_ 1 _ rfl; (with_reducible repeat (first | refine blk_drewN ?_ _ | refine blk_drew ?_ | refine blk_alloc ?_ _)); refine blk_put (cs := #[.bool false, .slice none 0 0]) ?_ 0 _ rfl; (with_reducible repeat (first | refine blk_drewN ?_ _ | refine blk_drew ?_ | refine blk_alloc ?_ _)); exact BK436.out) Try.underlying69 rfl kf) rfl ?_
      exact ⟨_, by first | rfl | (simp [errW_none, errW_some] <;> rfl) | (simp only [← hji4, ← hji6, ← hji25]; first | rfl | (simp [errW_none, errW_some] <;> rfl)) | (simp [*, errW_none, errW_some] <;> rfl), by (with_reducible repeat (first | apply Kd.R_alloc | apply Kd.R_drewN | apply Kd.R_drew)); exact Kd.R_mono (Kd.R_far (p := ⟨gb436, 1, none⟩) (Kd.R_far (p := ⟨gb436, 0, none⟩) (Kd.R_types HO456.out BK436.out (by decide)) (fun _ hk => hk.2) (.bool (decide (a0 < 0)))) (fun _ hk => hk.2) (.slice Ao36 y454.length co36)) (fun _ hk => trivial), bz1 GE436⟩
     ·rw [if_neg c28] at H
      exact absurd H (by simp)
    ·rw [if_neg c27] at H
     exact absurd H (by simp)
   ·rw [if_neg c26] at H
    exact absurd H (by simp)
 ·rw [if_neg c5] at H
  exact absurd H (by simp)
end Go.Proofs.Ytcgcgifndkeeoaa.QSt
