import Derived.Test.YtcgcgifndkeeoaaZHasRootBetweenSq
import Derived.Test.YtcgcgifndkeeoaaZHasRootBetweenQStx2
import Derived.Test.YtcgcgifndkeeoaaZHasRootBetweenQStx12
namespace Go.Proofs.Ytcgcgifndkeeoaa.QSt
open Go.RowKit Go.Proofs.YtcgcgifndkeeoaaW.PrintWords Go.Proofs.YtcgcgifndkeeoaaW.PrintLast Go.Proofs.YtcgcgifndkeeoaaW.PrintMore
attribute [local go_sem] max2_int min2_int max_two min_two max_three min_three max_four min_four
set_option linter.unusedVariables false
set_option linter.unusedSimpArgs false
def impl_compareD.f (k : Nat) (a0_0 : Int) (a0_1 : Int) (a1_0 : Int) (a1_1 : Int) : Option (Int) := (impl_wideOf.f a0_0).bind fun bt389 => ((impl_wide_shift.f bt389.1 bt389.2.1 bt389.2.2 (wrap64 ((mx a0_1 a1_1) - a0_1))).bind fun bt392 => ((impl_wideOf.f a1_0).bind fun bt395 => ((impl_wide_shift.f bt395.1 bt395.2.1 bt395.2.2 (wrap64 ((mx a0_1 a1_1) - a1_1))).bind fun bt398 => ((impl_compareWide.f k bt392.1 bt392.2.1 bt392.2.2 bt398.1 bt398.2.1 bt398.2.2).bind fun t401 => (some t401)))))
def impl_compareD.T2 : Bool × List (List Nat × List Nat) := (true, [([], []), ([0], [0]), ([1], [1]), ([], []), ([], []), ([4], [4]), ([3, 5], [3, 5]), ([2, 6, 2], [2, 6]), ([], []), ([8], [8]), ([9, 7], [9]), ([], []), ([], []), ([12], [12]), ([11, 13], [11, 13]), ([10, 14, 10], [10, 14]), ([7, 15, 15], [7, 15]), ([16, 16, 0, 1, 2, 3, 4, 5, 6, 7, 8, 9, 10, 11, 12, 13, 14, 15, 16], [16])])
def impl_compareD.B2 : List Nat := [0, 1, 3, 0, 0, 16, 56, 127, 0, 256, 1023, 0, 0, 4096, 14336, 32767, 65535, 131071]
theorem impl_compareD.tab2 : rtab .any (opsOf Try.f74 2) = impl_compareD.T2 := by kernel_rfl
theorem impl_compareD.bits2 : waitsOk impl_compareD.T2.2 impl_compareD.B2 = true := by kernel_rfl
set_option maxHeartbeats 8000000 in
set_option maxRecDepth 100000 in
theorem impl_compareD.calls (k : Nat) (a0_0 : Int) (a0_1 : Int) (a1_0 : Int) (a1_1 : Int) (r : Int) (w : World) (h : impl_compareD.f k a0_0 a0_1 a1_0 a1_1 = some r) :
 Calls Try.prog 74 #[.agg #[.int .i64 a0_0, .int .i64 a0_1], .agg #[.int .i64 a1_0, .int .i64 a1_1]] w fun e w' => e = .returned (.int .i64 r) ∧ Below w.heap.size w w' := by
 have hu28 := Try.underlying28
 have HB := Aside0.mk (Below.refl w.heap.size w)
 have H : ((impl_wideOf.f a0_0).bind fun bt389 => ((impl_wide_shift.f bt389.1 bt389.2.1 bt389.2.2 (wrap64 ((mx a0_1 a1_1) - a0_1))).bind fun bt392 => ((impl_wideOf.f a1_0).bind fun bt395 => ((impl_wide_shift.f bt395.1 bt395.2.1 bt395.2.2 (wrap64 ((mx a0_1 a1_1) - a1_1))).bind fun bt398 => ((impl_compareWide.f k bt392.1 bt392.2.1 bt392.2.2 bt398.1 bt398.2.1 bt398.2.2).bind fun t401 => (some t401)))))) = some r := h
 clear h
 obtain ⟨ji3, hji3⟩ : ∃ j_ : Int, (mx a0_1 a1_1) = j_ := ⟨_, rfl⟩
 first | rw [hji3] at H | simp only [hji3] at H
 have hji3_ : (if a0_1 < a1_1 then a1_1 else a0_1) = ji3 := hji3
 obtain ⟨⟨t389, t390, t391⟩, A4, H⟩ := bi H
 try dsimp only at H
 obtain ⟨⟨t392, t393, t394⟩, A5, H⟩ := bi H
 try dsimp only at H
 obtain ⟨⟨t395, t396, t397⟩, A6, H⟩ := bi H
 try dsimp only at H
 obtain ⟨⟨t398, t399, t400⟩, A7, H⟩ := bi H
 try dsimp only at H
 obtain ⟨t401, A8, H⟩ := bi H
 obtain rfl := Option.some.inj H
 go_enter Try.func74, Try.ntmps74
 try go_wp2_with (first | ((with_reducible refine gate_dst (N := 2) rfl ?_); refine bv (N := 2) (cs := #[.int .i64 a0_0, .int .i64 a0_1]) (t := 28) ?_; intro gb387 hg w9 hbox hb; have n0_ := Aside0.mk (below_step bz hb); have n1_ := Aside0.mk (hbox); have n2_ := (gz hg : Aside0 (w.heap.size ≤ _)); have n3_ := (gz hg : Aside0 (w.heap.size ≤ _)); clear HB; have HB := n0_; have BK387 := n1_; have GW387 := n2_; have GE387 := n3_; clear n0_ n1_ n2_ n3_; clear hb hbox hg) | ((with_reducible refine gate_dst (N := 3) rfl ?_); refine bv (N := 3) (cs := #[.int .i64 a1_0, .int .i64 a1_1]) (t := 28) ?_; intro gb388 hg w10 hbox hb; have n0_ := bb BK387 hb; have n1_ := Aside0.mk (below_step (bz1 GE387) hb); have n2_ := Aside0.mk (hbox); have n3_ := Aside0.mk ((by rw [hg]; exact (below_size (bz1 GE387)) : w.heap.size ≤ gb388)); have n4_ := Aside0.mk ((by rw [hg]; exact (below_size (bz1 GE387)) : w.heap.size ≤ gb388)); have n5_ := Aside0.mk ((by rw [hg]; exact Nat.ne_of_lt (blk_lt (g := gb387) (o := .cells #[.int .i64 a0_0, .int .i64 a0_1] 28 (0, 0)) (bk BK387)) : gb387 ≠ gb388)); have n6_ := Aside0.mk ((by rw [hg]; exact Nat.ne_of_gt (blk_lt (g := gb387) (o := .cells #[.int .i64 a0_0, .int .i64 a0_1] 28 (0, 0)) (bk BK387)) : gb388 ≠ gb387)); clear BK387; clear HB; have BK387 := n0_; have HB := n1_; have BK388 := n2_; have GW388 := n3_; have GE388 := n4_; have NB387_388 := n5_; have NB388_387 := n6_; clear n0_ n1_ n2_ n3_ n4_ n5_ n6_; clear hb hbox hg; have hnb11 := NB387_388.out; have hnc11 := NB388_387.out; have hcz12_0 : w10.cell? ⟨gb387, 0, none⟩ = some (.int .i64 a0_0) := (blk_cell BK387.out 0).trans rfl; have hcz12_1 : w10.cell? ⟨gb387, 1, none⟩ = some (.int .i64 a0_1) := (blk_cell BK387.out 1).trans rfl; have hfz12_0 := blk_frozen BK387.out 0; have hfz12_1 := blk_frozen BK387.out 1; have hcz13_0 : w10.cell? ⟨gb388, 0, none⟩ = some (.int .i64 a1_0) := (blk_cell BK388.out 0).trans rfl; have hcz13_1 : w10.cell? ⟨gb388, 1, none⟩ = some (.int .i64 a1_1) := (blk_cell BK388.out 1).trans rfl; have hfz13_0 := blk_frozen BK388.out 0; have hfz13_1 := blk_frozen BK388.out 1))
 have n0_ := Aside0.mk (blk_drew BK387.out)
 have n1_ := Aside0.mk (blk_drew BK388.out)
 have n2_ := Aside0.mk (below_drew1 HB.out)
 clear BK387 BK388 HB
 have BK387 := n0_
 have BK388 := n1_
 have HB := n2_
 clear n0_ n1_ n2_
 refine start_ (n := 18) (S := fun w' => w'.cell? ⟨gb387, 0, none⟩ = some (.int .i64 a0_0) ∧ w'.cell? ⟨gb387, 1, none⟩ = some (.int .i64 a0_1) ∧ w'.cell? ⟨gb388, 0, none⟩ = some (.int .i64 a1_0) ∧ w'.cell? ⟨gb388, 1, none⟩ = some (.int .i64 a1_1)) (ds := []) #[fF, fF, fF, fF, fF, fF, fF, fF, fF, fF, fF, fF, fF, fF, fF, fF, fF, fF] kf rfl rfl ⟨(blk_cell BK387.out 0).trans rfl, (blk_cell BK387.out 1).trans rfl, (blk_cell BK388.out 0).trans rfl, (blk_cell BK388.out 1).trans rfl⟩ (fun hHeld => ?_); refine with_tabW impl_compareD.tab2 impl_compareD.bits2 (fun HT_ HW_ => ?_)
 generalize w10.drew = w14 at BK387 BK388 HB hHeld ⊢
 refine pq (i := 0) (N := some 11) #[tT, fF, fF, fF, fF, fF, fF, fF, fF, fF, fF, fF, fF, fF, fF, fF, fF, fF] rfl rfl HT_.out ?_
 refine pq (i := 3) (N := some 14) #[tT, fF, fF, tT, fF, fF, fF, fF, fF, fF, fF, fF, fF, fF, fF, fF, fF, fF] rfl rfl HT_.out ?_
 refine pq (i := 4) (N := some 15) #[tT, fF, fF, tT, tT, fF, fF, fF, fF, fF, fF, fF, fF, fF, fF, fF, fF, fF] rfl rfl HT_.out ?_
 refine pq (i := 8) (N := some 19) #[tT, fF, fF, tT, tT, fF, fF, fF, tT, fF, fF, fF, fF, fF, fF, fF, fF, fF] rfl rfl HT_.out ?_
 refine pq (i := 11) (N := some 22) #[tT, fF, fF, tT, tT, fF, fF, fF, tT, fF, fF, tT, fF, fF, fF, fF, fF, fF] rfl rfl HT_.out ?_
 refine pq (i := 12) (N := some 23) #[tT, fF, fF, tT, tT, fF, fF, fF, tT, fF, fF, tT, tT, fF, fF, fF, fF, fF] rfl rfl HT_.out ?_
 refine tq4 (i := 1) (N := some 12) #[tT, tT, fF, tT, tT, fF, fF, fF, tT, fF, fF, tT, tT, fF, fF, fF, fF, fF] rfl rfl HT_.out HW_.out hHeld ?_
 refine tq4 (i := 5) (N := some 16) #[tT, tT, fF, tT, tT, tT, fF, fF, tT, fF, fF, tT, tT, fF, fF, fF, fF, fF] rfl rfl HT_.out HW_.out hHeld ?_
 refine pq (i := 6) (N := some 17) #[tT, tT, fF, tT, tT, tT, tT, fF, tT, fF, fF, tT, tT, fF, fF, fF, fF, fF] rfl rfl HT_.out ?_
 refine tq4 (i := 9) (N := some 20) #[tT, tT, fF, tT, tT, tT, tT, fF, tT, tT, fF, tT, tT, fF, fF, fF, fF, fF] rfl rfl HT_.out HW_.out hHeld ?_
 refine tq4 (i := 13) (N := some 24) #[tT, tT, fF, tT, tT, tT, tT, fF, tT, tT, fF, tT, tT, tT, fF, fF, fF, fF] rfl rfl HT_.out HW_.out hHeld ?_
 refine pq (i := 14) (N := some 25) #[tT, tT, fF, tT, tT, tT, tT, fF, tT, tT, fF, tT, tT, tT, tT, fF, fF, fF] rfl rfl HT_.out ?_
 refine one_ (i := 2) (N := some 13) #[tT, tT, tT, tT, tT, tT, tT, fF, tT, tT, fF, tT, tT, tT, tT, fF, fF, fF] rfl rfl (one_of HT_.out kf) (by decide) (fun K hK => ?_)
 refine goes_ Try.func107 kf rfl #[.int .i64 a0_0] (by rfl) rfl rfl sm ?_
 with_reducible refine (impl_wideOf.calls a0_0 t389 t390 t391 _ A4.out).mono ?_
 rintro e w15 ⟨rfl, hb⟩
 refine ⟨_, rfl, ?_⟩
 have n0_ := bb BK387 hb
 have n1_ := bb BK388 hb
 have n2_ := Aside0.mk (below_step (bz2 GE387 GE388) hb)
 clear BK387 BK388 HB
 have BK387 := n0_
 have BK388 := n1_
 have HB := n2_
 clear n0_ n1_ n2_
 (try clear hb)
 (try clear hb2)
 (try clear hk)
 (try clear hi)
 refine hK.out _ _ ⟨(blk_cell BK387.out 0).trans rfl, (blk_cell BK387.out 1).trans rfl, (blk_cell BK388.out 0).trans rfl, (blk_cell BK388.out 1).trans rfl⟩ (fun hHeld => ?_)
 clear hK K
 refine norm_ (a' := ?_) ?_ ?_
 rotate_left
 ·show Act.put _ (some 13) _ = _
  simp only [Act.put, List.setIfInBounds_toArray, List.set_cons_zero, List.set_cons_succ, i64_w, i32_w]
  rfl
 refine one_ (i := 7) (N := some 18) #[tT, tT, tT, tT, tT, tT, tT, tT, tT, tT, fF, tT, tT, tT, tT, fF, fF, fF] rfl rfl (one_of HT_.out kf) (by decide) (fun K hK => ?_)
 refine goes_ Try.func108 kf rfl #[.agg #[.bool t389, .int .u64 t390, .int .u64 t391], .int .i64 (wrap64 ((ji3) - a0_1))] (by rfl) rfl rfl (by (try simp only [List.map_toArray, List.map_cons, List.map_nil]); first | done | (simp only [hji3]; rfl) | rfl | (simp only [List.length_drop, List.length_take]; rfl)) ?_
 with_reducible refine (impl_wide_shift.calls t389 t390 t391 (wrap64 ((ji3) - a0_1)) t392 t393 t394 _ A5.out).mono ?_
 rintro e w16 ⟨rfl, hb⟩
 refine ⟨_, rfl, ?_⟩
 have n0_ := bb BK387 hb
 have n1_ := bb BK388 hb
 have n2_ := Aside0.mk (below_step (bz2 GE387 GE388) hb)
 clear BK387 BK388 HB
 have BK387 := n0_
 have BK388 := n1_
 have HB := n2_
 clear n0_ n1_ n2_
 (try clear hb)
 (try clear hb2)
 (try clear hk)
 (try clear hi)
 refine hK.out _ _ ⟨(blk_cell BK387.out 0).trans rfl, (blk_cell BK387.out 1).trans rfl, (blk_cell BK388.out 0).trans rfl, (blk_cell BK388.out 1).trans rfl⟩ (fun hHeld => ?_)
 clear hK K
 refine norm_ (a' := ?_) ?_ ?_
 rotate_left
 ·show Act.put _ (some 18) _ = _
  simp only [Act.put, List.setIfInBounds_toArray, List.set_cons_zero, List.set_cons_succ, i64_w, i32_w]
  rfl
 refine one_ (i := 10) (N := some 21) #[tT, tT, tT, tT, tT, tT, tT, tT, tT, tT, tT, tT, tT, tT, tT, fF, fF, fF] rfl rfl (one_of HT_.out kf) (by decide) (fun K hK => ?_)
 refine goes_ Try.func107 kf rfl #[.int .i64 a1_0] (by rfl) rfl rfl sm ?_
 with_reducible refine (impl_wideOf.calls a1_0 t395 t396 t397 _ A6.out).mono ?_
 rintro e w17 ⟨rfl, hb⟩
 refine ⟨_, rfl, ?_⟩
 have n0_ := bb BK387 hb
 have n1_ := bb BK388 hb
 have n2_ := Aside0.mk (below_step (bz2 GE387 GE388) hb)
 clear BK387 BK388 HB
 have BK387 := n0_
 have BK388 := n1_
 have HB := n2_
 clear n0_ n1_ n2_
 (try clear hb)
 (try clear hb2)
 (try clear hk)
 (try clear hi)
 refine hK.out _ _ ⟨(blk_cell BK387.out 0).trans rfl, (blk_cell BK387.out 1).trans rfl, (blk_cell BK388.out 0).trans rfl, (blk_cell BK388.out 1).trans rfl⟩ (fun hHeld => ?_)
 clear hK K
 refine norm_ (a' := ?_) ?_ ?_
 rotate_left
 ·show Act.put _ (some 21) _ = _
  simp only [Act.put, List.setIfInBounds_toArray, List.set_cons_zero, List.set_cons_succ, i64_w, i32_w]
  rfl
 refine one_ (i := 15) (N := some 26) #[tT, tT, tT, tT, tT, tT, tT, tT, tT, tT, tT, tT, tT, tT, tT, tT, fF, fF] rfl rfl (one_of HT_.out kf) (by decide) (fun K hK => ?_)
 refine goes_ Try.func108 kf rfl #[.agg #[.bool t395, .int .u64 t396, .int .u64 t397], .int .i64 (wrap64 ((ji3) - a1_1))] (by rfl) rfl rfl (by (try simp only [List.map_toArray, List.map_cons, List.map_nil]); first | done | (simp only [hji3]; rfl) | rfl | (simp only [List.length_drop, List.length_take]; rfl)) ?_
 with_reducible refine (impl_wide_shift.calls t395 t396 t397 (wrap64 ((ji3) - a1_1)) t398 t399 t400 _ A7.out).mono ?_
 rintro e w18 ⟨rfl, hb⟩
 refine ⟨_, rfl, ?_⟩
 have n0_ := bb BK387 hb
 have n1_ := bb BK388 hb
 have n2_ := Aside0.mk (below_step (bz2 GE387 GE388) hb)
 clear BK387 BK388 HB
 have BK387 := n0_
 have BK388 := n1_
 have HB := n2_
 clear n0_ n1_ n2_
 (try clear hb)
 (try clear hb2)
 (try clear hk)
 (try clear hi)
 refine hK.out _ _ ⟨(blk_cell BK387.out 0).trans rfl, (blk_cell BK387.out 1).trans rfl, (blk_cell BK388.out 0).trans rfl, (blk_cell BK388.out 1).trans rfl⟩ (fun hHeld => ?_)
 clear hK K
 refine norm_ (a' := ?_) ?_ ?_
 rotate_left
 ·show Act.put _ (some 26) _ = _
  simp only [Act.put, List.setIfInBounds_toArray, List.set_cons_zero, List.set_cons_succ, i64_w, i32_w]
  rfl
 refine one_ (i := 16) (N := some 27) #[tT, tT, tT, tT, tT, tT, tT, tT, tT, tT, tT, tT, tT, tT, tT, tT, tT, fF] rfl rfl (one_of HT_.out kf) (by decide) (fun K hK => ?_)
 refine goes_ Try.func106 kf rfl #[.agg #[.bool t392, .int .u64 t393, .int .u64 t394], .agg #[.bool t398, .int .u64 t399, .int .u64 t400]] (by rfl) rfl rfl sm ?_
 with_reducible refine (impl_compareWide.calls k t392 t393 t394 t398 t399 t400 t401 _ A8.out).mono ?_
 rintro e w19 ⟨rfl, hb⟩
 refine ⟨_, rfl, ?_⟩
 have n0_ := bb BK387 hb
 have n1_ := bb BK388 hb
 have n2_ := Aside0.mk (below_step (bz2 GE387 GE388) hb)
 clear BK387 BK388 HB
 have BK387 := n0_
 have BK388 := n1_
 have HB := n2_
 clear n0_ n1_ n2_
 (try clear hb)
 (try clear hb2)
 (try clear hk)
 (try clear hi)
 refine hK.out _ _ ⟨(blk_cell BK387.out 0).trans rfl, (blk_cell BK387.out 1).trans rfl, (blk_cell BK388.out 0).trans rfl, (blk_cell BK388.out 1).trans rfl⟩ (fun hHeld => ?_)
 clear hK K
 refine norm_ (a' := ?_) ?_ ?_
 rotate_left
 ·show Act.put _ (some 27) _ = _
  simp only [Act.put, List.setIfInBounds_toArray, List.set_cons_zero, List.set_cons_succ, i64_w, i32_w]
  rfl
 refine pq (i := 17) (N := some 4) #[tT, tT, tT, tT, tT, tT, tT, tT, tT, tT, tT, tT, tT, tT, tT, tT, tT, tT] rfl rfl HT_.out ?_
 refine done_ (done_of HT_.out kf) ?_
 try go_wp2
 go_ret
 exact ⟨by first | rfl | (simp [errW_none, errW_some] <;> rfl) | (simp only [← hji3]; first | rfl | (simp [errW_none, errW_some] <;> rfl)) | (simp [*, errW_none, errW_some] <;> rfl), bz2 GE387 GE388⟩
def impl_long_times.l0 : Nat → Int → Int → List Int → Int → Int → Bool → List Int → Option (Bool × List Int)
 | 0, _, _, _, _, _, _, _ => none
 | k + 1, x1, x6, x16, x17, x18, x405000, x405001 => if x18 < x17 then (if 0 ≤ x18 then (if x18 < (x16.length : Int) then ((impl_size.f x1).bind fun t406 => (if x405001.length < 35184372088832 then (impl_long_times.l0 k x1 ((IntKind.u64.wrap (x6 + (IntKind.u64.wrap ((IntKind.u64.wrap (rd x16 x18)) * t406)))) / 4294967296) x16 x17 (wrap64 (x18 + 1)) x405000 (x405001 ++ [(IntKind.u64.wrap (x6 + (IntKind.u64.wrap ((IntKind.u64.wrap (rd x16 x18)) * t406)))) % 4294967296])) else (none))) else (none)) else (none)) else (if x405001.length < 35184372088832 then (some (x405000, (x405001 ++ [(x6) % 4294967296]))) else (none))
def impl_long_times.f (k : Nat) (a0_0 : Bool) (l0_1 : List Int) (a1 : Int) : Option (Bool × List Int) := impl_long_times.l0 k a1 0 l0_1 (l0_1.length : Int) 0 (a0_0 != (decide (a1 < 0))) ([] : List Int)
set_option maxHeartbeats 8000000 in
set_option maxRecDepth 100000 in
theorem impl_long_times.calls (k : Nat) (a0_0 : Bool) (A0_1 : Option Addr) (c0_1 : Nat) (l0_1 : List Int) (a1 : Int) (r1 : Bool) (r2 : List Int) (w : World) (hr0_1 : Kd.C (Kd.int .u32) w A0_1 l0_1.length l0_1) (hc0_1 : l0_1.length ≤ c0_1) (h : impl_long_times.f k a0_0 l0_1 a1 = some (r1, r2)) :
 Calls Try.prog 85 #[.agg #[.bool a0_0, .slice A0_1 l0_1.length c0_1], .int .i64 a1] w fun e w' => ∃ v1_ : Value, e = .returned (.agg #[.bool r1, v1_]) ∧ Kd.R (Kd.int .u32) 86 w' w.heap.size (fun _ => True) v1_ r2 ∧ Below w.heap.size w w' := by
 have hu69 := Try.underlying69
 have HR0_1 := Aside0.mk hr0_1
 have HC0_1 := Aside0.mk hc0_1
 clear hr0_1 hc0_1
 have HB := Aside0.mk (Below.refl w.heap.size w)
 have H : (impl_long_times.l0 k a1 0 l0_1 (l0_1.length : Int) 0 (a0_0 != (decide (a1 < 0))) ([] : List Int)) = some (r1, r2) := h
 clear h
 have H' := Aside0.mk H
 clear H
 go_enter Try.func85, Try.ntmps85
 go_wp2_with (first | ((with_reducible refine gate_dst (N := 2) rfl ?_); refine bv (N := 2) (cs := #[.bool a0_0, .slice A0_1 l0_1.length c0_1]) (t := 69) ?_; intro gb402 hg w3 hbox hb; have n0_ := Aside0.mk (below_step bz hb); have n1_ := Aside0.mk (hbox); have n2_ := (gz hg : Aside0 (w.heap.size ≤ _)); have n3_ := (gz hg : Aside0 (w.heap.size ≤ _)); clear HB; have HB := n0_; have BK402 := n1_; have GW402 := n2_; have GE402 := n3_; clear n0_ n1_ n2_ n3_; clear hb hbox hg) | ((with_reducible refine gate_dst (N := 4) rfl ?_); refine bv (N := 4) (cs := #[.bool false, .slice none 0 0]) (t := 69) ?_; intro gb403 hg w4 hbox hb; have n0_ := bb BK402 hb; have n1_ := Aside0.mk (below_step (bz1 GE402) hb); have n2_ := Aside0.mk (hbox); have n3_ := Aside0.mk ((by rw [hg]; exact (below_size (bz1 GE402)) : w.heap.size ≤ gb403)); have n4_ := Aside0.mk ((by rw [hg]; exact (below_size (bz1 GE402)) : w.heap.size ≤ gb403)); have n5_ := Aside0.mk ((by rw [hg]; exact Nat.ne_of_lt (blk_lt (g := gb402) (o := .cells #[.bool a0_0, .slice A0_1 l0_1.length c0_1] 69 (0, 0)) (bk BK402)) : gb402 ≠ gb403)); have n6_ := Aside0.mk ((by rw [hg]; exact Nat.ne_of_gt (blk_lt (g := gb402) (o := .cells #[.bool a0_0, .slice A0_1 l0_1.length c0_1] 69 (0, 0)) (bk BK402)) : gb403 ≠ gb402)); clear BK402; clear HB; have BK402 := n0_; have HB := n1_; have BK403 := n2_; have GW403 := n3_; have GE403 := n4_; have NB402_403 := n5_; have NB403_402 := n6_; clear n0_ n1_ n2_ n3_ n4_ n5_ n6_; clear hb hbox hg; have hnb5 := NB402_403.out; have hnc5 := NB403_402.out; have hcz6_0 : w4.cell? ⟨gb402, 0, none⟩ = some (.bool a0_0) := (blk_cell BK402.out 0).trans rfl; have hcz6_1 : w4.cell? ⟨gb402, 1, none⟩ = some (.slice A0_1 l0_1.length c0_1) := (blk_cell BK402.out 1).trans rfl; have hfz6_0 := blk_frozen BK402.out 0; have hfz6_1 := blk_frozen BK402.out 1) | ((with_reducible refine gate_dst (N := 5) rfl ?_); refine bv (N := 5) (cs := #[.bool false, .slice none 0 0]) (t := 69) ?_; intro gb404 hg w7 hbox hb; have n0_ := bb BK402 hb; have n1_ := bb BK403 hb; have n2_ := Aside0.mk (below_step (bz2 GE402 GE403) hb); have n3_ := Aside0.mk (hbox); have n4_ := Aside0.mk ((by rw [hg]; exact (below_size (bz2 GE402 GE403)) : w.heap.size ≤ gb404)); have n5_ := Aside0.mk ((by rw [hg]; exact (below_size (bz2 GE402 GE403)) : w.heap.size ≤ gb404)); have n6_ := Aside0.mk ((by rw [hg]; exact Nat.ne_of_lt (blk_lt (g := gb402) (o := .cells #[.bool a0_0, .slice A0_1 l0_1.length c0_1] 69 (0, 0)) (bk BK402)) : gb402 ≠ gb404)); have n7_ := Aside0.mk ((by rw [hg]; exact Nat.ne_of_gt (blk_lt (g := gb402) (o := .cells #[.bool a0_0, .slice A0_1 l0_1.length c0_1] 69 (0, 0)) (bk BK402)) : gb404 ≠ gb402)); have n8_ := Aside0.mk ((by rw [hg]; exact Nat.ne_of_lt (blk_lt (g := gb403) (o := .cells #[.bool false, .slice none 0 0] 69 (0, 0)) (bk BK403)) : gb403 ≠ gb404)); have n9_ := Aside0.mk ((by rw [hg]; exact Nat.ne_of_gt (blk_lt (g := gb403) (o := .cells #[.bool false, .slice none 0 0] 69 (0, 0)) (bk BK403)) : gb404 ≠ gb403)); clear BK402; clear BK403; clear HB; have BK402 := n0_; have BK403 := n1_; have HB := n2_; have BK404 := n3_; have GW404 := n4_; have GE404 := n5_; have NB402_404 := n6_; have NB404_402 := n7_; have NB403_404 := n8_; have NB404_403 := n9_; clear n0_ n1_ n2_ n3_ n4_ n5_ n6_ n7_ n8_ n9_; clear hb hbox hg; have hnb8 := NB404_402.out; have hnc8 := NB402_404.out; have hnb9 := NB404_403.out; have hnc9 := NB403_404.out; have hcz10_0 : w7.cell? ⟨gb404, 0, none⟩ = some (.bool false) := (blk_cell BK404.out 0).trans rfl; have hcz10_1 : w7.cell? ⟨gb404, 1, none⟩ = some (.slice none 0 0) := (blk_cell BK404.out 1).trans rfl; have hfz10_0 := blk_frozen BK404.out 0; have hfz10_1 := blk_frozen BK404.out 1; have hcz11_0 : w7.cell? ⟨gb402, 0, none⟩ = some (.bool a0_0) := (blk_cell BK402.out 0).trans rfl; have hcz11_1 : w7.cell? ⟨gb402, 1, none⟩ = some (.slice A0_1 l0_1.length c0_1) := (blk_cell BK402.out 1).trans rfl; have hfz11_0 := blk_frozen BK402.out 0; have hfz11_1 := blk_frozen BK402.out 1))
 go_loopg [6, 18] k (fun kq v6 v18 w' => ∃ (x6_1 : Int) (x18_1 : Int) (x405001_1 : List Int) (u405001 : Value), v6 = .int .u64 x6_1 ∧ v18 = .int .i64 x18_1 ∧ Aside0 (impl_long_times.l0 kq a1 x6_1 l0_1 (l0_1.length : Int) x18_1 (a0_0 != (decide (a1 < 0))) x405001_1 = some (r1, r2)) ∧ Aside0 (kq ≤ k) ∧ Aside0 (Kd.R (Kd.int .u32) 86 w' w.heap.size (fun _ => True) u405001 x405001_1) ∧ Aside0 (w'.heap[gb402]? = some (.cells #[.bool a0_0, (.slice A0_1 l0_1.length c0_1)] 69 (0, 0))) ∧ Aside0 (w'.heap[gb403]? = some (.cells #[.bool false, (.slice none 0 0)] 69 (0, 0))) ∧ Aside0 (w'.heap[gb404]? = some (.cells #[.bool (a0_0 != (decide (a1 < 0))), u405001] 69 (0, 0))) ∧ Aside0 (Below w.heap.size w w'))
 case atStart => exact ⟨(0), (0), (([] : List Int)), (.slice none 0 0), sr, sr, H', ⟨Nat.le_refl _⟩, ⟨by first | exact Kd.R_nil _ _ _ _ _ | exact Kd.N_nil _ _ _ _ _ | exact Kd.V_nil _ _ _ _ _ | exact Kd.Q_nil _ _ _ _ _ | exact Kd.S_nil _ _ _ _ _⟩, ⟨by (with_reducible repeat (first | refine blk_drewN ?_ _ | refine blk_drew ?_ | refine blk_alloc ?_ _)); refine blk_far ?_ NB402_404.out _; (with_reducible repeat (first | refine blk_drewN ?_ _ | refine blk_drew ?_ | refine blk_alloc ?_ _)); refine blk_far ?_ NB402_404.out _; (with_reducible repeat (first | refine blk_drewN ?_ _ | refine blk_drew ?_ | refine blk_alloc ?_ _)); exact BK402.out⟩, ⟨by (with_reducible repeat (first | refine blk_drewN ?_ _ | refine blk_drew ?_ | refine blk_alloc ?_ _)); refine blk_far ?_ NB403_404.out _; (with_reducible repeat (first | refine blk_drewN ?_ _ | refine blk_drew ?_ | refine blk_alloc ?_ _)); refine blk_far ?_ NB403_404.out _; (with_reducible repeat (first | refine blk_drewN ?_ _ | refine blk_drew ?_ | refine blk_alloc ?_ _)); exact BK403.out⟩, ⟨by (with_reducible repeat (first | refine blk_drewN ?_ _ | refine blk_drew ?_ | refine blk_alloc ?_ _)); refine blk_put (cs := #[.bool (a0_0 != (decide (a1 < 0))), .slice none 0 0]) ?_ 1 _ rfl; (with_reducible repeat (first | refine blk_drewN ?_ _ | refine blk_drew ?_ | refine blk_alloc ?_ _)); refine blk_put (cs := #[.bool false, .slice none 0 0]) ?_ 0 _ rfl; (with_reducible repeat (first | refine blk_drewN ?_ _ | refine blk_drew ?_ | refine blk_alloc ?_ _)); exact BK404.out⟩, ⟨bz3 GE402 GE403 GE404⟩⟩
 case round =>
  clear H'
  try clear p2; try clear c5; try clear c8; try clear c9; try clear hcz10_0; try clear hcz10_1; try clear hcz11_0; try clear hcz11_1; try clear hcz6_0; try clear hcz6_1; try clear hfz10_0; try clear hfz10_1; try clear hfz11_0; try clear hfz11_1; try clear hfz6_0; try clear hfz6_1
  obtain ⟨x6_1, x18_1, x405001_1, u405001, rfl, rfl, HA, HK1, HO_405001, BK402, BK403, BK404, HB⟩ := hrel
  cases gk with
  | zero => exact absurd HA.out (by simp [impl_long_times.l0])
  | succ k1 =>
   have H := HA.out
   clear HA
   simp only [impl_long_times.l0] at H
   by_cases c12 : x18_1 < (l0_1.length : Int)
   ·rw [if_pos c12] at H
    have c12b0 : decide (x18_1 < (l0_1.length : Int)) = true := decide_eq_true c12
    clear c12
    by_cases c13 : 0 ≤ x18_1
    ·rw [if_pos c13] at H
     have c13b0 : decide (0 ≤ x18_1) = true := decide_eq_true c13
     clear c13
     by_cases c14 : x18_1 < (l0_1.length : Int)
     ·rw [if_pos c14] at H
      have c14b0 : decide (x18_1 < (l0_1.length : Int)) = true := decide_eq_true c14
      clear c14
      obtain ⟨t406, A15, H⟩ := bi H
      by_cases c16 : x405001_1.length < 35184372088832
      ·rw [if_pos c16] at H
       have LMc16 := Aside0.mk c16
       clear c16
       obtain ⟨y407, hy407⟩ : ∃ y_ : List Int, y_ = (x405001_1 ++ [(IntKind.u64.wrap (x6_1 + (IntKind.u64.wrap ((IntKind.u64.wrap (rd l0_1 x18_1)) * t406)))) % 4294967296]) := ⟨_, rfl⟩
       replace H : (impl_long_times.l0 k1 a1 ((IntKind.u64.wrap (x6_1 + (IntKind.u64.wrap ((IntKind.u64.wrap (rd l0_1 x18_1)) * t406)))) / 4294967296) l0_1 (l0_1.length : Int) (wrap64 (x18_1 + 1)) (a0_0 != (decide (a1 < 0))) y407) = some (r1, r2) := by first | (rw [hy407]; with_reducible exact H) | (have H2_ := (Option.bind_some _ _).symm.trans H; rw [hy407]; with_reducible exact H2_) | (have H2_ := (Option.bind_some _ _).symm.trans H; with_reducible exact H2_) | with_reducible exact H | (rw [hy407]; exact H) | exact H
       have Ny407 := Aside0.mk hy407
       clear hy407
       have H' := Aside0.mk H
       clear H
       have p405 : 0 ≤ (x18_1 : Int) := of_decide_eq_true am
       have q405 : x18_1 < (l0_1.length : Int) := of_decide_eq_true am
       obtain ⟨ad405, e405, hx405_0⟩ := Kd.at_int HR0_1.out x18_1 p405 q405
       cases e405
       replace hx405_0 := (HB.out.cell (World.block_lt_of_cell? w _ hx405_0)).trans hx405_0
       replace p405 := eq_true p405
       replace q405 := eq_true q405
       go_wp2_with (first | ((with_reducible refine gate_callee (f := 111) rfl ?_); refine goesL_ (some 26) rfl rfl Try.func111 kf rfl #[.int .i64 a1] rfl sm ?_; (with_reducible refine (impl_size.calls a1 t406 _ A15.out).mono ?_); rintro e w' ⟨rfl, ⟨nd, rfl⟩⟩; refine ⟨_, rfl, ?_⟩; (try (rw [drewN_self wr]; generalize hq_ : World.drewN wr _ = wr; have n0_ : Aside0 (Kd.R (Kd.int .u32) 86 wr w.heap.size (fun _ => True) u405001 x405001_1) := ⟨by rw [← hq_]; exact (kr HO_405001)⟩; have n1_ : Aside0 (wr.heap[gb402]? = some (.cells #[.bool a0_0, .slice (some ad405) l0_1.length c0_1] 69 (0, 0))) := ⟨by rw [← hq_]; exact (bk BK402)⟩; have n2_ : Aside0 (wr.heap[gb403]? = some (.cells #[.bool false, .slice none 0 0] 69 (0, 0))) := ⟨by rw [← hq_]; exact (bk BK403)⟩; have n3_ : Aside0 (wr.heap[gb404]? = some (.cells #[.bool (a0_0 != (decide (a1 < 0))), u405001] 69 (0, 0))) := ⟨by rw [← hq_]; exact (bk BK404)⟩; have n4_ : Aside0 (Below w.heap.size w wr) := ⟨by rw [← hq_]; exact (bz3 GE402 GE403 GE404)⟩; clear HO_405001 BK402 BK403 BK404 HB hq_; have HO_405001 := n0_; have BK402 := n1_; have BK403 := n2_; have BK404 := n3_; have HB := n4_; clear n0_ n1_ n2_ n3_ n4_)); have hnb17 := NB404_402.out; have hnc17 := NB402_404.out; have hnb18 := NB404_403.out; have hnc18 := NB403_404.out; have hcz19_0 : wr.cell? ⟨gb404, 0, none⟩ = some (.bool (a0_0 != (decide (a1 < 0)))) := (blk_cell BK404.out 0).trans rfl; have hcz19_1 : wr.cell? ⟨gb404, 1, none⟩ = some (u405001) := (blk_cell BK404.out 1).trans rfl; have hfz19_0 := blk_frozen BK404.out 0; have hfz19_1 := blk_frozen BK404.out 1) | ((with_reducible refine gate_builtin (b := .append) (xs := #[.tmp 30, .tmp 33]) rfl ?_); at_builtin; refine Kd.R_append (Kd.int .u32) (w0 := w) w.heap.size rfl (.tmp 30) (.tmp 33) 67 86 (.int .u32 0) 4 rfl Try.underlying67 info86 rfl (by decide) (by omega) u405001 x405001_1 ((IntKind.u64.wrap (x6_1 + (IntKind.u64.wrap ((IntKind.u64.wrap (rd l0_1 x18_1)) * t406)))) % 4294967296) [.int .u32 ((IntKind.u64.wrap (x6_1 + (IntKind.u64.wrap ((IntKind.u64.wrap (rd l0_1 x18_1)) * t406)))) % 4294967296)] (fun _ => True) (fun _ => False) rfl rfl ?aP (fun _ hk => hk.elim) ?aF ?aO ?aB ?aS ?aL ?_; (case aP => exact rfl); (case aB => exact (bz3 GE402 GE403 GE404)); (case aF => exact (fun _ _ => trivial)); (case aO => exact (kr HO_405001)); (case aS => exact (below_size (bz3 GE402 GE403 GE404))); (case aL => have := LMc16.out; omega); intro v408 w20 ho hb hg hat; rw [← Ny407.out] at ho; have n0_ := Aside0.mk (blk_grown (g := gb402) (o := .cells #[.bool a0_0, .slice (some ad405) l0_1.length c0_1] 69 (0, 0)) (bk BK402) hg (Kd.R_ne HO_405001.out BK402.out (by decide))); have n1_ := Aside0.mk (blk_grown (g := gb403) (o := .cells #[.bool false, .slice none 0 0] 69 (0, 0)) (bk BK403) hg (Kd.R_ne HO_405001.out BK403.out (by decide))); have n2_ := Aside0.mk (blk_grown (g := gb404) (o := .cells #[.bool (a0_0 != (decide (a1 < 0))), u405001] 69 (0, 0)) (bk BK404) hg (Kd.R_ne HO_405001.out BK404.out (by decide))); have n3_ := Aside0.mk (hb); have n4_ := Aside0.mk (ho); clear BK402; clear BK403; clear BK404; clear HB; clear HO_405001; have BK402 := n0_; have BK403 := n1_; have BK404 := n2_; have HB := n3_; have HO409 := n4_; clear n0_ n1_ n2_ n3_ n4_; clear ho hb hg hat; obtain ⟨Ao21, co21, eo21⟩ := Kd.R_slice HO409.out; subst eo21; have hcz22_0 : w20.cell? ⟨gb404, 0, none⟩ = some (.bool (a0_0 != (decide (a1 < 0)))) := (blk_cell BK404.out 0).trans rfl; have hcz22_1 : w20.cell? ⟨gb404, 1, none⟩ = some (u405001) := (blk_cell BK404.out 1).trans rfl; have hfz22_0 := blk_frozen BK404.out 0; have hfz22_1 := blk_frozen BK404.out 1))
       go_roundg k1
       case measure => have := HK1.out; omega
       case rel => exact ⟨((IntKind.u64.wrap (x6_1 + (IntKind.u64.wrap ((IntKind.u64.wrap (rd l0_1 x18_1)) * t406)))) / 4294967296), (wrap64 (x18_1 + 1)), (y407), (.slice Ao21 y407.length co21), sr, sr, H', ⟨by have := HK1.out; omega⟩, ⟨by (with_reducible repeat (first | apply Kd.R_alloc | apply Kd.R_drewN | apply Kd.R_drew)); exact Kd.R_mono (Kd.R_far (p := ⟨gb404, 1, none⟩) (Kd.R_types HO409.out BK404.out (by decide)) (fun _ hk => hk.2) (.slice Ao21 y407.length co21)) (fun _ hk => trivial)⟩, ⟨by (with_reducible repeat (first | refine blk_drewN ?_ _ | refine blk_drew ?_ | refine blk_alloc ?_ _)); refine blk_far ?_ NB402_404.out _; (with_reducible repeat (first | refine blk_drewN ?_ _ | refine blk_drew ?_ | refine blk_alloc ?_ _)); exact BK402.out⟩, ⟨by (with_reducible repeat (first | refine blk_drewN ?_ _ | refine blk_drew ?_ | refine blk_alloc ?_ _)); refine blk_far ?_ NB403_404.out _; (with_reducible repeat (first | refine blk_drewN ?_ _ | refine blk_drew ?_ | refine blk_alloc ?_ _)); exact BK403.out⟩, ⟨by (with_reducible repeat (first | refine blk_drewN ?_ _ | refine blk_drew ?_ | refine blk_alloc ?_ _)); refine blk_put (cs := #[.bool (a0_0 != (decide (a1 < 0))), u405001]) ?_ 1 _ rfl; (with_reducible repeat (first | refine blk_drewN ?_ _ | refine blk_drew ?_ | refine blk_alloc ?_ _)); exact BK404.out⟩, ⟨bz3 GE402 GE403 GE404⟩⟩
      ·rw [if_neg c16] at H
       exact absurd H (by simp)
     ·rw [if_neg c14] at H
      exact absurd H (by simp)
    ·rw [if_neg c13] at H
     exact absurd H (by simp)
   ·rw [if_neg c12] at H
    have c12b0 : decide (x18_1 < (l0_1.length : Int)) = false := decide_eq_false c12
    clear c12
    by_cases c23 : x405001_1.length < 35184372088832
    ·rw [if_pos c23] at H
     have LMc23 := Aside0.mk c23
     clear c23
     obtain ⟨y410, hy410⟩ : ∃ y_ : List Int, y_ = (x405001_1 ++ [(x6_1) % 4294967296]) := ⟨_, rfl⟩
     replace H : (some ((a0_0 != (decide (a1 < 0))), y410)) = some (r1, r2) := by first | (rw [hy410]; with_reducible exact H) | (have H2_ := (Option.bind_some _ _).symm.trans H; rw [hy410]; with_reducible exact H2_) | (have H2_ := (Option.bind_some _ _).symm.trans H; with_reducible exact H2_) | with_reducible exact H | (rw [hy410]; exact H) | exact H
     have Ny410 := Aside0.mk hy410
     clear hy410
     simp only [Option.some.injEq, Prod.mk.injEq] at H
     obtain ⟨rfl, rfl⟩ := H
     have hnb24 := NB404_402.out
     have hnc24 := NB402_404.out
     have hnb25 := NB404_403.out
     have hnc25 := NB403_404.out
     have hcz26_0 : wr.cell? ⟨gb404, 0, none⟩ = some (.bool (a0_0 != (decide (a1 < 0)))) := (blk_cell BK404.out 0).trans rfl
     have hcz26_1 : wr.cell? ⟨gb404, 1, none⟩ = some (u405001) := (blk_cell BK404.out 1).trans rfl
     have hfz26_0 := blk_frozen BK404.out 0
     have hfz26_1 := blk_frozen BK404.out 1
     go_wp2_with (first | ((with_reducible refine gate_builtin (b := .append) (xs := #[.tmp 40, .tmp 43]) rfl ?_); at_builtin; refine Kd.R_append (Kd.int .u32) (w0 := w) w.heap.size rfl (.tmp 40) (.tmp 43) 67 86 (.int .u32 0) 4 rfl Try.underlying67 info86 rfl (by decide) (by omega) u405001 x405001_1 ((x6_1) % 4294967296) [.int .u32 ((x6_1) % 4294967296)] (fun _ => True) (fun _ => False) rfl rfl ?aP (fun _ hk => hk.elim) ?aF ?aO ?aB ?aS ?aL ?_; (case aP => exact rfl); (case aB => exact (bz3 GE402 GE403 GE404)); (case aF => exact (fun _ _ => trivial)); (case aO => exact (kr HO_405001)); (case aS => exact (below_size (bz3 GE402 GE403 GE404))); (case aL => have := LMc23.out; omega); intro v411 w27 ho hb hg hat; rw [← Ny410.out] at ho; have n0_ := Aside0.mk (blk_grown (g := gb402) (o := .cells #[.bool a0_0, .slice A0_1 l0_1.length c0_1] 69 (0, 0)) (bk BK402) hg (Kd.R_ne HO_405001.out BK402.out (by decide))); have n1_ := Aside0.mk (blk_grown (g := gb403) (o := .cells #[.bool false, .slice none 0 0] 69 (0, 0)) (bk BK403) hg (Kd.R_ne HO_405001.out BK403.out (by decide))); have n2_ := Aside0.mk (blk_grown (g := gb404) (o := .cells #[.bool (a0_0 != (decide (a1 < 0))), u405001] 69 (0, 0)) (bk BK404) hg (Kd.R_ne HO_405001.out BK404.out (by decide))); have n3_ := Aside0.mk (hb); have n4_ := Aside0.mk (ho); clear BK402; clear BK403; clear BK404; clear HB; clear HO_405001; have BK402 := n0_; have BK403 := n1_; have BK404 := n2_; have HB := n3_; have HO412 := n4_; clear n0_ n1_ n2_ n3_ n4_; clear ho hb hg hat; obtain ⟨Ao28, co28, eo28⟩ := Kd.R_slice HO412.out; subst eo28; have hcz29_0 : w27.cell? ⟨gb404, 0, none⟩ = some (.bool (a0_0 != (decide (a1 < 0)))) := (blk_cell BK404.out 0).trans rfl; have hcz29_1 : w27.cell? ⟨gb404, 1, none⟩ = some (u405001) := (blk_cell BK404.out 1).trans rfl; have hfz29_0 := blk_frozen BK404.out 0; have hfz29_1 := blk_frozen BK404.out 1; have hnb30 := NB403_402.out; have hnc30 := NB402_403.out; have hcz31_0 : w27.cell? ⟨gb403, 0, none⟩ = some (.bool false) := (blk_cell BK403.out 0).trans rfl; have hcz31_1 : w27.cell? ⟨gb403, 1, none⟩ = some (.slice none 0 0) := (blk_cell BK403.out 1).trans rfl; have hfz31_0 := blk_frozen BK403.out 0; have hfz31_1 := blk_frozen BK403.out 1))
     refine bodyPost_ret (results_cell_row rfl _ _ gb403 69 #[.bool (a0_0 != (decide (a1 < 0))), .slice Ao28 y410.length co28] (0, 0) _ rfl (by (with_reducible repeat (first | refine blk_drewN ?_ _ | refine blk_drew ?_ | refine blk_alloc ?_ _)); refine blk_put (cs := #[.bool (a0_0 != (decide (a1 < 0))), .slice none 0 0]) ?_ 1 _ rfl; (with_reducible repeat (first | refine blk_drewN ?_ _ | refine blk_drew ?_ | refine blk_alloc ?_ _)); refine blk_put (cs := #[.bool false, .slice none 0 0]) ?_ 0 _ rfl; (with_reducible repeat (first | refine blk_drewN ?_ _ | refine blk_drew ?_ | refine blk_alloc ?_ _)); refine blk_far ?_ NB403_404.out _; (with_reducible repeat (first | refine blk_drewN ?_ _ | refine blk_drew ?_ | refine blk_alloc ?_ _)); exact BK403.out) Try.underlying69 rfl kf) rfl ?_
     exact ⟨_, er, by (with_reducible repeat (first | apply Kd.R_alloc | apply Kd.R_drewN | apply Kd.R_drew)); exact Kd.R_mono (Kd.R_far (p := ⟨gb403, 1, none⟩) (Kd.R_far (p := ⟨gb403, 0, none⟩) (Kd.R_far (p := ⟨gb404, 1, none⟩) (Kd.R_types (Kd.R_types HO412.out BK404.out (by decide)) BK403.out (by decide)) (fun _ hk => hk.1.2) (.slice Ao28 y410.length co28)) (fun _ hk => hk.2) (.bool (a0_0 != (decide (a1 < 0))))) (fun _ hk => hk.2) (.slice Ao28 y410.length co28)) (fun _ hk => trivial), bz3 GE402 GE403 GE404⟩
    ·rw [if_neg c23] at H
     exact absurd H (by simp)
def impl_long_digit.f (a0_0 : Bool) (l0_1 : List Int) (a1 : Int) : Option (Int) := if a1 < (l0_1.length : Int) then (if 0 ≤ a1 then (some (rd l0_1 a1)) else (none)) else (some 0)
set_option maxHeartbeats 8000000 in
set_option maxRecDepth 100000 in
theorem impl_long_digit.calls (a0_0 : Bool) (A0_1 : Option Addr) (c0_1 : Nat) (l0_1 : List Int) (a1 : Int) (r : Int) (w : World) (hr0_1 : Kd.C (Kd.int .u32) w A0_1 l0_1.length l0_1) (hc0_1 : l0_1.length ≤ c0_1) (h : impl_long_digit.f a0_0 l0_1 a1 = some r) :
 Calls Try.prog 113 #[.agg #[.bool a0_0, .slice A0_1 l0_1.length c0_1], .int .i64 a1] w fun e w' => e = .returned (.int .u32 r) ∧ Below w.heap.size w w' := by
 have hu69 := Try.underlying69
 have HR0_1 := Aside0.mk hr0_1
 have HC0_1 := Aside0.mk hc0_1
 clear hr0_1 hc0_1
 have HB := Aside0.mk (Below.refl w.heap.size w)
 have H : (if a1 < (l0_1.length : Int) then (if 0 ≤ a1 then (some (rd l0_1 a1)) else (none)) else (some 0)) = some r := h
 clear h
 by_cases c3 : a1 < (l0_1.length : Int)
 ·rw [if_pos c3] at H
  have c3b0 : decide (a1 < (l0_1.length : Int)) = true := decide_eq_true c3
  clear c3
  by_cases c4 : 0 ≤ a1
  ·rw [if_pos c4] at H
   have c4b0 : decide (0 ≤ a1) = true := decide_eq_true c4
   clear c4
   obtain rfl := Option.some.inj H
   go_enter Try.func113, Try.ntmps113
   go_wp2_with (first | ((with_reducible refine gate_dst (N := 2) rfl ?_); refine bv (N := 2) (cs := #[.bool a0_0, .slice A0_1 l0_1.length c0_1]) (t := 69) ?_; intro gb413 hg w5 hbox hb; have n0_ := Aside0.mk (below_step bz hb); have n1_ := Aside0.mk (hbox); have n2_ := (gz hg : Aside0 (w.heap.size ≤ _)); have n3_ := (gz hg : Aside0 (w.heap.size ≤ _)); clear HB; have HB := n0_; have BK413 := n1_; have GW413 := n2_; have GE413 := n3_; clear n0_ n1_ n2_ n3_; clear hb hbox hg; have hcz6_0 : w5.cell? ⟨gb413, 0, none⟩ = some (.bool a0_0) := (blk_cell BK413.out 0).trans rfl; have hcz6_1 : w5.cell? ⟨gb413, 1, none⟩ = some (.slice A0_1 l0_1.length c0_1) := (blk_cell BK413.out 1).trans rfl; have hfz6_0 := blk_frozen BK413.out 0; have hfz6_1 := blk_frozen BK413.out 1; have p414 : 0 ≤ (a1 : Int) := of_decide_eq_true am; have q414 : a1 < (l0_1.length : Int) := of_decide_eq_true am; obtain ⟨ad414, e414, hx414_0⟩ := Kd.at_int HR0_1.out a1 p414 q414; cases e414; replace hx414_0 := (HB.out.cell (World.block_lt_of_cell? w _ hx414_0)).trans hx414_0; replace p414 := eq_true p414; replace q414 := eq_true q414))
   go_ret
   exact ⟨er, bz1 GE413⟩
  ·rw [if_neg c4] at H
   exact absurd H (by simp)
 ·rw [if_neg c3] at H
  have c3b0 : decide (a1 < (l0_1.length : Int)) = false := decide_eq_false c3
  clear c3
  obtain rfl := Option.some.inj H
  go_enter Try.func113, Try.ntmps113
  go_wp2_with (first | ((with_reducible refine gate_dst (N := 2) rfl ?_); refine bv (N := 2) (cs := #[.bool a0_0, .slice A0_1 l0_1.length c0_1]) (t := 69) ?_; intro gb413 hg w7 hbox hb; have n0_ := Aside0.mk (below_step bz hb); have n1_ := Aside0.mk (hbox); have n2_ := (gz hg : Aside0 (w.heap.size ≤ _)); have n3_ := (gz hg : Aside0 (w.heap.size ≤ _)); clear HB; have HB := n0_; have BK413 := n1_; have GW413 := n2_; have GE413 := n3_; clear n0_ n1_ n2_ n3_; clear hb hbox hg; have hcz8_0 : w7.cell? ⟨gb413, 0, none⟩ = some (.bool a0_0) := (blk_cell BK413.out 0).trans rfl; have hcz8_1 : w7.cell? ⟨gb413, 1, none⟩ = some (.slice A0_1 l0_1.length c0_1) := (blk_cell BK413.out 1).trans rfl; have hfz8_0 := blk_frozen BK413.out 0; have hfz8_1 := blk_frozen BK413.out 1))
  go_ret
  exact ⟨er, bz1 GE413⟩
def cmp_isNaN_uint32.f (a0 : Int) : Option (Bool) := some (a0 != a0)
set_option maxHeartbeats 8000000 in
set_option maxRecDepth 100000 in
theorem cmp_isNaN_uint32.calls (a0 : Int) (r : Bool) (w : World) (h : cmp_isNaN_uint32.f a0 = some r) :
 Calls Try.prog 136 #[.int .u32 a0] w fun e w' => e = .returned (.bool r) ∧ Drawn0 w w' := by
 have H : (some (a0 != a0)) = some r := h
 clear h
 obtain rfl := Option.some.inj H
 go_enter Try.func136, Try.ntmps136
 go_wp2
 go_ret
 exact ⟨sr, dz⟩
def cmp_Compare_uint32.f (a0 : Int) (a1 : Int) : Option (Int) := (cmp_isNaN_uint32.f a0).bind fun t415 => ((cmp_isNaN_uint32.f a1).bind fun t416 => (if t415 = true then (if t416 = true then (some 0) else (some (-1))) else (if t416 = true then (some 1) else (if a0 < a1 then (some (-1)) else (if a0 > a1 then (some 1) else (some 0))))))
set_option maxHeartbeats 8000000 in
set_option maxRecDepth 100000 in
theorem cmp_Compare_uint32.calls (a0 : Int) (a1 : Int) (r : Int) (w : World) (h : cmp_Compare_uint32.f a0 a1 = some r) :
 Calls Try.prog 129 #[.int .u32 a0, .int .u32 a1] w fun e w' => e = .returned (.int .i64 r) ∧ Drawn0 w w' := by
 have H : ((cmp_isNaN_uint32.f a0).bind fun t415 => ((cmp_isNaN_uint32.f a1).bind fun t416 => (if t415 = true then (if t416 = true then (some 0) else (some (-1))) else (if t416 = true then (some 1) else (if a0 < a1 then (some (-1)) else (if a0 > a1 then (some 1) else (some 0))))))) = some r := h
 clear h
 obtain ⟨t415, A3, H⟩ := bi H
 obtain ⟨t416, A4, H⟩ := bi H
 by_cases c5 : t415 = true
 ·subst c5
  rw [if_pos rfl] at H
  by_cases c6 : t416 = true
  ·subst c6
   rw [if_pos rfl] at H
   obtain rfl := Option.some.inj H
   go_enter Try.func129, Try.ntmps129
   go_wp2_with (first | ((with_reducible refine gate_callee (f := 136) rfl ?_); refine goesL_ (some 8) rfl rfl Try.func136 kf rfl #[.int .u32 a0] rfl sm ?_; (with_reducible refine (cmp_isNaN_uint32.calls a0 true _ A3.out).mono ?_); rintro e w' ⟨rfl, ⟨nd, rfl⟩⟩; refine ⟨_, rfl, ?_⟩) | ((with_reducible refine gate_callee (f := 136) rfl ?_); refine goesL_ (some 10) rfl rfl Try.func136 kf rfl #[.int .u32 a1] rfl sm ?_; (with_reducible refine (cmp_isNaN_uint32.calls a1 true _ A4.out).mono ?_); rintro e w' ⟨rfl, ⟨nd, rfl⟩⟩; refine ⟨_, rfl, ?_⟩))
   go_ret
   exact ⟨sr, dz⟩
  ·replace c6 := Bool.eq_false_iff.mpr c6
   subst c6
   rw [if_neg (show ¬ (false = true) by decide)] at H
   obtain rfl := Option.some.inj H
   go_enter Try.func129, Try.ntmps129
   go_wp2_with (first | ((with_reducible refine gate_callee (f := 136) rfl ?_); refine goesL_ (some 8) rfl rfl Try.func136 kf rfl #[.int .u32 a0] rfl sm ?_; (with_reducible refine (cmp_isNaN_uint32.calls a0 true _ A3.out).mono ?_); rintro e w' ⟨rfl, ⟨nd, rfl⟩⟩; refine ⟨_, rfl, ?_⟩) | ((with_reducible refine gate_callee (f := 136) rfl ?_); refine goesL_ (some 10) rfl rfl Try.func136 kf rfl #[.int .u32 a1] rfl sm ?_; (with_reducible refine (cmp_isNaN_uint32.calls a1 false _ A4.out).mono ?_); rintro e w' ⟨rfl, ⟨nd, rfl⟩⟩; refine ⟨_, rfl, ?_⟩))
   go_ret
   exact ⟨sr, dz⟩
 ·replace c5 := Bool.eq_false_iff.mpr c5
  subst c5
  rw [if_neg (show ¬ (false = true) by decide)] at H
  by_cases c7 : t416 = true
  ·subst c7
   rw [if_pos rfl] at H
   obtain rfl := Option.some.inj H
   go_enter Try.func129, Try.ntmps129
   go_wp2_with (first | ((with_reducible refine gate_callee (f := 136) rfl ?_); refine goesL_ (some 8) rfl rfl Try.func136 kf rfl #[.int .u32 a0] rfl sm ?_; (with_reducible refine (cmp_isNaN_uint32.calls a0 false _ A3.out).mono ?_); rintro e w' ⟨rfl, ⟨nd, rfl⟩⟩; refine ⟨_, rfl, ?_⟩) | ((with_reducible refine gate_callee (f := 136) rfl ?_); refine goesL_ (some 10) rfl rfl Try.func136 kf rfl #[.int .u32 a1] rfl sm ?_; (with_reducible refine (cmp_isNaN_uint32.calls a1 true _ A4.out).mono ?_); rintro e w' ⟨rfl, ⟨nd, rfl⟩⟩; refine ⟨_, rfl, ?_⟩))
   go_ret
   exact ⟨sr, dz⟩
  ·replace c7 := Bool.eq_false_iff.mpr c7
   subst c7
   rw [if_neg (show ¬ (false = true) by decide)] at H
   by_cases c8 : a0 < a1
   ·rw [if_pos c8] at H
    have c8b0 : decide (a0 < a1) = true := decide_eq_true c8
    clear c8
    obtain rfl := Option.some.inj H
    go_enter Try.func129, Try.ntmps129
    go_wp2_with (first | ((with_reducible refine gate_callee (f := 136) rfl ?_); refine goesL_ (some 8) rfl rfl Try.func136 kf rfl #[.int .u32 a0] rfl sm ?_; (with_reducible refine (cmp_isNaN_uint32.calls a0 false _ A3.out).mono ?_); rintro e w' ⟨rfl, ⟨nd, rfl⟩⟩; refine ⟨_, rfl, ?_⟩) | ((with_reducible refine gate_callee (f := 136) rfl ?_); refine goesL_ (some 10) rfl rfl Try.func136 kf rfl #[.int .u32 a1] rfl sm ?_; (with_reducible refine (cmp_isNaN_uint32.calls a1 false _ A4.out).mono ?_); rintro e w' ⟨rfl, ⟨nd, rfl⟩⟩; refine ⟨_, rfl, ?_⟩))
    go_ret
    exact ⟨sr, dz⟩
   ·rw [if_neg c8] at H
    have c8b0 : decide (a0 < a1) = false := decide_eq_false c8
    clear c8
    by_cases c9 : a0 > a1
    ·rw [if_pos c9] at H
     have c9b0 : decide (a1 < a0) = true := decide_eq_true c9
     clear c9
     obtain rfl := Option.some.inj H
     go_enter Try.func129, Try.ntmps129
     go_wp2_with (first | ((with_reducible refine gate_callee (f := 136) rfl ?_); refine goesL_ (some 8) rfl rfl Try.func136 kf rfl #[.int .u32 a0] rfl sm ?_; (with_reducible refine (cmp_isNaN_uint32.calls a0 false _ A3.out).mono ?_); rintro e w' ⟨rfl, ⟨nd, rfl⟩⟩; refine ⟨_, rfl, ?_⟩) | ((with_reducible refine gate_callee (f := 136) rfl ?_); refine goesL_ (some 10) rfl rfl Try.func136 kf rfl #[.int .u32 a1] rfl sm ?_; (with_reducible refine (cmp_isNaN_uint32.calls a1 false _ A4.out).mono ?_); rintro e w' ⟨rfl, ⟨nd, rfl⟩⟩; refine ⟨_, rfl, ?_⟩))
     go_ret
     exact ⟨sr, dz⟩
    ·rw [if_neg c9] at H
     have c9b0 : decide (a1 < a0) = false := decide_eq_false c9
     clear c9
     obtain rfl := Option.some.inj H
     go_enter Try.func129, Try.ntmps129
     go_wp2_with (first | ((with_reducible refine gate_callee (f := 136) rfl ?_); refine goesL_ (some 8) rfl rfl Try.func136 kf rfl #[.int .u32 a0] rfl sm ?_; (with_reducible refine (cmp_isNaN_uint32.calls a0 false _ A3.out).mono ?_); rintro e w' ⟨rfl, ⟨nd, rfl⟩⟩; refine ⟨_, rfl, ?_⟩) | ((with_reducible refine gate_callee (f := 136) rfl ?_); refine goesL_ (some 10) rfl rfl Try.func136 kf rfl #[.int .u32 a1] rfl sm ?_; (with_reducible refine (cmp_isNaN_uint32.calls a1 false _ A4.out).mono ?_); rintro e w' ⟨rfl, ⟨nd, rfl⟩⟩; refine ⟨_, rfl, ?_⟩))
     go_ret
     exact ⟨sr, dz⟩
end Go.Proofs.Ytcgcgifndkeeoaa.QSt
