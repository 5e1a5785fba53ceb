import Derived.Test.YtalcohajbcijlaaZSignsAtSq
import Derived.Test.YtalcohajbcijlaaZSignsAtQSiAx9
namespace Go.Proofs.Ytalcohajbcijlaa.QSiA
open Go.RowKit Go.Proofs.YtalcohajbcijlaaW.PrintWords Go.Proofs.YtalcohajbcijlaaW.PrintLast Go.Proofs.YtalcohajbcijlaaW.PrintMore
attribute [local go_sem] max2_int min2_int max_two min_two max_three min_three max_four min_four
set_option linter.unusedVariables false
set_option linter.unusedSimpArgs false
def impl_compareTerms.f (k : Nat) (a0_0 : Int) (a0_1 : Int) (a0_2 : Int) (a0_3 : Int) (a1_0 : Int) (a1_1 : Int) (a1_2 : Int) (a1_3 : Int) : Option (Int) := (cmp_Compare_int.f a0_1 a1_1).bind fun t212 => ((cmp_Compare_int.f a0_2 a1_2).bind fun t213 => ((cmp_Compare_int.f a0_3 a1_3).bind fun t214 => ((cmp_Or_int.f k (([t212, t213, t214] : List Int))).bind fun t218 => (some t218))))
def impl_compareTerms.T1 : Bool × List (List Nat × List Nat) := (true, [([], []), ([0], [0]), ([], []), ([2], [2]), ([1, 3], [1, 3]), ([], []), ([5], [5]), ([], []), ([7], [7]), ([6, 8, 4], [6, 8]), ([], []), ([10], [10]), ([], []), ([12], [12]), ([11, 13, 9], [11, 13]), ([4, 9, 14], [4, 9, 14]), ([15, 14], [15]), ([16, 16, 0, 1, 2, 3, 4, 5, 6, 7, 8, 9, 10, 11, 12, 13, 14, 15, 16], [16])])
def impl_compareTerms.B1 : List Nat := [0, 1, 0, 4, 15, 0, 32, 0, 128, 511, 0, 1024, 0, 4096, 16383, 32767, 65535, 131071]
theorem impl_compareTerms.tab1 : rtab .any (opsOf Try.f142 1) = impl_compareTerms.T1 := by kernel_rfl
theorem impl_compareTerms.bits1 : waitsOk impl_compareTerms.T1.2 impl_compareTerms.B1 = true := by kernel_rfl
set_option maxHeartbeats 8000000 in
set_option maxRecDepth 100000 in
theorem impl_compareTerms.calls (k : Nat) (a0_0 : Int) (a0_1 : Int) (a0_2 : Int) (a0_3 : Int) (a1_0 : Int) (a1_1 : Int) (a1_2 : Int) (a1_3 : Int) (r : Int) (w : World) (h : impl_compareTerms.f k a0_0 a0_1 a0_2 a0_3 a1_0 a1_1 a1_2 a1_3 = some r) :
 Calls Try.prog 142 #[.agg #[.int .i64 a0_0, .int .i64 a0_1, .int .i64 a0_2, .int .i64 a0_3], .agg #[.int .i64 a1_0, .int .i64 a1_1, .int .i64 a1_2, .int .i64 a1_3]] w fun e w' => e = .returned (.int .i64 r) ∧ Below w.heap.size w w' := by
 have hu107 := Try.underlying107
 have HB := Aside0.mk (Below.refl w.heap.size w)
 have H : ((cmp_Compare_int.f a0_1 a1_1).bind fun t212 => ((cmp_Compare_int.f a0_2 a1_2).bind fun t213 => ((cmp_Compare_int.f a0_3 a1_3).bind fun t214 => ((cmp_Or_int.f k (([t212, t213, t214] : List Int))).bind fun t218 => (some t218))))) = some r := h
 clear h
 obtain ⟨t212, A3, H⟩ := bi H
 obtain ⟨t213, A4, H⟩ := bi H
 obtain ⟨t214, A5, H⟩ := bi H
 obtain ⟨y215, hy215⟩ : ∃ y_ : List Int, y_ = (([t212, t213, t214] : List Int)) := ⟨_, rfl⟩
 replace H : ((cmp_Or_int.f k y215).bind fun t218 => (some t218)) = some r := by first | (rw [hy215]; with_reducible exact H) | (have H2_ := (Option.bind_some _ _).symm.trans H; rw [hy215]; with_reducible exact H2_) | (have H2_ := (Option.bind_some _ _).symm.trans H; with_reducible exact H2_) | with_reducible exact H | (rw [hy215]; exact H) | exact H
 have Ny215 := Aside0.mk hy215
 clear hy215
 obtain ⟨t218, A6, H⟩ := bi H
 obtain rfl := Option.some.inj H
 go_enter Try.func142, Try.ntmps142
 try go_wp2_with (first | ((with_reducible refine gate_dst (N := 2) rfl ?_); refine bv (N := 2) (cs := #[.int .i64 a0_0, .int .i64 a0_1, .int .i64 a0_2, .int .i64 a0_3]) (t := 107) ?_; intro gb210 hg w7 hbox hb; have n0_ := Aside0.mk (below_step bz hb); have n1_ := Aside0.mk (hbox); have n2_ := (gz hg : Aside0 (w.heap.size ≤ _)); have n3_ := (gz hg : Aside0 (w.heap.size ≤ _)); clear HB; have HB := n0_; have BK210 := n1_; have GW210 := n2_; have GE210 := n3_; clear n0_ n1_ n2_ n3_; clear hb hbox hg) | ((with_reducible refine gate_dst (N := 3) rfl ?_); refine bv (N := 3) (cs := #[.int .i64 a1_0, .int .i64 a1_1, .int .i64 a1_2, .int .i64 a1_3]) (t := 107) ?_; intro gb211 hg w8 hbox hb; have n0_ := bb BK210 hb; have n1_ := Aside0.mk (below_step (bz1 GE210) hb); have n2_ := Aside0.mk (hbox); have n3_ := Aside0.mk ((by rw [hg]; exact (below_size (bz1 GE210)) : w.heap.size ≤ gb211)); have n4_ := Aside0.mk ((by rw [hg]; exact (below_size (bz1 GE210)) : w.heap.size ≤ gb211)); have n5_ := Aside0.mk ((by rw [hg]; exact Nat.ne_of_lt (blk_lt (g := gb210) (o := .cells #[.int .i64 a0_0, .int .i64 a0_1, .int .i64 a0_2, .int .i64 a0_3] 107 (0, 0)) (bk BK210)) : gb210 ≠ gb211)); have n6_ := Aside0.mk ((by rw [hg]; exact Nat.ne_of_gt (blk_lt (g := gb210) (o := .cells #[.int .i64 a0_0, .int .i64 a0_1, .int .i64 a0_2, .int .i64 a0_3] 107 (0, 0)) (bk BK210)) : gb211 ≠ gb210)); clear BK210; clear HB; have BK210 := n0_; have HB := n1_; have BK211 := n2_; have GW211 := n3_; have GE211 := n4_; have NB210_211 := n5_; have NB211_210 := n6_; clear n0_ n1_ n2_ n3_ n4_ n5_ n6_; clear hb hbox hg))
 have n0_ := Aside0.mk (blk_drew BK210.out)
 have n1_ := Aside0.mk (blk_drew BK211.out)
 have n2_ := Aside0.mk (below_drew1 HB.out)
 clear BK210 BK211 HB
 have BK210 := n0_
 have BK211 := n1_
 have HB := n2_
 clear n0_ n1_ n2_
 refine start_ (n := 18) (S := fun w' => w'.cell? ⟨gb210, 0, none⟩ = some (.int .i64 a0_0) ∧ w'.cell? ⟨gb210, 1, none⟩ = some (.int .i64 a0_1) ∧ w'.cell? ⟨gb210, 2, none⟩ = some (.int .i64 a0_2) ∧ w'.cell? ⟨gb210, 3, none⟩ = some (.int .i64 a0_3) ∧ w'.cell? ⟨gb211, 0, none⟩ = some (.int .i64 a1_0) ∧ w'.cell? ⟨gb211, 1, none⟩ = some (.int .i64 a1_1) ∧ w'.cell? ⟨gb211, 2, none⟩ = some (.int .i64 a1_2) ∧ w'.cell? ⟨gb211, 3, none⟩ = some (.int .i64 a1_3)) (ds := []) #[fF, fF, fF, fF, fF, fF, fF, fF, fF, fF, fF, fF, fF, fF, fF, fF, fF, fF] kf rfl rfl ⟨(blk_cell BK210.out 0).trans rfl, (blk_cell BK210.out 1).trans rfl, (blk_cell BK210.out 2).trans rfl, (blk_cell BK210.out 3).trans rfl, (blk_cell BK211.out 0).trans rfl, (blk_cell BK211.out 1).trans rfl, (blk_cell BK211.out 2).trans rfl, (blk_cell BK211.out 3).trans rfl⟩ (fun hHeld => ?_); refine with_tabW impl_compareTerms.tab1 impl_compareTerms.bits1 (fun HT_ HW_ => ?_)
 generalize w8.drew = w9 at BK210 BK211 HB hHeld ⊢
 refine pq (i := 0) (N := some 5) #[tT, fF, fF, fF, fF, fF, fF, fF, fF, fF, fF, fF, fF, fF, fF, fF, fF, fF] rfl rfl HT_.out ?_
 refine pq (i := 2) (N := some 7) #[tT, fF, tT, fF, fF, fF, fF, fF, fF, fF, fF, fF, fF, fF, fF, fF, fF, fF] rfl rfl HT_.out ?_
 refine pq (i := 5) (N := some 10) #[tT, fF, tT, fF, fF, tT, fF, fF, fF, fF, fF, fF, fF, fF, fF, fF, fF, fF] rfl rfl HT_.out ?_
 refine pq (i := 7) (N := some 12) #[tT, fF, tT, fF, fF, tT, fF, tT, fF, fF, fF, fF, fF, fF, fF, fF, fF, fF] rfl rfl HT_.out ?_
 refine pq (i := 10) (N := some 15) #[tT, fF, tT, fF, fF, tT, fF, tT, fF, fF, tT, fF, fF, fF, fF, fF, fF, fF] rfl rfl HT_.out ?_
 refine pq (i := 12) (N := some 17) #[tT, fF, tT, fF, fF, tT, fF, tT, fF, fF, tT, fF, tT, fF, fF, fF, fF, fF] rfl rfl HT_.out ?_
 refine tq8 (i := 1) (N := some 6) #[tT, tT, tT, fF, fF, tT, fF, tT, fF, fF, tT, fF, tT, fF, fF, fF, fF, fF] rfl rfl HT_.out HW_.out hHeld ?_
 refine tq8 (i := 3) (N := some 8) #[tT, tT, tT, tT, fF, tT, fF, tT, fF, fF, tT, fF, tT, fF, fF, fF, fF, fF] rfl rfl HT_.out HW_.out hHeld ?_
 refine tq8 (i := 6) (N := some 11) #[tT, tT, tT, tT, fF, tT, tT, tT, fF, fF, tT, fF, tT, fF, fF, fF, fF, fF] rfl rfl HT_.out HW_.out hHeld ?_
 refine tq8 (i := 8) (N := some 13) #[tT, tT, tT, tT, fF, tT, tT, tT, tT, fF, tT, fF, tT, fF, fF, fF, fF, fF] rfl rfl HT_.out HW_.out hHeld ?_
 refine tq8 (i := 11) (N := some 16) #[tT, tT, tT, tT, fF, tT, tT, tT, tT, fF, tT, tT, tT, fF, fF, fF, fF, fF] rfl rfl HT_.out HW_.out hHeld ?_
 refine tq8 (i := 13) (N := some 18) #[tT, tT, tT, tT, fF, tT, tT, tT, tT, fF, tT, tT, tT, tT, fF, fF, fF, fF] rfl rfl HT_.out HW_.out hHeld ?_
 refine one_ (i := 4) (N := some 9) #[tT, tT, tT, tT, tT, tT, tT, tT, tT, fF, tT, tT, tT, tT, fF, fF, fF, fF] rfl rfl (one_of HT_.out kf) (by decide) (fun K hK => ?_)
 refine goes_ Try.func81 kf rfl #[.int .i64 a0_1, .int .i64 a1_1] (by rfl) rfl rfl sm ?_
 with_reducible refine (cmp_Compare_int.calls a0_1 a1_1 t212 _ A3.out).mono ?_
 rintro e w' ⟨rfl, ⟨nd, rfl⟩⟩
 refine ⟨_, rfl, ?_⟩
 refine hK.out _ _ ⟨(blk_cell BK210.out 0).trans rfl, (blk_cell BK210.out 1).trans rfl, (blk_cell BK210.out 2).trans rfl, (blk_cell BK210.out 3).trans rfl, (blk_cell BK211.out 0).trans rfl, (blk_cell BK211.out 1).trans rfl, (blk_cell BK211.out 2).trans rfl, (blk_cell BK211.out 3).trans rfl⟩ (fun hHeld => ?_)
 clear hK K
 refine norm_ (a' := ?_) ?_ ?_
 rotate_left
 ·show Act.put _ (some 9) _ = _
  simp only [Act.put, List.setIfInBounds_toArray, List.set_cons_zero, List.set_cons_succ, i64_w, i32_w]
  rfl
 refine one_ (i := 9) (N := some 14) #[tT, tT, tT, tT, tT, tT, tT, tT, tT, tT, tT, tT, tT, tT, fF, fF, fF, fF] rfl rfl (one_of HT_.out kf) (by decide) (fun K hK => ?_)
 refine goes_ Try.func81 kf rfl #[.int .i64 a0_2, .int .i64 a1_2] (by rfl) rfl rfl sm ?_
 with_reducible refine (cmp_Compare_int.calls a0_2 a1_2 t213 _ A4.out).mono ?_
 rintro e w' ⟨rfl, ⟨nd, rfl⟩⟩
 refine ⟨_, rfl, ?_⟩
 refine hK.out _ _ ⟨(blk_cell BK210.out 0).trans rfl, (blk_cell BK210.out 1).trans rfl, (blk_cell BK210.out 2).trans rfl, (blk_cell BK210.out 3).trans rfl, (blk_cell BK211.out 0).trans rfl, (blk_cell BK211.out 1).trans rfl, (blk_cell BK211.out 2).trans rfl, (blk_cell BK211.out 3).trans rfl⟩ (fun hHeld => ?_)
 clear hK K
 refine norm_ (a' := ?_) ?_ ?_
 rotate_left
 ·show Act.put _ (some 14) _ = _
  simp only [Act.put, List.setIfInBounds_toArray, List.set_cons_zero, List.set_cons_succ, i64_w, i32_w]
  rfl
 refine one_ (i := 14) (N := some 19) #[tT, tT, tT, tT, tT, tT, tT, tT, tT, tT, tT, tT, tT, tT, tT, fF, fF, fF] rfl rfl (one_of HT_.out kf) (by decide) (fun K hK => ?_)
 refine goes_ Try.func81 kf rfl #[.int .i64 a0_3, .int .i64 a1_3] (by rfl) rfl rfl sm ?_
 with_reducible refine (cmp_Compare_int.calls a0_3 a1_3 t214 _ A5.out).mono ?_
 rintro e w' ⟨rfl, ⟨nd, rfl⟩⟩
 refine ⟨_, rfl, ?_⟩
 refine hK.out _ _ ⟨(blk_cell BK210.out 0).trans rfl, (blk_cell BK210.out 1).trans rfl, (blk_cell BK210.out 2).trans rfl, (blk_cell BK210.out 3).trans rfl, (blk_cell BK211.out 0).trans rfl, (blk_cell BK211.out 1).trans rfl, (blk_cell BK211.out 2).trans rfl, (blk_cell BK211.out 3).trans rfl⟩ (fun hHeld => ?_)
 clear hK K
 refine norm_ (a' := ?_) ?_ ?_
 rotate_left
 ·show Act.put _ (some 19) _ = _
  simp only [Act.put, List.setIfInBounds_toArray, List.set_cons_zero, List.set_cons_succ, i64_w, i32_w]
  rfl
 refine one_ (i := 15) (N := some 20) #[tT, tT, tT, tT, tT, tT, tT, tT, tT, tT, tT, tT, tT, tT, tT, tT, fF, fF] rfl rfl (one_of HT_.out kf) (by decide) (fun K hK => ?_)
 refine Kd.R_lit_step (Kd.int .i64) _ 3 ?hg (N := 20) ?hd (xs := ([t212, t213, t214] : List Int)) (inner := [.int .i64 t212, .int .i64 t213, .int .i64 t214]) (ok := fun _ => True) (okp := fun _ => True) ?hr ?hp (fun _ hk => hk) trivial (Below.refl _ _) (Nat.le_refl _) (by simp) ?_; (case hd => rfl); (case hg => rfl); (case hr => first | (go_simp; done) | (go_simp; rfl)); (case hp => exact (Reps.one (show Kd.M (Kd.int .i64) _ _ _ t212 [.int .i64 t212] from rfl) (Reps.one (show Kd.M (Kd.int .i64) _ _ _ t213 [.int .i64 t213] from rfl) (Reps.one (show Kd.M (Kd.int .i64) _ _ _ t214 [.int .i64 t214] from rfl) (Reps.none _ _)))))
 intro v216 w10 ho11 hb hg_ hnew_
 clear hg_ hnew_
 (first | rw [← Ny215.out] at ho11 | (simp only [Int.reduceToNat] at ho11; rw [← Ny215.out] at ho11))
 have n0_ := Aside0.mk (Kd.R_lower ho11 (below_size (bz2 GE210 GE211)))
 have n1_ := bb BK210 hb
 have n2_ := bb BK211 hb
 have n3_ := Aside0.mk (below_step (bz2 GE210 GE211) hb)
 clear BK210 BK211 HB
 have HO217 := n0_
 have BK210 := n1_
 have BK211 := n2_
 have HB := n3_
 clear n0_ n1_ n2_ n3_ hb ho11
 obtain ⟨Ao12, co12, eo12⟩ := Kd.R_slice HO217.out
 (first | subst eo12 | (injection eo12 with f1_ f2_ f3_; have f4_ := f1_.symm; have f5_ := f3_.symm; clear f1_ f2_ f3_; subst f4_; subst f5_))
 refine hK.out _ _ ⟨(blk_cell BK210.out 0).trans rfl, (blk_cell BK210.out 1).trans rfl, (blk_cell BK210.out 2).trans rfl, (blk_cell BK210.out 3).trans rfl, (blk_cell BK211.out 0).trans rfl, (blk_cell BK211.out 1).trans rfl, (blk_cell BK211.out 2).trans rfl, (blk_cell BK211.out 3).trans rfl⟩ (fun hHeld => ?_)
 clear hK K
 refine norm_ (a' := ?_) ?_ ?_
 rotate_left
 ·show Act.put _ (some 20) _ = _
  simp only [Act.put, List.setIfInBounds_toArray, List.set_cons_zero, List.set_cons_succ, i64_w, i32_w]
  rfl
 refine one_ (i := 16) (N := some 21) #[tT, tT, tT, tT, tT, tT, tT, tT, tT, tT, tT, tT, tT, tT, tT, tT, tT, fF] rfl rfl (one_of HT_.out kf) (by decide) (fun K hK => ?_)
 refine goes_ Try.func150 kf rfl #[.slice Ao12 y215.length co12] (by rfl) rfl rfl sm ?_
 with_reducible refine (cmp_Or_int.calls k _ _ y215 t218 _ ?side1 ?side2 A6.out).mono ?_
 (case side1 => exact cr HO217)
 (case side2 => exact (Kd.R_reads' HO217.out).2.1)
 rintro e w' ⟨rfl, ⟨nd, rfl⟩⟩
 refine ⟨_, rfl, ?_⟩
 refine hK.out _ _ ⟨(blk_cell BK210.out 0).trans rfl, (blk_cell BK210.out 1).trans rfl, (blk_cell BK210.out 2).trans rfl, (blk_cell BK210.out 3).trans rfl, (blk_cell BK211.out 0).trans rfl, (blk_cell BK211.out 1).trans rfl, (blk_cell BK211.out 2).trans rfl, (blk_cell BK211.out 3).trans rfl⟩ (fun hHeld => ?_)
 clear hK K
 refine norm_ (a' := ?_) ?_ ?_
 rotate_left
 ·show Act.put _ (some 21) _ = _
  simp only [Act.put, List.setIfInBounds_toArray, List.set_cons_zero, List.set_cons_succ, i64_w, i32_w]
  rfl
 refine pq (i := 17) (N := some 4) #[tT, tT, tT, tT, tT, tT, tT, tT, tT, tT, tT, tT, tT, tT, tT, tT, tT, tT] rfl rfl HT_.out ?_
 refine done_ (done_of HT_.out kf) ?_
 try go_wp2
 go_ret
 exact ⟨er, bz2 GE210 GE211⟩
def impl_isPoly.l0 : Nat → List (S107) → List (S107) → Int → Int → Option (Bool)
 | 0, _, _, _, _ => none
 | k + 1, x0, x5, x6, x7 => if x7 < x6 then (if 0 ≤ x7 then (if x7 < (x5.length : Int) then (if ((rd_T107 x5 x7).f0) = 0 then (some false) else ((impl_inside.f ((rd_T107 x5 x7).f0) (-1000) 1000).bind fun t221 => (if t221 = true then ((impl_hasDegree.f ((rd_T107 x5 x7).f0) ((rd_T107 x5 x7).f1) ((rd_T107 x5 x7).f2) ((rd_T107 x5 x7).f3)).bind fun t222 => (if t222 = true then (if x7 > 0 then (if 0 ≤ (wrap64 (x7 - 1)) then (if (wrap64 (x7 - 1)) < (x0.length : Int) then ((impl_compareTerms.f k ((rd_T107 x0 (wrap64 (x7 - 1))).f0) ((rd_T107 x0 (wrap64 (x7 - 1))).f1) ((rd_T107 x0 (wrap64 (x7 - 1))).f2) ((rd_T107 x0 (wrap64 (x7 - 1))).f3) ((rd_T107 x5 x7).f0) ((rd_T107 x5 x7).f1) ((rd_T107 x5 x7).f2) ((rd_T107 x5 x7).f3)).bind fun t224 => (if t224 ≥ 0 then (some false) else (impl_isPoly.l0 k x0 x5 x6 (wrap64 (x7 + 1))))) else (none)) else (none)) else (impl_isPoly.l0 k x0 x5 x6 (wrap64 (x7 + 1)))) else (some false))) else (some false)))) else (none)) else (none)) else (some (decide ((x0.length : Int) ≤ 20)))
def impl_isPoly.f (k : Nat) (l0 : List (S107)) : Option (Bool) := impl_isPoly.l0 k l0 l0 (l0.length : Int) 0
def impl_isPoly.T4 : Bool × List (List Nat × List Nat) := (true, [([], []), ([0], [0]), ([1], [1]), ([2], [2]), ([3], [3]), ([4, 3], [3, 4]), ([5, 3, 3], [3, 5]), ([6, 3], [3, 6]), ([3, 7], [3, 7]), ([8, 6], [8]), ([9], [9]), ([10, 9, 9], [9, 10]), ([11, 9], [9, 11]), ([9, 12], [9, 12]), ([13, 11], [13]), ([14], [14]), ([15, 14], [14, 15]), ([16, 14, 14], [14, 16]), ([17], [17]), ([17], [17]), ([19, 17], [17, 19]), ([18, 20, 17], [17, 18, 20]), ([21, 17], [17, 21]), ([17], [17]), ([22, 23, 17, 17], [17, 22, 23]), ([24, 17], [17, 24]), ([17, 25, 14], [14, 17, 25]), ([14, 26], [14, 26])])
def impl_isPoly.B4 : List Nat := [0, 1, 3, 7, 15, 31, 63, 127, 255, 511, 1023, 2047, 4095, 8191, 16383, 32767, 65535, 131071, 262143, 262143, 786431, 2097151, 4194303, 262143, 16777215, 33554431, 67108863, 134217727]
theorem impl_isPoly.tab4 : rtab .any (opsOf Try.f119 4) = impl_isPoly.T4 := by kernel_rfl
theorem impl_isPoly.bits4 : waitsOk impl_isPoly.T4.2 impl_isPoly.B4 = true := by kernel_rfl
set_option maxHeartbeats 8000000 in
set_option maxRecDepth 100000 in
theorem impl_isPoly.calls (k : Nat) (A0 : Option Addr) (c0 : Nat) (l0 : List (S107)) (r : Bool) (w : World) (hr0 : Kd.C k107 w A0 l0.length l0) (hc0 : l0.length ≤ c0) (h : impl_isPoly.f k l0 = some r) :
 Calls Try.prog 119 #[.slice A0 l0.length c0] w fun e w' => e = .returned (.bool r) ∧ Below w.heap.size w w' := by
 have hu107 := Try.underlying107
 have HR0 := Aside0.mk hr0
 have HC0 := Aside0.mk hc0
 clear hr0 hc0
 have HB := Aside0.mk (Below.refl w.heap.size w)
 have H : (impl_isPoly.l0 k l0 l0 (l0.length : Int) 0) = some r := h
 clear h
 have H' := Aside0.mk H
 clear H
 go_enter Try.func119, Try.ntmps119
 go_wp2
 go_loopg [7] k (fun kq v7 w' => ∃ (x7_1 : Int), v7 = .int .i64 x7_1 ∧ Aside0 (impl_isPoly.l0 kq l0 l0 (l0.length : Int) x7_1 = some r) ∧ Aside0 (kq ≤ k) ∧ Aside0 (Below w.heap.size w w'))
 case atStart => exact ⟨(0), sr, H', ⟨Nat.le_refl _⟩, ⟨bz⟩⟩
 case round =>
  clear H'
  try clear c1
  obtain ⟨x7_1, rfl, HA, HK1, HB⟩ := hrel
  cases gk with
  | zero => exact absurd HA.out (by simp [impl_isPoly.l0])
  | succ k1 =>
   have H := HA.out
   clear HA
   simp only [impl_isPoly.l0] at H
   by_cases c2 : x7_1 < (l0.length : Int)
   ·rw [if_pos c2] at H
    have c2b0 : decide (x7_1 < (l0.length : Int)) = true := decide_eq_true c2
    clear c2
    by_cases c3 : 0 ≤ x7_1
    ·rw [if_pos c3] at H
     have c3b0 : decide (0 ≤ x7_1) = true := decide_eq_true c3
     clear c3
     by_cases c4 : x7_1 < (l0.length : Int)
     ·rw [if_pos c4] at H
      have c4b0 : decide (x7_1 < (l0.length : Int)) = true := decide_eq_true c4
      clear c4
      by_cases c5 : ((rd_T107 l0 x7_1).f0) = 0
      ·rw [if_pos c5] at H
       have c5b0 : (((rd_T107 l0 x7_1).f0) == 0) = true := beq_iff_eq.mpr c5
       have c5b1 : (((rd_T107 l0 x7_1).f0) != 0) = false := bne_eq_false_iff_eq.mpr c5
       clear c5
       obtain rfl := Option.some.inj H
       have p219 : 0 ≤ (x7_1 : Int) := of_decide_eq_true am
       have q219 : x7_1 < (l0.length : Int) := of_decide_eq_true am
       obtain ⟨ad219, e219, hx219_0, hx219_1, hx219_2, hx219_3⟩ := at_T107 HR0.out x7_1 p219 q219
       cases e219
       replace hx219_0 := (HB.out.cell (World.block_lt_of_cell? w _ hx219_0)).trans hx219_0
       replace hx219_1 := (HB.out.cell (World.block_lt_of_cell? w _ hx219_1)).trans hx219_1
       replace hx219_2 := (HB.out.cell (World.block_lt_of_cell? w _ hx219_2)).trans hx219_2
       replace hx219_3 := (HB.out.cell (World.block_lt_of_cell? w _ hx219_3)).trans hx219_3
       replace p219 := eq_true p219
       replace q219 := eq_true q219
       try go_wp2_with (first | ((with_reducible refine gate_dst (N := 4) rfl ?_); refine bv (N := 4) (cs := #[.int .i64 0, .int .i64 0, .int .i64 0, .int .i64 0]) (t := 107) ?_; intro gb220 hg w6 hbox hb; have n0_ := Aside0.mk (below_step bz hb); have n1_ := Aside0.mk (hbox); have n2_ := (gz hg : Aside0 (w.heap.size ≤ _)); have n3_ := (gz hg : Aside0 (w.heap.size ≤ _)); clear HB; have HB := n0_; have BK220 := n1_; have GW220 := n2_; have GE220 := n3_; clear n0_ n1_ n2_ n3_; clear hb hbox hg; have hcz7_0 : w6.cell? ⟨gb220, 0, none⟩ = some (.int .i64 0) := (blk_cell BK220.out 0).trans rfl; have hcz7_1 : w6.cell? ⟨gb220, 1, none⟩ = some (.int .i64 0) := (blk_cell BK220.out 1).trans rfl; have hcz7_2 : w6.cell? ⟨gb220, 2, none⟩ = some (.int .i64 0) := (blk_cell BK220.out 2).trans rfl; have hcz7_3 : w6.cell? ⟨gb220, 3, none⟩ = some (.int .i64 0) := (blk_cell BK220.out 3).trans rfl; have hfz7_0 := blk_frozen BK220.out 0; have hfz7_1 := blk_frozen BK220.out 1; have hfz7_2 := blk_frozen BK220.out 2; have hfz7_3 := blk_frozen BK220.out 3))
       have n0_ : Aside0 (((((w6.setCell ⟨gb220, 0, none⟩ (.int .i64 ((rd_T107 l0 x7_1).f0))).setCell ⟨gb220, 1, none⟩ (.int .i64 ((rd_T107 l0 x7_1).f1))).setCell ⟨gb220, 2, none⟩ (.int .i64 ((rd_T107 l0 x7_1).f2))).setCell ⟨gb220, 3, none⟩ (.int .i64 ((rd_T107 l0 x7_1).f3))).heap[gb220]? = some (.cells #[.int .i64 ((rd_T107 l0 x7_1).f0), .int .i64 ((rd_T107 l0 x7_1).f1), .int .i64 ((rd_T107 l0 x7_1).f2), .int .i64 ((rd_T107 l0 x7_1).f3)] 107 (0, 0))) := ⟨by (with_reducible repeat (first | refine blk_drewN ?_ _ | refine blk_drew ?_ | refine blk_alloc ?_ _)); refine blk_put (cs := #[.int .i64 ((rd_T107 l0 x7_1).f0), .int .i64 ((rd_T107 l0 x7_1).f1), .int .i64 ((rd_T107 l0 x7_1).f2), .int .i64 0]) ?_ 3 _ rfl; (with_reducible repeat (first | refine blk_drewN ?_ _ | refine blk_drew ?_ | refine blk_alloc ?_ _)); refine blk_put (cs := #[.int .i64 ((rd_T107 l0 x7_1).f0), .int .i64 ((rd_T107 l0 x7_1).f1), .int .i64 0, .int .i64 0]) ?_ 2 _ rfl; (with_reducible repeat (first | refine blk_drewN ?_ _ | refine blk_drew ?_ | refine blk_alloc ?_ _)); refine blk_put (cs := #[.int .i64 ((rd_T107 l0 x7_1).f0), .int .i64 0, .int .i64 0, .int .i64 0]) ?_ 1 _ rfl; (with_reducible repeat (first | refine blk_drewN ?_ _ | refine blk_drew ?_ | refine blk_alloc ?_ _)); refine blk_put (cs := #[.int .i64 0, .int .i64 0, .int .i64 0, .int .i64 0]) ?_ 0 _ rfl; (with_reducible repeat (first | refine blk_drewN ?_ _ | refine blk_drew ?_ | refine blk_alloc ?_ _)); exact BK220.out⟩
       have n1_ : Aside0 (Below w.heap.size w ((((w6.setCell ⟨gb220, 0, none⟩ (.int .i64 ((rd_T107 l0 x7_1).f0))).setCell ⟨gb220, 1, none⟩ (.int .i64 ((rd_T107 l0 x7_1).f1))).setCell ⟨gb220, 2, none⟩ (.int .i64 ((rd_T107 l0 x7_1).f2))).setCell ⟨gb220, 3, none⟩ (.int .i64 ((rd_T107 l0 x7_1).f3)))) := ⟨bz1 GE220⟩
       (try clear BK220)
       (try clear HB)
       generalize ((((w6.setCell ⟨gb220, 0, none⟩ (.int .i64 ((rd_T107 l0 x7_1).f0))).setCell ⟨gb220, 1, none⟩ (.int .i64 ((rd_T107 l0 x7_1).f1))).setCell ⟨gb220, 2, none⟩ (.int .i64 ((rd_T107 l0 x7_1).f2))).setCell ⟨gb220, 3, none⟩ (.int .i64 ((rd_T107 l0 x7_1).f3))) = w8 at n0_ n1_ ⊢
       have BK220 := n0_
       have HB := n1_
       clear n0_ n1_
       have n0_ := Aside0.mk (blk_drew BK220.out)
       have n1_ := Aside0.mk (below_drew1 HB.out)
       clear BK220 HB
       have BK220 := n0_
       have HB := n1_
       clear n0_ n1_
       refine start_ (n := 28) (S := fun w' => w'.cell? ⟨gb220, 0, none⟩ = some (.int .i64 ((rd_T107 l0 x7_1).f0)) ∧ w'.cell? ⟨gb220, 1, none⟩ = some (.int .i64 ((rd_T107 l0 x7_1).f1)) ∧ w'.cell? ⟨gb220, 2, none⟩ = some (.int .i64 ((rd_T107 l0 x7_1).f2)) ∧ w'.cell? ⟨gb220, 3, none⟩ = some (.int .i64 ((rd_T107 l0 x7_1).f3))) (ds := []) #[fF, fF, fF, fF, fF, fF, fF, fF, fF, fF, fF, fF, fF, fF, fF, fF, fF, fF, fF, fF, fF, fF, fF, fF, fF, fF, fF, fF] kf rfl rfl ⟨(blk_cell BK220.out 0).trans rfl, (blk_cell BK220.out 1).trans rfl, (blk_cell BK220.out 2).trans rfl, (blk_cell BK220.out 3).trans rfl⟩ (fun hHeld => ?_); refine with_tabW impl_isPoly.tab4 impl_isPoly.bits4 (fun HT_ HW_ => ?_)
       generalize w8.drew = w9 at BK220 HB hHeld ⊢
       refine pq (i := 0) (N := some 12) #[tT, fF, fF, fF, fF, fF, fF, fF, fF, fF, fF, fF, fF, fF, fF, fF, fF, fF, fF, fF, fF, fF, fF, fF, fF, fF, fF, fF] rfl rfl HT_.out ?_
       refine tq4 (i := 1) (N := some 13) #[tT, tT, fF, fF, fF, fF, fF, fF, fF, fF, fF, fF, fF, fF, fF, fF, fF, fF, fF, fF, fF, fF, fF, fF, fF, fF, fF, fF] rfl rfl HT_.out HW_.out hHeld ?_
       refine pq (i := 2) (N := some 14) #[tT, tT, tT, fF, fF, fF, fF, fF, fF, fF, fF, fF, fF, fF, fF, fF, fF, fF, fF, fF, fF, fF, fF, fF, fF, fF, fF, fF] rfl rfl HT_.out ?_
       refine pq (i := 3) (N := some 15) #[tT, tT, tT, tT, fF, fF, fF, fF, fF, fF, fF, fF, fF, fF, fF, fF, fF, fF, fF, fF, fF, fF, fF, fF, fF, fF, fF, fF] rfl rfl HT_.out ?_
       refine pure_ (i := 4) (N := some 16) (v := undef) (a' := ?_) #[tT, tT, tT, tT, tT, fF, fF, fF, fF, fF, fF, fF, fF, fF, fF, fF, fF, fF, fF, fF, fF, fF, fF, fF, fF, fF, fF, fF] rfl rfl (any_of HT_.out kf) (fun _ _ _ h => h) (Or.inr ⟨by rfl, rfl⟩) ?_ ?_
       rotate_left
       ·simp only [Act.put, List.setIfInBounds_toArray, List.set_cons_zero, List.set_cons_succ, i64_w, i32_w]
        rfl
       refine pure_ (i := 5) (N := some 17) (v := undef) (a' := ?_) #[tT, tT, tT, tT, tT, tT, fF, fF, fF, fF, fF, fF, fF, fF, fF, fF, fF, fF, fF, fF, fF, fF, fF, fF, fF, fF, fF, fF] rfl rfl (any_of HT_.out kf) (fun _ _ _ h => h) (Or.inr ⟨by rfl, rfl⟩) ?_ ?_
       rotate_left
       ·simp only [Act.put, List.setIfInBounds_toArray, List.set_cons_zero, List.set_cons_succ, i64_w, i32_w]
        rfl
       refine pure_ (i := 6) (N := some 18) (v := undef) (a' := ?_) #[tT, tT, tT, tT, tT, tT, tT, fF, fF, fF, fF, fF, fF, fF, fF, fF, fF, fF, fF, fF, fF, fF, fF, fF, fF, fF, fF, fF] rfl rfl (any_of HT_.out kf) (fun _ _ _ h => h) (Or.inr ⟨by rfl, rfl⟩) ?_ ?_
       rotate_left
       ·simp only [Act.put, List.setIfInBounds_toArray, List.set_cons_zero, List.set_cons_succ, i64_w, i32_w]
        rfl
       refine pure_ (i := 7) (N := some 19) (v := undef) (a' := ?_) #[tT, tT, tT, tT, tT, tT, tT, tT, fF, fF, fF, fF, fF, fF, fF, fF, fF, fF, fF, fF, fF, fF, fF, fF, fF, fF, fF, fF] rfl rfl (any_of HT_.out kf) (fun _ _ _ h => h) (Or.inr ⟨by rfl, rfl⟩) ?_ ?_
       rotate_left
       ·simp only [Act.put, List.setIfInBounds_toArray, List.set_cons_zero, List.set_cons_succ, i64_w, i32_w]
        rfl
       refine pq (i := 8) (N := some 20) #[tT, tT, tT, tT, tT, tT, tT, tT, tT, fF, fF, fF, fF, fF, fF, fF, fF, fF, fF, fF, fF, fF, fF, fF, fF, fF, fF, fF] rfl rfl HT_.out ?_
       refine pq (i := 9) (N := some 21) #[tT, tT, tT, tT, tT, tT, tT, tT, tT, tT, fF, fF, fF, fF, fF, fF, fF, fF, fF, fF, fF, fF, fF, fF, fF, fF, fF, fF] rfl rfl HT_.out ?_
       refine pure_ (i := 10) (N := some 22) (v := undef) (a' := ?_) #[tT, tT, tT, tT, tT, tT, tT, tT, tT, tT, tT, fF, fF, fF, fF, fF, fF, fF, fF, fF, fF, fF, fF, fF, fF, fF, fF, fF] rfl rfl (any_of HT_.out kf) (fun _ _ _ h => h) (Or.inr ⟨by rfl, rfl⟩) ?_ ?_
       rotate_left
       ·simp only [Act.put, List.setIfInBounds_toArray, List.set_cons_zero, List.set_cons_succ, i64_w, i32_w]
        rfl
       refine pure_ (i := 11) (N := some 23) (v := undef) (a' := ?_) #[tT, tT, tT, tT, tT, tT, tT, tT, tT, tT, tT, tT, fF, fF, fF, fF, fF, fF, fF, fF, fF, fF, fF, fF, fF, fF, fF, fF] rfl rfl (any_of HT_.out kf) (fun _ _ _ h => h) (Or.inr ⟨by rfl, rfl⟩) ?_ ?_
       rotate_left
       ·simp only [Act.put, List.setIfInBounds_toArray, List.set_cons_zero, List.set_cons_succ, i64_w, i32_w]
        rfl
       refine pure_ (i := 12) (N := some 24) (v := undef) (a' := ?_) #[tT, tT, tT, tT, tT, tT, tT, tT, tT, tT, tT, tT, tT, fF, fF, fF, fF, fF, fF, fF, fF, fF, fF, fF, fF, fF, fF, fF] rfl rfl (any_of HT_.out kf) (fun _ _ _ h => h) (Or.inr ⟨by rfl, rfl⟩) ?_ ?_
       rotate_left
       ·simp only [Act.put, List.setIfInBounds_toArray, List.set_cons_zero, List.set_cons_succ, i64_w, i32_w]
        rfl
       refine pq (i := 13) (N := some 25) #[tT, tT, tT, tT, tT, tT, tT, tT, tT, tT, tT, tT, tT, tT, fF, fF, fF, fF, fF, fF, fF, fF, fF, fF, fF, fF, fF, fF] rfl rfl HT_.out ?_
       refine pq (i := 14) (N := some 26) #[tT, tT, tT, tT, tT, tT, tT, tT, tT, tT, tT, tT, tT, tT, tT, fF, fF, fF, fF, fF, fF, fF, fF, fF, fF, fF, fF, fF] rfl rfl HT_.out ?_
       refine pure_ (i := 15) (N := some 27) (v := undef) (a' := ?_) #[tT, tT, tT, tT, tT, tT, tT, tT, tT, tT, tT, tT, tT, tT, tT, tT, fF, fF, fF, fF, fF, fF, fF, fF, fF, fF, fF, fF] rfl rfl (any_of HT_.out kf) (fun _ _ _ h => h) (Or.inr ⟨by rfl, rfl⟩) ?_ ?_
       rotate_left
       ·simp only [Act.put, List.setIfInBounds_toArray, List.set_cons_zero, List.set_cons_succ, i64_w, i32_w]
        rfl
       refine pure_ (i := 16) (N := some 28) (v := undef) (a' := ?_) #[tT, tT, tT, tT, tT, tT, tT, tT, tT, tT, tT, tT, tT, tT, tT, tT, tT, fF, fF, fF, fF, fF, fF, fF, fF, fF, fF, fF] rfl rfl (any_of HT_.out kf) (fun _ _ _ h => h) (Or.inr ⟨by rfl, rfl⟩) ?_ ?_
       rotate_left
       ·simp only [Act.put, List.setIfInBounds_toArray, List.set_cons_zero, List.set_cons_succ, i64_w, i32_w]
        rfl
       refine pure_ (i := 17) (N := some 29) (v := undef) (a' := ?_) #[tT, tT, tT, tT, tT, tT, tT, tT, tT, tT, tT, tT, tT, tT, tT, tT, tT, tT, fF, fF, fF, fF, fF, fF, fF, fF, fF, fF] rfl rfl (any_of HT_.out kf) (fun _ _ _ h => h) (Or.inr ⟨by rfl, rfl⟩) ?_ ?_
       rotate_left
       ·simp only [Act.put, List.setIfInBounds_toArray, List.set_cons_zero, List.set_cons_succ, i64_w, i32_w]
        rfl
       refine pure_ (i := 18) (N := some 30) (v := undef) (a' := ?_) #[tT, tT, tT, tT, tT, tT, tT, tT, tT, tT, tT, tT, tT, tT, tT, tT, tT, tT, tT, fF, fF, fF, fF, fF, fF, fF, fF, fF] rfl rfl (any_of HT_.out kf) (fun _ _ _ h => h) (Or.inr ⟨by rfl, rfl⟩) ?_ ?_
       rotate_left
       ·simp only [Act.put, List.setIfInBounds_toArray, List.set_cons_zero, List.set_cons_succ, i64_w, i32_w]
        rfl
       refine pure_ (i := 19) (N := some 31) (v := undef) (a' := ?_) #[tT, tT, tT, tT, tT, tT, tT, tT, tT, tT, tT, tT, tT, tT, tT, tT, tT, tT, tT, tT, fF, fF, fF, fF, fF, fF, fF, fF] rfl rfl (any_of HT_.out kf) (fun _ _ _ h => h) (Or.inr ⟨by rfl, rfl⟩) ?_ ?_
       rotate_left
       ·simp only [Act.put, List.setIfInBounds_toArray, List.set_cons_zero, List.set_cons_succ, i64_w, i32_w]
        rfl
       refine pure_ (i := 20) (N := some 32) (v := undef) (a' := ?_) #[tT, tT, tT, tT, tT, tT, tT, tT, tT, tT, tT, tT, tT, tT, tT, tT, tT, tT, tT, tT, tT, fF, fF, fF, fF, fF, fF, fF] rfl rfl (any_of HT_.out kf) (fun _ _ _ h => h) (Or.inr ⟨by rfl, rfl⟩) ?_ ?_
       rotate_left
       ·simp only [Act.put, List.setIfInBounds_toArray, List.set_cons_zero, List.set_cons_succ, i64_w, i32_w]
        rfl
       refine pure_ (i := 21) (N := some 33) (v := undef) (a' := ?_) #[tT, tT, tT, tT, tT, tT, tT, tT, tT, tT, tT, tT, tT, tT, tT, tT, tT, tT, tT, tT, tT, tT, fF, fF, fF, fF, fF, fF] rfl rfl (any_of HT_.out kf) (fun _ _ _ h => h) (Or.inr ⟨by rfl, rfl⟩) ?_ ?_
       rotate_left
       ·simp only [Act.put, List.setIfInBounds_toArray, List.set_cons_zero, List.set_cons_succ, i64_w, i32_w]
        rfl
       refine pure_ (i := 22) (N := some 34) (v := undef) (a' := ?_) #[tT, tT, tT, tT, tT, tT, tT, tT, tT, tT, tT, tT, tT, tT, tT, tT, tT, tT, tT, tT, tT, tT, tT, fF, fF, fF, fF, fF] rfl rfl (any_of HT_.out kf) (fun _ _ _ h => h) (Or.inr ⟨by rfl, rfl⟩) ?_ ?_
       rotate_left
       ·simp only [Act.put, List.setIfInBounds_toArray, List.set_cons_zero, List.set_cons_succ, i64_w, i32_w]
        rfl
       refine pure_ (i := 23) (N := some 35) (v := undef) (a' := ?_) #[tT, tT, tT, tT, tT, tT, tT, tT, tT, tT, tT, tT, tT, tT, tT, tT, tT, tT, tT, tT, tT, tT, tT, tT, fF, fF, fF, fF] rfl rfl (any_of HT_.out kf) (fun _ _ _ h => h) (Or.inr ⟨by rfl, rfl⟩) ?_ ?_
       rotate_left
       ·simp only [Act.put, List.setIfInBounds_toArray, List.set_cons_zero, List.set_cons_succ, i64_w, i32_w]
        rfl
       refine pure_ (i := 24) (N := some 36) (v := undef) (a' := ?_) #[tT, tT, tT, tT, tT, tT, tT, tT, tT, tT, tT, tT, tT, tT, tT, tT, tT, tT, tT, tT, tT, tT, tT, tT, tT, fF, fF, fF] rfl rfl (any_of HT_.out kf) (fun _ _ _ h => h) (Or.inr ⟨by rfl, rfl⟩) ?_ ?_
       rotate_left
       ·simp only [Act.put, List.setIfInBounds_toArray, List.set_cons_zero, List.set_cons_succ, i64_w, i32_w]
        rfl
       refine pure_ (i := 25) (N := some 37) (v := undef) (a' := ?_) #[tT, tT, tT, tT, tT, tT, tT, tT, tT, tT, tT, tT, tT, tT, tT, tT, tT, tT, tT, tT, tT, tT, tT, tT, tT, tT, fF, fF] rfl rfl (any_of HT_.out kf) (fun _ _ _ h => h) (Or.inr ⟨by rfl, rfl⟩) ?_ ?_
       rotate_left
       ·simp only [Act.put, List.setIfInBounds_toArray, List.set_cons_zero, List.set_cons_succ, i64_w, i32_w]
        rfl
       refine pure_ (i := 26) (N := some 38) (v := undef) (a' := ?_) #[tT, tT, tT, tT, tT, tT, tT, tT, tT, tT, tT, tT, tT, tT, tT, tT, tT, tT, tT, tT, tT, tT, tT, tT, tT, tT, tT, fF] rfl rfl (any_of HT_.out kf) (fun _ _ _ h => h) (Or.inr ⟨by rfl, rfl⟩) ?_ ?_
       rotate_left
       ·simp only [Act.put, List.setIfInBounds_toArray, List.set_cons_zero, List.set_cons_succ, i64_w, i32_w]
        rfl
       refine pq (i := 27) (N := some 39) #[tT, tT, tT, tT, tT, tT, tT, tT, tT, tT, tT, tT, tT, tT, tT, tT, tT, tT, tT, tT, tT, tT, tT, tT, tT, tT, tT, tT] rfl rfl HT_.out ?_
       refine done_ (done_of HT_.out kf) ?_
       try go_wp2
       go_ret
       exact ⟨er, bz1 GE220⟩
      ·rw [if_neg c5] at H
       have c5b0 : (((rd_T107 l0 x7_1).f0) == 0) = false := beq_eq_false_iff_ne.mpr c5
       have c5b1 : (((rd_T107 l0 x7_1).f0) != 0) = true := bne_iff_ne.mpr c5
       obtain ⟨t221, A10, H⟩ := bi H
       by_cases c11 : t221 = true
       ·subst c11
        rw [if_pos rfl] at H
        obtain ⟨t222, A12, H⟩ := bi H
        by_cases c13 : t222 = true
        ·subst c13
         rw [if_pos rfl] at H
         by_cases c14 : x7_1 > 0
         ·rw [if_pos c14] at H
          have c14b0 : decide (0 < x7_1) = true := decide_eq_true c14
          clear c14
          obtain ⟨ji15, hji15⟩ : ∃ j_ : Int, (wrap64 (x7_1 - 1)) = j_ := ⟨_, rfl⟩
          first | rw [hji15] at H | simp only [hji15] at H
          (try rw [hji15] at A10)
          (try rw [hji15] at A12)
          have hji15w : (IntKind.i64.wrap (x7_1 - 1)) = ji15 := (i64_w _).trans hji15
          by_cases c16 : 0 ≤ (ji15)
          ·rw [if_pos c16] at H
           have c16b0 : decide (0 ≤ (ji15)) = true := decide_eq_true c16
           clear c16
           by_cases c17 : (ji15) < (l0.length : Int)
           ·rw [if_pos c17] at H
            have c17b0 : decide ((ji15) < (l0.length : Int)) = true := decide_eq_true c17
            clear c17
            obtain ⟨t224, A18, H⟩ := bi H
            by_cases c19 : t224 ≥ 0
            ·rw [if_pos c19] at H
             have c19b0 : decide (0 ≤ t224) = true := decide_eq_true c19
             clear c19
             obtain rfl := Option.some.inj H
             have p219 : 0 ≤ (x7_1 : Int) := of_decide_eq_true am
             have q219 : x7_1 < (l0.length : Int) := of_decide_eq_true am
             obtain ⟨ad219, e219, hx219_0, hx219_1, hx219_2, hx219_3⟩ := at_T107 HR0.out x7_1 p219 q219
             cases e219
             replace hx219_0 := (HB.out.cell (World.block_lt_of_cell? w _ hx219_0)).trans hx219_0
             replace hx219_1 := (HB.out.cell (World.block_lt_of_cell? w _ hx219_1)).trans hx219_1
             replace hx219_2 := (HB.out.cell (World.block_lt_of_cell? w _ hx219_2)).trans hx219_2
             replace hx219_3 := (HB.out.cell (World.block_lt_of_cell? w _ hx219_3)).trans hx219_3
             replace p219 := eq_true p219
             replace q219 := eq_true q219
             try go_wp2_with (first | ((with_reducible refine gate_dst (N := 4) rfl ?_); refine bv (N := 4) (cs := #[.int .i64 0, .int .i64 0, .int .i64 0, .int .i64 0]) (t := 107) ?_; intro gb220 hg w20 hbox hb; have n0_ := Aside0.mk (below_step bz hb); have n1_ := Aside0.mk (hbox); have n2_ := (gz hg : Aside0 (w.heap.size ≤ _)); have n3_ := (gz hg : Aside0 (w.heap.size ≤ _)); clear HB; have HB := n0_; have BK220 := n1_; have GW220 := n2_; have GE220 := n3_; clear n0_ n1_ n2_ n3_; clear hb hbox hg; have hcz21_0 : w20.cell? ⟨gb220, 0, none⟩ = some (.int .i64 0) := (blk_cell BK220.out 0).trans rfl; have hcz21_1 : w20.cell? ⟨gb220, 1, none⟩ = some (.int .i64 0) := (blk_cell BK220.out 1).trans rfl; have hcz21_2 : w20.cell? ⟨gb220, 2, none⟩ = some (.int .i64 0) := (blk_cell BK220.out 2).trans rfl; have hcz21_3 : w20.cell? ⟨gb220, 3, none⟩ = some (.int .i64 0) := (blk_cell BK220.out 3).trans rfl; have hfz21_0 := blk_frozen BK220.out 0; have hfz21_1 := blk_frozen BK220.out 1; have hfz21_2 := blk_frozen BK220.out 2; have hfz21_3 := blk_frozen BK220.out 3))
             have n0_ : Aside0 (((((w20.setCell ⟨gb220, 0, none⟩ (.int .i64 ((rd_T107 l0 x7_1).f0))).setCell ⟨gb220, 1, none⟩ (.int .i64 ((rd_T107 l0 x7_1).f1))).setCell ⟨gb220, 2, none⟩ (.int .i64 ((rd_T107 l0 x7_1).f2))).setCell ⟨gb220, 3, none⟩ (.int .i64 ((rd_T107 l0 x7_1).f3))).heap[gb220]? = some (.cells #[.int .i64 ((rd_T107 l0 x7_1).f0), .int .i64 ((rd_T107 l0 x7_1).f1), .int .i64 ((rd_T107 l0 x7_1).f2), .int .i64 ((rd_T107 l0 x7_1).f3)] 107 (0, 0))) := ⟨by (with_reducible repeat (first | refine blk_drewN ?_ _ | refine blk_drew ?_ | refine blk_alloc ?_ _)); refine blk_put (cs := #[.int .i64 ((rd_T107 l0 x7_1).f0), .int .i64 ((rd_T107 l0 x7_1).f1), .int .i64 ((rd_T107 l0 x7_1).f2), .int .i64 0]) ?_ 3 _ rfl; (with_reducible repeat (first | refine blk_drewN ?_ _ | refine blk_drew ?_ | refine blk_alloc ?_ _)); refine blk_put (cs := #[.int .i64 ((rd_T107 l0 x7_1).f0), .int .i64 ((rd_T107 l0 x7_1).f1), .int .i64 0, .int .i64 0]) ?_ 2 _ rfl; (with_reducible repeat (first | refine blk_drewN ?_ _ | refine blk_drew ?_ | refine blk_alloc ?_ _)); refine blk_put (cs := #[.int .i64 ((rd_T107 l0 x7_1).f0), .int .i64 0, .int .i64 0, .int .i64 0]) ?_ 1 _ rfl; (with_reducible repeat (first | refine blk_drewN ?_ _ | refine blk_drew ?_ | refine blk_alloc ?_ _)); refine blk_put (cs := #[.int .i64 0, .int .i64 0, .int .i64 0, .int .i64 0]) ?_ 0 _ rfl; (with_reducible repeat (first | refine blk_drewN ?_ _ | refine blk_drew ?_ | refine blk_alloc ?_ _)); exact BK220.out⟩
             have n1_ : Aside0 (Below w.heap.size w ((((w20.setCell ⟨gb220, 0, none⟩ (.int .i64 ((rd_T107 l0 x7_1).f0))).setCell ⟨gb220, 1, none⟩ (.int .i64 ((rd_T107 l0 x7_1).f1))).setCell ⟨gb220, 2, none⟩ (.int .i64 ((rd_T107 l0 x7_1).f2))).setCell ⟨gb220, 3, none⟩ (.int .i64 ((rd_T107 l0 x7_1).f3)))) := ⟨bz1 GE220⟩
             (try clear BK220)
             (try clear HB)
             generalize ((((w20.setCell ⟨gb220, 0, none⟩ (.int .i64 ((rd_T107 l0 x7_1).f0))).setCell ⟨gb220, 1, none⟩ (.int .i64 ((rd_T107 l0 x7_1).f1))).setCell ⟨gb220, 2, none⟩ (.int .i64 ((rd_T107 l0 x7_1).f2))).setCell ⟨gb220, 3, none⟩ (.int .i64 ((rd_T107 l0 x7_1).f3))) = w22 at n0_ n1_ ⊢
             have BK220 := n0_
             have HB := n1_
             clear n0_ n1_
             have n0_ := Aside0.mk (blk_drew BK220.out)
             have n1_ := Aside0.mk (below_drew1 HB.out)
             clear BK220 HB
             have BK220 := n0_
             have HB := n1_
             clear n0_ n1_
             have p223 : 0 ≤ ((ji15) : Int) := of_decide_eq_true am
             have q223 : (ji15) < (l0.length : Int) := of_decide_eq_true am
             obtain ⟨ad223, e223, hx223_0, hx223_1, hx223_2, hx223_3⟩ := at_T107 HR0.out (ji15) p223 q223
             have hw223_3 := hx223_3
             have hw223_2 := hx223_2
             have hw223_1 := hx223_1
             have hw223_0 := hx223_0
             obtain rfl : ad219 = ad223 := (by injection e223)
             replace hx223_0 := (HB.out.cell (World.block_lt_of_cell? w _ hx223_0)).trans hx223_0
             replace hx223_1 := (HB.out.cell (World.block_lt_of_cell? w _ hx223_1)).trans hx223_1
             replace hx223_2 := (HB.out.cell (World.block_lt_of_cell? w _ hx223_2)).trans hx223_2
             replace hx223_3 := (HB.out.cell (World.block_lt_of_cell? w _ hx223_3)).trans hx223_3
             replace p223 := eq_true p223
             replace q223 := eq_true q223
             refine start_ (n := 28) (S := fun w' => w'.cell? ⟨gb220, 0, none⟩ = some (.int .i64 ((rd_T107 l0 x7_1).f0)) ∧ w'.cell? ⟨gb220, 1, none⟩ = some (.int .i64 ((rd_T107 l0 x7_1).f1)) ∧ w'.cell? ⟨gb220, 2, none⟩ = some (.int .i64 ((rd_T107 l0 x7_1).f2)) ∧ w'.cell? ⟨gb220, 3, none⟩ = some (.int .i64 ((rd_T107 l0 x7_1).f3)) ∧ w'.cell? (ad219.add (((ji15)).toNat * 4)) = some (.int .i64 ((rd_T107 l0 (ji15)).f0)) ∧ w'.cell? ⟨(ad219.add (((ji15)).toNat * 4)).block, (ad219.add (((ji15)).toNat * 4)).off + 1, none⟩ = some (.int .i64 ((rd_T107 l0 (ji15)).f1)) ∧ w'.cell? ⟨(ad219.add (((ji15)).toNat * 4)).block, (ad219.add (((ji15)).toNat * 4)).off + 2, none⟩ = some (.int .i64 ((rd_T107 l0 (ji15)).f2)) ∧ w'.cell? ⟨(ad219.add (((ji15)).toNat * 4)).block, (ad219.add (((ji15)).toNat * 4)).off + 3, none⟩ = some (.int .i64 ((rd_T107 l0 (ji15)).f3))) (ds := []) #[fF, fF, fF, fF, fF, fF, fF, fF, fF, fF, fF, fF, fF, fF, fF, fF, fF, fF, fF, fF, fF, fF, fF, fF, fF, fF, fF, fF] kf rfl rfl ⟨(blk_cell BK220.out 0).trans rfl, (blk_cell BK220.out 1).trans rfl, (blk_cell BK220.out 2).trans rfl, (blk_cell BK220.out 3).trans rfl, ((HB.out.cell (World.block_lt_of_cell? w _ hw223_0)).trans hw223_0), ((HB.out.cell (World.block_lt_of_cell? w _ hw223_1)).trans hw223_1), ((HB.out.cell (World.block_lt_of_cell? w _ hw223_2)).trans hw223_2), ((HB.out.cell (World.block_lt_of_cell? w _ hw223_3)).trans hw223_3)⟩ (fun hHeld => ?_); refine with_tabW impl_isPoly.tab4 impl_isPoly.bits4 (fun HT_ HW_ => ?_)
             generalize w22.drew = w23 at BK220 HB hx223_0 hx223_1 hx223_2 hx223_3 hHeld ⊢
             refine pq (i := 0) (N := some 12) #[tT, fF, fF, fF, fF, fF, fF, fF, fF, fF, fF, fF, fF, fF, fF, fF, fF, fF, fF, fF, fF, fF, fF, fF, fF, fF, fF, fF] rfl rfl HT_.out ?_
             refine tq8 (i := 1) (N := some 13) #[tT, tT, fF, fF, fF, fF, fF, fF, fF, fF, fF, fF, fF, fF, fF, fF, fF, fF, fF, fF, fF, fF, fF, fF, fF, fF, fF, fF] rfl rfl HT_.out HW_.out hHeld ?_
             refine pq (i := 2) (N := some 14) #[tT, tT, tT, fF, fF, fF, fF, fF, fF, fF, fF, fF, fF, fF, fF, fF, fF, fF, fF, fF, fF, fF, fF, fF, fF, fF, fF, fF] rfl rfl HT_.out ?_
             refine pq (i := 3) (N := some 15) #[tT, tT, tT, tT, fF, fF, fF, fF, fF, fF, fF, fF, fF, fF, fF, fF, fF, fF, fF, fF, fF, fF, fF, fF, fF, fF, fF, fF] rfl rfl HT_.out ?_
             refine pq (i := 4) (N := some 16) #[tT, tT, tT, tT, tT, fF, fF, fF, fF, fF, fF, fF, fF, fF, fF, fF, fF, fF, fF, fF, fF, fF, fF, fF, fF, fF, fF, fF] rfl rfl HT_.out ?_
             refine tq8 (i := 5) (N := some 17) #[tT, tT, tT, tT, tT, tT, fF, fF, fF, fF, fF, fF, fF, fF, fF, fF, fF, fF, fF, fF, fF, fF, fF, fF, fF, fF, fF, fF] rfl rfl HT_.out HW_.out hHeld ?_
             refine one_ (i := 6) (N := some 18) #[tT, tT, tT, tT, tT, tT, tT, fF, fF, fF, fF, fF, fF, fF, fF, fF, fF, fF, fF, fF, fF, fF, fF, fF, fF, fF, fF, fF] rfl rfl (one_of HT_.out kf) (by decide) (fun K hK => ?_)
             refine goes_ Try.func96 kf rfl #[.int .i64 ((rd_T107 l0 x7_1).f0), .int .i64 (-1000), .int .i64 1000] (by rfl) rfl rfl sm ?_
             with_reducible refine (impl_inside.calls ((rd_T107 l0 x7_1).f0) (-1000) 1000 true _ A10.out).mono ?_
             rintro e w' ⟨rfl, ⟨nd, rfl⟩⟩
             refine ⟨_, rfl, ?_⟩
             refine hK.out _ _ ⟨(blk_cell BK220.out 0).trans rfl, (blk_cell BK220.out 1).trans rfl, (blk_cell BK220.out 2).trans rfl, (blk_cell BK220.out 3).trans rfl, ((HB.out.cell (World.block_lt_of_cell? w _ hw223_0)).trans hw223_0), ((HB.out.cell (World.block_lt_of_cell? w _ hw223_1)).trans hw223_1), ((HB.out.cell (World.block_lt_of_cell? w _ hw223_2)).trans hw223_2), ((HB.out.cell (World.block_lt_of_cell? w _ hw223_3)).trans hw223_3)⟩ (fun hHeld => ?_)
             clear hK K
             refine norm_ (a' := ?_) ?_ ?_
             rotate_left
             ·show Act.put _ (some 18) _ = _
              simp only [Act.put, List.setIfInBounds_toArray, List.set_cons_zero, List.set_cons_succ, i64_w, i32_w]
              rfl
             refine pq (i := 7) (N := some 19) #[tT, tT, tT, tT, tT, tT, tT, tT, fF, fF, fF, fF, fF, fF, fF, fF, fF, fF, fF, fF, fF, fF, fF, fF, fF, fF, fF, fF] rfl rfl HT_.out ?_
             refine pq (i := 8) (N := some 20) #[tT, tT, tT, tT, tT, tT, tT, tT, tT, fF, fF, fF, fF, fF, fF, fF, fF, fF, fF, fF, fF, fF, fF, fF, fF, fF, fF, fF] rfl rfl HT_.out ?_
             refine pq (i := 9) (N := some 21) #[tT, tT, tT, tT, tT, tT, tT, tT, tT, tT, fF, fF, fF, fF, fF, fF, fF, fF, fF, fF, fF, fF, fF, fF, fF, fF, fF, fF] rfl rfl HT_.out ?_
             refine tq8 (i := 10) (N := some 22) #[tT, tT, tT, tT, tT, tT, tT, tT, tT, tT, tT, fF, fF, fF, fF, fF, fF, fF, fF, fF, fF, fF, fF, fF, fF, fF, fF, fF] rfl rfl HT_.out HW_.out hHeld ?_
             refine one_ (i := 11) (N := some 23) #[tT, tT, tT, tT, tT, tT, tT, tT, tT, tT, tT, tT, fF, fF, fF, fF, fF, fF, fF, fF, fF, fF, fF, fF, fF, fF, fF, fF] rfl rfl (one_of HT_.out kf) (by decide) (fun K hK => ?_)
             refine goes_ Try.func141 kf rfl #[.agg #[.int .i64 ((rd_T107 l0 x7_1).f0), .int .i64 ((rd_T107 l0 x7_1).f1), .int .i64 ((rd_T107 l0 x7_1).f2), .int .i64 ((rd_T107 l0 x7_1).f3)]] (by rfl) rfl rfl sm ?_
             with_reducible refine (impl_hasDegree.calls ((rd_T107 l0 x7_1).f0) ((rd_T107 l0 x7_1).f1) ((rd_T107 l0 x7_1).f2) ((rd_T107 l0 x7_1).f3) true _ A12.out).mono ?_
             rintro e w24 ⟨rfl, hb⟩
             refine ⟨_, rfl, ?_⟩
             have n0_ := bb BK220 hb
             have n1_ := Aside0.mk (below_step (bz1 GE220) hb)
             clear BK220 HB
             have BK220 := n0_
             have HB := n1_
             clear n0_ n1_
             (try clear hb)
             (try clear hb2)
             (try clear hk)
             (try clear hi)
             refine hK.out _ _ ⟨(blk_cell BK220.out 0).trans rfl, (blk_cell BK220.out 1).trans rfl, (blk_cell BK220.out 2).trans rfl, (blk_cell BK220.out 3).trans rfl, ((HB.out.cell (World.block_lt_of_cell? w _ hw223_0)).trans hw223_0), ((HB.out.cell (World.block_lt_of_cell? w _ hw223_1)).trans hw223_1), ((HB.out.cell (World.block_lt_of_cell? w _ hw223_2)).trans hw223_2), ((HB.out.cell (World.block_lt_of_cell? w _ hw223_3)).trans hw223_3)⟩ (fun hHeld => ?_)
             clear hK K
             refine norm_ (a' := ?_) ?_ ?_
             rotate_left
             ·show Act.put _ (some 23) _ = _
              simp only [Act.put, List.setIfInBounds_toArray, List.set_cons_zero, List.set_cons_succ, i64_w, i32_w]
              rfl
             refine pq (i := 12) (N := some 24) #[tT, tT, tT, tT, tT, tT, tT, tT, tT, tT, tT, tT, tT, fF, fF, fF, fF, fF, fF, fF, fF, fF, fF, fF, fF, fF, fF, fF] rfl rfl HT_.out ?_
             refine pq (i := 13) (N := some 25) #[tT, tT, tT, tT, tT, tT, tT, tT, tT, tT, tT, tT, tT, tT, fF, fF, fF, fF, fF, fF, fF, fF, fF, fF, fF, fF, fF, fF] rfl rfl HT_.out ?_
             refine pq (i := 14) (N := some 26) #[tT, tT, tT, tT, tT, tT, tT, tT, tT, tT, tT, tT, tT, tT, tT, fF, fF, fF, fF, fF, fF, fF, fF, fF, fF, fF, fF, fF] rfl rfl HT_.out ?_
             refine pq (i := 15) (N := some 27) #[tT, tT, tT, tT, tT, tT, tT, tT, tT, tT, tT, tT, tT, tT, tT, tT, fF, fF, fF, fF, fF, fF, fF, fF, fF, fF, fF, fF] rfl rfl HT_.out ?_
             refine pq (i := 16) (N := some 28) #[tT, tT, tT, tT, tT, tT, tT, tT, tT, tT, tT, tT, tT, tT, tT, tT, tT, fF, fF, fF, fF, fF, fF, fF, fF, fF, fF, fF] rfl rfl HT_.out ?_
             refine pq (i := 17) (N := some 29) #[tT, tT, tT, tT, tT, tT, tT, tT, tT, tT, tT, tT, tT, tT, tT, tT, tT, tT, fF, fF, fF, fF, fF, fF, fF, fF, fF, fF] rfl rfl HT_.out ?_
             refine pq (i := 18) (N := some 30) #[tT, tT, tT, tT, tT, tT, tT, tT, tT, tT, tT, tT, tT, tT, tT, tT, tT, tT, tT, fF, fF, fF, fF, fF, fF, fF, fF, fF] rfl rfl HT_.out ?_
             refine pq (i := 19) (N := some 31) #[tT, tT, tT, tT, tT, tT, tT, tT, tT, tT, tT, tT, tT, tT, tT, tT, tT, tT, tT, tT, fF, fF, fF, fF, fF, fF, fF, fF] rfl rfl HT_.out ?_
             refine pq (i := 20) (N := some 32) #[tT, tT, tT, tT, tT, tT, tT, tT, tT, tT, tT, tT, tT, tT, tT, tT, tT, tT, tT, tT, tT, fF, fF, fF, fF, fF, fF, fF] rfl rfl HT_.out ?_
             refine pq (i := 21) (N := some 33) #[tT, tT, tT, tT, tT, tT, tT, tT, tT, tT, tT, tT, tT, tT, tT, tT, tT, tT, tT, tT, tT, tT, fF, fF, fF, fF, fF, fF] rfl rfl HT_.out ?_
             refine tq8 (i := 22) (N := some 34) #[tT, tT, tT, tT, tT, tT, tT, tT, tT, tT, tT, tT, tT, tT, tT, tT, tT, tT, tT, tT, tT, tT, tT, fF, fF, fF, fF, fF] rfl rfl HT_.out HW_.out hHeld ?_
             refine tq8 (i := 23) (N := some 35) #[tT, tT, tT, tT, tT, tT, tT, tT, tT, tT, tT, tT, tT, tT, tT, tT, tT, tT, tT, tT, tT, tT, tT, tT, fF, fF, fF, fF] rfl rfl HT_.out HW_.out hHeld ?_
             refine one_ (i := 24) (N := some 36) #[tT, tT, tT, tT, tT, tT, tT, tT, tT, tT, tT, tT, tT, tT, tT, tT, tT, tT, tT, tT, tT, tT, tT, tT, tT, fF, fF, fF] rfl rfl (one_of HT_.out kf) (by decide) (fun K hK => ?_)
             refine goes_ Try.func142 kf rfl #[.agg #[.int .i64 ((rd_T107 l0 (ji15)).f0), .int .i64 ((rd_T107 l0 (ji15)).f1), .int .i64 ((rd_T107 l0 (ji15)).f2), .int .i64 ((rd_T107 l0 (ji15)).f3)], .agg #[.int .i64 ((rd_T107 l0 x7_1).f0), .int .i64 ((rd_T107 l0 x7_1).f1), .int .i64 ((rd_T107 l0 x7_1).f2), .int .i64 ((rd_T107 l0 x7_1).f3)]] (by rfl) rfl rfl (by (try simp only [List.map_toArray, List.map_cons, List.map_nil]); first | done | (simp only [hji15]; rfl) | rfl | (simp only [List.length_drop, List.length_take]; rfl)) ?_
             with_reducible refine (impl_compareTerms.calls k1 ((rd_T107 l0 (ji15)).f0) ((rd_T107 l0 (ji15)).f1) ((rd_T107 l0 (ji15)).f2) ((rd_T107 l0 (ji15)).f3) ((rd_T107 l0 x7_1).f0) ((rd_T107 l0 x7_1).f1) ((rd_T107 l0 x7_1).f2) ((rd_T107 l0 x7_1).f3) t224 _ A18.out).mono ?_
             rintro e w25 ⟨rfl, hb⟩
             refine ⟨_, rfl, ?_⟩
             have n0_ := bb BK220 hb
             have n1_ := Aside0.mk (below_step (bz1 GE220) hb)
             clear BK220 HB
             have BK220 := n0_
             have HB := n1_
             clear n0_ n1_
             (try clear hb)
             (try clear hb2)
             (try clear hk)
             (try clear hi)
             refine hK.out _ _ ⟨(blk_cell BK220.out 0).trans rfl, (blk_cell BK220.out 1).trans rfl, (blk_cell BK220.out 2).trans rfl, (blk_cell BK220.out 3).trans rfl, ((HB.out.cell (World.block_lt_of_cell? w _ hw223_0)).trans hw223_0), ((HB.out.cell (World.block_lt_of_cell? w _ hw223_1)).trans hw223_1), ((HB.out.cell (World.block_lt_of_cell? w _ hw223_2)).trans hw223_2), ((HB.out.cell (World.block_lt_of_cell? w _ hw223_3)).trans hw223_3)⟩ (fun hHeld => ?_)
             clear hK K
             refine norm_ (a' := ?_) ?_ ?_
             rotate_left
             ·show Act.put _ (some 36) _ = _
              simp only [Act.put, List.setIfInBounds_toArray, List.set_cons_zero, List.set_cons_succ, i64_w, i32_w]
              rfl
             refine pq (i := 25) (N := some 37) #[tT, tT, tT, tT, tT, tT, tT, tT, tT, tT, tT, tT, tT, tT, tT, tT, tT, tT, tT, tT, tT, tT, tT, tT, tT, tT, fF, fF] rfl rfl HT_.out ?_
             refine pq (i := 26) (N := some 38) #[tT, tT, tT, tT, tT, tT, tT, tT, tT, tT, tT, tT, tT, tT, tT, tT, tT, tT, tT, tT, tT, tT, tT, tT, tT, tT, tT, fF] rfl rfl HT_.out ?_
             refine pq (i := 27) (N := some 39) #[tT, tT, tT, tT, tT, tT, tT, tT, tT, tT, tT, tT, tT, tT, tT, tT, tT, tT, tT, tT, tT, tT, tT, tT, tT, tT, tT, tT] rfl rfl HT_.out ?_
             refine done_ (done_of HT_.out kf) ?_
             try go_wp2
             go_ret
             exact ⟨by first | rfl | (simp [errW_none, errW_some] <;> rfl) | (simp only [← hji15]; first | rfl | (simp [errW_none, errW_some] <;> rfl)) | (simp [*, errW_none, errW_some] <;> rfl), bz1 GE220⟩
            ·rw [if_neg c19] at H
             have c19b0 : decide (0 ≤ t224) = false := decide_eq_false c19
             clear c19
             have H' := Aside0.mk H
             clear H
             have p219 : 0 ≤ (x7_1 : Int) := of_decide_eq_true am
             have q219 : x7_1 < (l0.length : Int) := of_decide_eq_true am
             obtain ⟨ad219, e219, hx219_0, hx219_1, hx219_2, hx219_3⟩ := at_T107 HR0.out x7_1 p219 q219
             cases e219
             replace hx219_0 := (HB.out.cell (World.block_lt_of_cell? w _ hx219_0)).trans hx219_0
             replace hx219_1 := (HB.out.cell (World.block_lt_of_cell? w _ hx219_1)).trans hx219_1
             replace hx219_2 := (HB.out.cell (World.block_lt_of_cell? w _ hx219_2)).trans hx219_2
             replace hx219_3 := (HB.out.cell (World.block_lt_of_cell? w _ hx219_3)).trans hx219_3
             replace p219 := eq_true p219
             replace q219 := eq_true q219
             try go_wp2_with (first | ((with_reducible refine gate_dst (N := 4) rfl ?_); refine bv (N := 4) (cs := #[.int .i64 0, .int .i64 0, .int .i64 0, .int .i64 0]) (t := 107) ?_; intro gb220 hg w26 hbox hb; have n0_ := Aside0.mk (below_step bz hb); have n1_ := Aside0.mk (hbox); have n2_ := (gz hg : Aside0 (w.heap.size ≤ _)); have n3_ := (gz hg : Aside0 (w.heap.size ≤ _)); clear HB; have HB := n0_; have BK220 := n1_; have GW220 := n2_; have GE220 := n3_; clear n0_ n1_ n2_ n3_; clear hb hbox hg; have hcz27_0 : w26.cell? ⟨gb220, 0, none⟩ = some (.int .i64 0) := (blk_cell BK220.out 0).trans rfl; have hcz27_1 : w26.cell? ⟨gb220, 1, none⟩ = some (.int .i64 0) := (blk_cell BK220.out 1).trans rfl; have hcz27_2 : w26.cell? ⟨gb220, 2, none⟩ = some (.int .i64 0) := (blk_cell BK220.out 2).trans rfl; have hcz27_3 : w26.cell? ⟨gb220, 3, none⟩ = some (.int .i64 0) := (blk_cell BK220.out 3).trans rfl; have hfz27_0 := blk_frozen BK220.out 0; have hfz27_1 := blk_frozen BK220.out 1; have hfz27_2 := blk_frozen BK220.out 2; have hfz27_3 := blk_frozen BK220.out 3))
             have n0_ : Aside0 (((((w26.setCell ⟨gb220, 0, none⟩ (.int .i64 ((rd_T107 l0 x7_1).f0))).setCell ⟨gb220, 1, none⟩ (.int .i64 ((rd_T107 l0 x7_1).f1))).setCell ⟨gb220, 2, none⟩ (.int .i64 ((rd_T107 l0 x7_1).f2))).setCell ⟨gb220, 3, none⟩ (.int .i64 ((rd_T107 l0 x7_1).f3))).heap[gb220]? = some (.cells #[.int .i64 ((rd_T107 l0 x7_1).f0), .int .i64 ((rd_T107 l0 x7_1).f1), .int .i64 ((rd_T107 l0 x7_1).f2), .int .i64 ((rd_T107 l0 x7_1).f3)] 107 (0, 0))) := ⟨by (with_reducible repeat (first | refine blk_drewN ?_ _ | refine blk_drew ?_ | refine blk_alloc ?_ _)); refine blk_put (cs := #[.int .i64 ((rd_T107 l0 x7_1).f0), .int .i64 ((rd_T107 l0 x7_1).f1), .int .i64 ((rd_T107 l0 x7_1).f2), .int .i64 0]) ?_ 3 _ rfl; (with_reducible repeat (first | refine blk_drewN ?_ _ | refine blk_drew ?_ | refine blk_alloc ?_ _)); refine blk_put (cs := #[.int .i64 ((rd_T107 l0 x7_1).f0), .int .i64 ((rd_T107 l0 x7_1).f1), .int .i64 0, .int .i64 0]) ?_ 2 _ rfl; (with_reducible repeat (first | refine blk_drewN ?_ _ | refine blk_drew ?_ | refine blk_alloc ?_ _)); refine blk_put (cs := #[.int .i64 ((rd_T107 l0 x7_1).f0), .int .i64 0, .int .i64 0, .int .i64 0]) ?_ 1 _ rfl; (with_reducible repeat (first | refine blk_drewN ?_ _ | refine blk_drew ?_ | refine blk_alloc ?_ _)); refine blk_put (cs := #[.int .i64 0, .int .i64 0, .int .i64 0, .int .i64 0]) ?_ 0 _ rfl; (with_reducible repeat (first | refine blk_drewN ?_ _ | refine blk_drew ?_ | refine blk_alloc ?_ _)); exact BK220.out⟩
             have n1_ : Aside0 (Below w.heap.size w ((((w26.setCell ⟨gb220, 0, none⟩ (.int .i64 ((rd_T107 l0 x7_1).f0))).setCell ⟨gb220, 1, none⟩ (.int .i64 ((rd_T107 l0 x7_1).f1))).setCell ⟨gb220, 2, none⟩ (.int .i64 ((rd_T107 l0 x7_1).f2))).setCell ⟨gb220, 3, none⟩ (.int .i64 ((rd_T107 l0 x7_1).f3)))) := ⟨bz1 GE220⟩
             (try clear BK220)
             (try clear HB)
             generalize ((((w26.setCell ⟨gb220, 0, none⟩ (.int .i64 ((rd_T107 l0 x7_1).f0))).setCell ⟨gb220, 1, none⟩ (.int .i64 ((rd_T107 l0 x7_1).f1))).setCell ⟨gb220, 2, none⟩ (.int .i64 ((rd_T107 l0 x7_1).f2))).setCell ⟨gb220, 3, none⟩ (.int .i64 ((rd_T107 l0 x7_1).f3))) = w28 at n0_ n1_ ⊢
             have BK220 := n0_
             have HB := n1_
             clear n0_ n1_
             have n0_ := Aside0.mk (blk_drew BK220.out)
             have n1_ := Aside0.mk (below_drew1 HB.out)
             clear BK220 HB
             have BK220 := n0_
             have HB := n1_
             clear n0_ n1_
             have p223 : 0 ≤ ((ji15) : Int) := of_decide_eq_true am
             have q223 : (ji15) < (l0.length : Int) := of_decide_eq_true am
             obtain ⟨ad223, e223, hx223_0, hx223_1, hx223_2, hx223_3⟩ := at_T107 HR0.out (ji15) p223 q223
             have hw223_3 := hx223_3
             have hw223_2 := hx223_2
             have hw223_1 := hx223_1
             have hw223_0 := hx223_0
             obtain rfl : ad219 = ad223 := (by injection e223)
             replace hx223_0 := (HB.out.cell (World.block_lt_of_cell? w _ hx223_0)).trans hx223_0
             replace hx223_1 := (HB.out.cell (World.block_lt_of_cell? w _ hx223_1)).trans hx223_1
             replace hx223_2 := (HB.out.cell (World.block_lt_of_cell? w _ hx223_2)).trans hx223_2
             replace hx223_3 := (HB.out.cell (World.block_lt_of_cell? w _ hx223_3)).trans hx223_3
             replace p223 := eq_true p223
             replace q223 := eq_true q223
             refine start_ (n := 28) (S := fun w' => w'.cell? ⟨gb220, 0, none⟩ = some (.int .i64 ((rd_T107 l0 x7_1).f0)) ∧ w'.cell? ⟨gb220, 1, none⟩ = some (.int .i64 ((rd_T107 l0 x7_1).f1)) ∧ w'.cell? ⟨gb220, 2, none⟩ = some (.int .i64 ((rd_T107 l0 x7_1).f2)) ∧ w'.cell? ⟨gb220, 3, none⟩ = some (.int .i64 ((rd_T107 l0 x7_1).f3)) ∧ w'.cell? (ad219.add (((ji15)).toNat * 4)) = some (.int .i64 ((rd_T107 l0 (ji15)).f0)) ∧ w'.cell? ⟨(ad219.add (((ji15)).toNat * 4)).block, (ad219.add (((ji15)).toNat * 4)).off + 1, none⟩ = some (.int .i64 ((rd_T107 l0 (ji15)).f1)) ∧ w'.cell? ⟨(ad219.add (((ji15)).toNat * 4)).block, (ad219.add (((ji15)).toNat * 4)).off + 2, none⟩ = some (.int .i64 ((rd_T107 l0 (ji15)).f2)) ∧ w'.cell? ⟨(ad219.add (((ji15)).toNat * 4)).block, (ad219.add (((ji15)).toNat * 4)).off + 3, none⟩ = some (.int .i64 ((rd_T107 l0 (ji15)).f3))) (ds := []) #[fF, fF, fF, fF, fF, fF, fF, fF, fF, fF, fF, fF, fF, fF, fF, fF, fF, fF, fF, fF, fF, fF, fF, fF, fF, fF, fF, fF] kf rfl rfl ⟨(blk_cell BK220.out 0).trans rfl, (blk_cell BK220.out 1).trans rfl, (blk_cell BK220.out 2).trans rfl, (blk_cell BK220.out 3).trans rfl, ((HB.out.cell (World.block_lt_of_cell? w _ hw223_0)).trans hw223_0), ((HB.out.cell (World.block_lt_of_cell? w _ hw223_1)).trans hw223_1), ((HB.out.cell (World.block_lt_of_cell? w _ hw223_2)).trans hw223_2), ((HB.out.cell (World.block_lt_of_cell? w _ hw223_3)).trans hw223_3)⟩ (fun hHeld => ?_); refine with_tabW impl_isPoly.tab4 impl_isPoly.bits4 (fun HT_ HW_ => ?_)
             generalize w28.drew = w29 at BK220 HB hx223_0 hx223_1 hx223_2 hx223_3 hHeld ⊢
             refine pq (i := 0) (N := some 12) #[tT, fF, fF, fF, fF, fF, fF, fF, fF, fF, fF, fF, fF, fF, fF, fF, fF, fF, fF, fF, fF, fF, fF, fF, fF, fF, fF, fF] rfl rfl HT_.out ?_
             refine tq8 (i := 1) (N := some 13) #[tT, tT, fF, fF, fF, fF, fF, fF, fF, fF, fF, fF, fF, fF, fF, fF, fF, fF, fF, fF, fF, fF, fF, fF, fF, fF, fF, fF] rfl rfl HT_.out HW_.out hHeld ?_
             refine pq (i := 2) (N := some 14) #[tT, tT, tT, fF, fF, fF, fF, fF, fF, fF, fF, fF, fF, fF, fF, fF, fF, fF, fF, fF, fF, fF, fF, fF, fF, fF, fF, fF] rfl rfl HT_.out ?_
             refine pq (i := 3) (N := some 15) #[tT, tT, tT, tT, fF, fF, fF, fF, fF, fF, fF, fF, fF, fF, fF, fF, fF, fF, fF, fF, fF, fF, fF, fF, fF, fF, fF, fF] rfl rfl HT_.out ?_
             refine pq (i := 4) (N := some 16) #[tT, tT, tT, tT, tT, fF, fF, fF, fF, fF, fF, fF, fF, fF, fF, fF, fF, fF, fF, fF, fF, fF, fF, fF, fF, fF, fF, fF] rfl rfl HT_.out ?_
             refine tq8 (i := 5) (N := some 17) #[tT, tT, tT, tT, tT, tT, fF, fF, fF, fF, fF, fF, fF, fF, fF, fF, fF, fF, fF, fF, fF, fF, fF, fF, fF, fF, fF, fF] rfl rfl HT_.out HW_.out hHeld ?_
             refine one_ (i := 6) (N := some 18) #[tT, tT, tT, tT, tT, tT, tT, fF, fF, fF, fF, fF, fF, fF, fF, fF, fF, fF, fF, fF, fF, fF, fF, fF, fF, fF, fF, fF] rfl rfl (one_of HT_.out kf) (by decide) (fun K hK => ?_)
             refine goes_ Try.func96 kf rfl #[.int .i64 ((rd_T107 l0 x7_1).f0), .int .i64 (-1000), .int .i64 1000] (by rfl) rfl rfl sm ?_
             with_reducible refine (impl_inside.calls ((rd_T107 l0 x7_1).f0) (-1000) 1000 true _ A10.out).mono ?_
             rintro e w' ⟨rfl, ⟨nd, rfl⟩⟩
             refine ⟨_, rfl, ?_⟩
             refine hK.out _ _ ⟨(blk_cell BK220.out 0).trans rfl, (blk_cell BK220.out 1).trans rfl, (blk_cell BK220.out 2).trans rfl, (blk_cell BK220.out 3).trans rfl, ((HB.out.cell (World.block_lt_of_cell? w _ hw223_0)).trans hw223_0), ((HB.out.cell (World.block_lt_of_cell? w _ hw223_1)).trans hw223_1), ((HB.out.cell (World.block_lt_of_cell? w _ hw223_2)).trans hw223_2), ((HB.out.cell (World.block_lt_of_cell? w _ hw223_3)).trans hw223_3)⟩ (fun hHeld => ?_)
             clear hK K
             refine norm_ (a' := ?_) ?_ ?_
             rotate_left
             ·show Act.put _ (some 18) _ = _
              simp only [Act.put, List.setIfInBounds_toArray, List.set_cons_zero, List.set_cons_succ, i64_w, i32_w]
              rfl
             refine pq (i := 7) (N := some 19) #[tT, tT, tT, tT, tT, tT, tT, tT, fF, fF, fF, fF, fF, fF, fF, fF, fF, fF, fF, fF, fF, fF, fF, fF, fF, fF, fF, fF] rfl rfl HT_.out ?_
             refine pq (i := 8) (N := some 20) #[tT, tT, tT, tT, tT, tT, tT, tT, tT, fF, fF, fF, fF, fF, fF, fF, fF, fF, fF, fF, fF, fF, fF, fF, fF, fF, fF, fF] rfl rfl HT_.out ?_
             refine pq (i := 9) (N := some 21) #[tT, tT, tT, tT, tT, tT, tT, tT, tT, tT, fF, fF, fF, fF, fF, fF, fF, fF, fF, fF, fF, fF, fF, fF, fF, fF, fF, fF] rfl rfl HT_.out ?_
             refine tq8 (i := 10) (N := some 22) #[tT, tT, tT, tT, tT, tT, tT, tT, tT, tT, tT, fF, fF, fF, fF, fF, fF, fF, fF, fF, fF, fF, fF, fF, fF, fF, fF, fF] rfl rfl HT_.out HW_.out hHeld ?_
             refine one_ (i := 11) (N := some 23) #[tT, tT, tT, tT, tT, tT, tT, tT, tT, tT, tT, tT, fF, fF, fF, fF, fF, fF, fF, fF, fF, fF, fF, fF, fF, fF, fF, fF] rfl rfl (one_of HT_.out kf) (by decide) (fun K hK => ?_)
             refine goes_ Try.func141 kf rfl #[.agg #[.int .i64 ((rd_T107 l0 x7_1).f0), .int .i64 ((rd_T107 l0 x7_1).f1), .int .i64 ((rd_T107 l0 x7_1).f2), .int .i64 ((rd_T107 l0 x7_1).f3)]] (by rfl) rfl rfl sm ?_
             with_reducible refine (impl_hasDegree.calls ((rd_T107 l0 x7_1).f0) ((rd_T107 l0 x7_1).f1) ((rd_T107 l0 x7_1).f2) ((rd_T107 l0 x7_1).f3) true _ A12.out).mono ?_
             rintro e w30 ⟨rfl, hb⟩
             refine ⟨_, rfl, ?_⟩
             have n0_ := bb BK220 hb
             have n1_ := Aside0.mk (below_step (bz1 GE220) hb)
             clear BK220 HB
             have BK220 := n0_
             have HB := n1_
             clear n0_ n1_
             (try clear hb)
             (try clear hb2)
             (try clear hk)
             (try clear hi)
             refine hK.out _ _ ⟨(blk_cell BK220.out 0).trans rfl, (blk_cell BK220.out 1).trans rfl, (blk_cell BK220.out 2).trans rfl, (blk_cell BK220.out 3).trans rfl, ((HB.out.cell (World.block_lt_of_cell? w _ hw223_0)).trans hw223_0), ((HB.out.cell (World.block_lt_of_cell? w _ hw223_1)).trans hw223_1), ((HB.out.cell (World.block_lt_of_cell? w _ hw223_2)).trans hw223_2), ((HB.out.cell (World.block_lt_of_cell? w _ hw223_3)).trans hw223_3)⟩ (fun hHeld => ?_)
             clear hK K
             refine norm_ (a' := ?_) ?_ ?_
             rotate_left
             ·show Act.put _ (some 23) _ = _
              simp only [Act.put, List.setIfInBounds_toArray, List.set_cons_zero, List.set_cons_succ, i64_w, i32_w]
              rfl
             refine pq (i := 12) (N := some 24) #[tT, tT, tT, tT, tT, tT, tT, tT, tT, tT, tT, tT, tT, fF, fF, fF, fF, fF, fF, fF, fF, fF, fF, fF, fF, fF, fF, fF] rfl rfl HT_.out ?_
             refine pq (i := 13) (N := some 25) #[tT, tT, tT, tT, tT, tT, tT, tT, tT, tT, tT, tT, tT, tT, fF, fF, fF, fF, fF, fF, fF, fF, fF, fF, fF, fF, fF, fF] rfl rfl HT_.out ?_
             refine pq (i := 14) (N := some 26) #[tT, tT, tT, tT, tT, tT, tT, tT, tT, tT, tT, tT, tT, tT, tT, fF, fF, fF, fF, fF, fF, fF, fF, fF, fF, fF, fF, fF] rfl rfl HT_.out ?_
             refine pq (i := 15) (N := some 27) #[tT, tT, tT, tT, tT, tT, tT, tT, tT, tT, tT, tT, tT, tT, tT, tT, fF, fF, fF, fF, fF, fF, fF, fF, fF, fF, fF, fF] rfl rfl HT_.out ?_
             refine pq (i := 16) (N := some 28) #[tT, tT, tT, tT, tT, tT, tT, tT, tT, tT, tT, tT, tT, tT, tT, tT, tT, fF, fF, fF, fF, fF, fF, fF, fF, fF, fF, fF] rfl rfl HT_.out ?_
             refine pq (i := 17) (N := some 29) #[tT, tT, tT, tT, tT, tT, tT, tT, tT, tT, tT, tT, tT, tT, tT, tT, tT, tT, fF, fF, fF, fF, fF, fF, fF, fF, fF, fF] rfl rfl HT_.out ?_
             refine pq (i := 18) (N := some 30) #[tT, tT, tT, tT, tT, tT, tT, tT, tT, tT, tT, tT, tT, tT, tT, tT, tT, tT, tT, fF, fF, fF, fF, fF, fF, fF, fF, fF] rfl rfl HT_.out ?_
             refine pq (i := 19) (N := some 31) #[tT, tT, tT, tT, tT, tT, tT, tT, tT, tT, tT, tT, tT, tT, tT, tT, tT, tT, tT, tT, fF, fF, fF, fF, fF, fF, fF, fF] rfl rfl HT_.out ?_
             refine pq (i := 20) (N := some 32) #[tT, tT, tT, tT, tT, tT, tT, tT, tT, tT, tT, tT, tT, tT, tT, tT, tT, tT, tT, tT, tT, fF, fF, fF, fF, fF, fF, fF] rfl rfl HT_.out ?_
             refine pq (i := 21) (N := some 33) #[tT, tT, tT, tT, tT, tT, tT, tT, tT, tT, tT, tT, tT, tT, tT, tT, tT, tT, tT, tT, tT, tT, fF, fF, fF, fF, fF, fF] rfl rfl HT_.out ?_
             refine tq8 (i := 22) (N := some 34) #[tT, tT, tT, tT, tT, tT, tT, tT, tT, tT, tT, tT, tT, tT, tT, tT, tT, tT, tT, tT, tT, tT, tT, fF, fF, fF, fF, fF] rfl rfl HT_.out HW_.out hHeld ?_
             refine tq8 (i := 23) (N := some 35) #[tT, tT, tT, tT, tT, tT, tT, tT, tT, tT, tT, tT, tT, tT, tT, tT, tT, tT, tT, tT, tT, tT, tT, tT, fF, fF, fF, fF] rfl rfl HT_.out HW_.out hHeld ?_
             refine one_ (i := 24) (N := some 36) #[tT, tT, tT, tT, tT, tT, tT, tT, tT, tT, tT, tT, tT, tT, tT, tT, tT, tT, tT, tT, tT, tT, tT, tT, tT, fF, fF, fF] rfl rfl (one_of HT_.out kf) (by decide) (fun K hK => ?_)
             refine goes_ Try.func142 kf rfl #[.agg #[.int .i64 ((rd_T107 l0 (ji15)).f0), .int .i64 ((rd_T107 l0 (ji15)).f1), .int .i64 ((rd_T107 l0 (ji15)).f2), .int .i64 ((rd_T107 l0 (ji15)).f3)], .agg #[.int .i64 ((rd_T107 l0 x7_1).f0), .int .i64 ((rd_T107 l0 x7_1).f1), .int .i64 ((rd_T107 l0 x7_1).f2), .int .i64 ((rd_T107 l0 x7_1).f3)]] (by rfl) rfl rfl (by (try simp only [List.map_toArray, List.map_cons, List.map_nil]); first | done | (simp only [hji15]; rfl) | rfl | (simp only [List.length_drop, List.length_take]; rfl)) ?_
             with_reducible refine (impl_compareTerms.calls k1 ((rd_T107 l0 (ji15)).f0) ((rd_T107 l0 (ji15)).f1) ((rd_T107 l0 (ji15)).f2) ((rd_T107 l0 (ji15)).f3) ((rd_T107 l0 x7_1).f0) ((rd_T107 l0 x7_1).f1) ((rd_T107 l0 x7_1).f2) ((rd_T107 l0 x7_1).f3) t224 _ A18.out).mono ?_
             rintro e w31 ⟨rfl, hb⟩
             refine ⟨_, rfl, ?_⟩
             have n0_ := bb BK220 hb
             have n1_ := Aside0.mk (below_step (bz1 GE220) hb)
             clear BK220 HB
             have BK220 := n0_
             have HB := n1_
             clear n0_ n1_
             (try clear hb)
             (try clear hb2)
             (try clear hk)
             (try clear hi)
             refine hK.out _ _ ⟨(blk_cell BK220.out 0).trans rfl, (blk_cell BK220.out 1).trans rfl, (blk_cell BK220.out 2).trans rfl, (blk_cell BK220.out 3).trans rfl, ((HB.out.cell (World.block_lt_of_cell? w _ hw223_0)).trans hw223_0), ((HB.out.cell (World.block_lt_of_cell? w _ hw223_1)).trans hw223_1), ((HB.out.cell (World.block_lt_of_cell? w _ hw223_2)).trans hw223_2), ((HB.out.cell (World.block_lt_of_cell? w _ hw223_3)).trans hw223_3)⟩ (fun hHeld => ?_)
             clear hK K
             refine norm_ (a' := ?_) ?_ ?_
             rotate_left
             ·show Act.put _ (some 36) _ = _
              simp only [Act.put, List.setIfInBounds_toArray, List.set_cons_zero, List.set_cons_succ, i64_w, i32_w]
              rfl
             refine pq (i := 25) (N := some 37) #[tT, tT, tT, tT, tT, tT, tT, tT, tT, tT, tT, tT, tT, tT, tT, tT, tT, tT, tT, tT, tT, tT, tT, tT, tT, tT, fF, fF] rfl rfl HT_.out ?_
             refine pq (i := 26) (N := some 38) #[tT, tT, tT, tT, tT, tT, tT, tT, tT, tT, tT, tT, tT, tT, tT, tT, tT, tT, tT, tT, tT, tT, tT, tT, tT, tT, tT, fF] rfl rfl HT_.out ?_
             refine pq (i := 27) (N := some 39) #[tT, tT, tT, tT, tT, tT, tT, tT, tT, tT, tT, tT, tT, tT, tT, tT, tT, tT, tT, tT, tT, tT, tT, tT, tT, tT, tT, tT] rfl rfl HT_.out ?_
             refine done_ (done_of HT_.out kf) ?_
             try go_wp2
             go_roundg k1
             case measure => have := HK1.out; omega
             case rel => exact ⟨(wrap64 (x7_1 + 1)), sr, H', ⟨by have := HK1.out; omega⟩, ⟨bz1 GE220⟩⟩
           ·rw [if_neg c17] at H
            exact absurd H (by simp)
          ·rw [if_neg c16] at H
           exact absurd H (by simp)
         ·rw [if_neg c14] at H
          have c14b0 : decide (0 < x7_1) = false := decide_eq_false c14
          clear c14
          have H' := Aside0.mk H
          clear H
          have p219 : 0 ≤ (x7_1 : Int) := of_decide_eq_true am
          have q219 : x7_1 < (l0.length : Int) := of_decide_eq_true am
          obtain ⟨ad219, e219, hx219_0, hx219_1, hx219_2, hx219_3⟩ := at_T107 HR0.out x7_1 p219 q219
          cases e219
          replace hx219_0 := (HB.out.cell (World.block_lt_of_cell? w _ hx219_0)).trans hx219_0
          replace hx219_1 := (HB.out.cell (World.block_lt_of_cell? w _ hx219_1)).trans hx219_1
          replace hx219_2 := (HB.out.cell (World.block_lt_of_cell? w _ hx219_2)).trans hx219_2
          replace hx219_3 := (HB.out.cell (World.block_lt_of_cell? w _ hx219_3)).trans hx219_3
          replace p219 := eq_true p219
          replace q219 := eq_true q219
          try go_wp2_with (first | ((with_reducible refine gate_dst (N := 4) rfl ?_); refine bv (N := 4) (cs := #[.int .i64 0, .int .i64 0, .int .i64 0, .int .i64 0]) (t := 107) ?_; intro gb220 hg w32 hbox hb; have n0_ := Aside0.mk (below_step bz hb); have n1_ := Aside0.mk (hbox); have n2_ := (gz hg : Aside0 (w.heap.size ≤ _)); have n3_ := (gz hg : Aside0 (w.heap.size ≤ _)); clear HB; have HB := n0_; have BK220 := n1_; have GW220 := n2_; have GE220 := n3_; clear n0_ n1_ n2_ n3_; clear hb hbox hg; have hcz33_0 : w32.cell? ⟨gb220, 0, none⟩ = some (.int .i64 0) := (blk_cell BK220.out 0).trans rfl; have hcz33_1 : w32.cell? ⟨gb220, 1, none⟩ = some (.int .i64 0) := (blk_cell BK220.out 1).trans rfl; have hcz33_2 : w32.cell? ⟨gb220, 2, none⟩ = some (.int .i64 0) := (blk_cell BK220.out 2).trans rfl; have hcz33_3 : w32.cell? ⟨gb220, 3, none⟩ = some (.int .i64 0) := (blk_cell BK220.out 3).trans rfl; have hfz33_0 := blk_frozen BK220.out 0; have hfz33_1 := blk_frozen BK220.out 1; have hfz33_2 := blk_frozen BK220.out 2; have hfz33_3 := blk_frozen BK220.out 3))
          have n0_ : Aside0 (((((w32.setCell ⟨gb220, 0, none⟩ (.int .i64 ((rd_T107 l0 x7_1).f0))).setCell ⟨gb220, 1, none⟩ (.int .i64 ((rd_T107 l0 x7_1).f1))).setCell ⟨gb220, 2, none⟩ (.int .i64 ((rd_T107 l0 x7_1).f2))).setCell ⟨gb220, 3, none⟩ (.int .i64 ((rd_T107 l0 x7_1).f3))).heap[gb220]? = some (.cells #[.int .i64 ((rd_T107 l0 x7_1).f0), .int .i64 ((rd_T107 l0 x7_1).f1), .int .i64 ((rd_T107 l0 x7_1).f2), .int .i64 ((rd_T107 l0 x7_1).f3)] 107 (0, 0))) := ⟨by (with_reducible repeat (first | refine blk_drewN ?_ _ | refine blk_drew ?_ | refine blk_alloc ?_ _)); refine blk_put (cs := #[.int .i64 ((rd_T107 l0 x7_1).f0), .int .i64 ((rd_T107 l0 x7_1).f1), .int .i64 ((rd_T107 l0 x7_1).f2), .int .i64 0]) ?_ 3 _ rfl; (with_reducible repeat (first | refine blk_drewN ?_ _ | refine blk_drew ?_ | refine blk_alloc ?_ _)); refine blk_put (cs := #[.int .i64 ((rd_T107 l0 x7_1).f0), .int .i64 ((rd_T107 l0 x7_1).f1), .int .i64 0, .int .i64 0]) ?_ 2 _ rfl; (with_reducible repeat (first | refine blk_drewN ?_ _ | refine blk_drew ?_ | refine blk_alloc ?_ _)); refine blk_put (cs := #[.int .i64 ((rd_T107 l0 x7_1).f0), .int .i64 0, .int .i64 0, .int .i64 0]) ?_ 1 _ rfl; (with_reducible repeat (first | refine blk_drewN ?_ _ | refine blk_drew ?_ | refine blk_alloc ?_ _)); refine blk_put (cs := #[.int .i64 0, .int .i64 0, .int .i64 0, .int .i64 0]) ?_ 0 _ rfl; (with_reducible repeat (first | refine blk_drewN ?_ _ | refine blk_drew ?_ | refine blk_alloc ?_ _)); exact BK220.out⟩
          have n1_ : Aside0 (Below w.heap.size w ((((w32.setCell ⟨gb220, 0, none⟩ (.int .i64 ((rd_T107 l0 x7_1).f0))).setCell ⟨gb220, 1, none⟩ (.int .i64 ((rd_T107 l0 x7_1).f1))).setCell ⟨gb220, 2, none⟩ (.int .i64 ((rd_T107 l0 x7_1).f2))).setCell ⟨gb220, 3, none⟩ (.int .i64 ((rd_T107 l0 x7_1).f3)))) := ⟨bz1 GE220⟩
          (try clear BK220)
          (try clear HB)
          generalize ((((w32.setCell ⟨gb220, 0, none⟩ (.int .i64 ((rd_T107 l0 x7_1).f0))).setCell ⟨gb220, 1, none⟩ (.int .i64 ((rd_T107 l0 x7_1).f1))).setCell ⟨gb220, 2, none⟩ (.int .i64 ((rd_T107 l0 x7_1).f2))).setCell ⟨gb220, 3, none⟩ (.int .i64 ((rd_T107 l0 x7_1).f3))) = w34 at n0_ n1_ ⊢
          have BK220 := n0_
          have HB := n1_
          clear n0_ n1_
          have n0_ := Aside0.mk (blk_drew BK220.out)
          have n1_ := Aside0.mk (below_drew1 HB.out)
          clear BK220 HB
          have BK220 := n0_
          have HB := n1_
          clear n0_ n1_
          refine start_ (n := 28) (S := fun w' => w'.cell? ⟨gb220, 0, none⟩ = some (.int .i64 ((rd_T107 l0 x7_1).f0)) ∧ w'.cell? ⟨gb220, 1, none⟩ = some (.int .i64 ((rd_T107 l0 x7_1).f1)) ∧ w'.cell? ⟨gb220, 2, none⟩ = some (.int .i64 ((rd_T107 l0 x7_1).f2)) ∧ w'.cell? ⟨gb220, 3, none⟩ = some (.int .i64 ((rd_T107 l0 x7_1).f3))) (ds := []) #[fF, fF, fF, fF, fF, fF, fF, fF, fF, fF, fF, fF, fF, fF, fF, fF, fF, fF, fF, fF, fF, fF, fF, fF, fF, fF, fF, fF] kf rfl rfl ⟨(blk_cell BK220.out 0).trans rfl, (blk_cell BK220.out 1).trans rfl, (blk_cell BK220.out 2).trans rfl, (blk_cell BK220.out 3).trans rfl⟩ (fun hHeld => ?_); refine with_tabW impl_isPoly.tab4 impl_isPoly.bits4 (fun HT_ HW_ => ?_)
          generalize w34.drew = w35 at BK220 HB hHeld ⊢
          refine pq (i := 0) (N := some 12) #[tT, fF, fF, fF, fF, fF, fF, fF, fF, fF, fF, fF, fF, fF, fF, fF, fF, fF, fF, fF, fF, fF, fF, fF, fF, fF, fF, fF] rfl rfl HT_.out ?_
          refine tq4 (i := 1) (N := some 13) #[tT, tT, fF, fF, fF, fF, fF, fF, fF, fF, fF, fF, fF, fF, fF, fF, fF, fF, fF, fF, fF, fF, fF, fF, fF, fF, fF, fF] rfl rfl HT_.out HW_.out hHeld ?_
          refine pq (i := 2) (N := some 14) #[tT, tT, tT, fF, fF, fF, fF, fF, fF, fF, fF, fF, fF, fF, fF, fF, fF, fF, fF, fF, fF, fF, fF, fF, fF, fF, fF, fF] rfl rfl HT_.out ?_
          refine pq (i := 3) (N := some 15) #[tT, tT, tT, tT, fF, fF, fF, fF, fF, fF, fF, fF, fF, fF, fF, fF, fF, fF, fF, fF, fF, fF, fF, fF, fF, fF, fF, fF] rfl rfl HT_.out ?_
          refine pq (i := 4) (N := some 16) #[tT, tT, tT, tT, tT, fF, fF, fF, fF, fF, fF, fF, fF, fF, fF, fF, fF, fF, fF, fF, fF, fF, fF, fF, fF, fF, fF, fF] rfl rfl HT_.out ?_
          refine tq4 (i := 5) (N := some 17) #[tT, tT, tT, tT, tT, tT, fF, fF, fF, fF, fF, fF, fF, fF, fF, fF, fF, fF, fF, fF, fF, fF, fF, fF, fF, fF, fF, fF] rfl rfl HT_.out HW_.out hHeld ?_
          refine one_ (i := 6) (N := some 18) #[tT, tT, tT, tT, tT, tT, tT, fF, fF, fF, fF, fF, fF, fF, fF, fF, fF, fF, fF, fF, fF, fF, fF, fF, fF, fF, fF, fF] rfl rfl (one_of HT_.out kf) (by decide) (fun K hK => ?_)
          refine goes_ Try.func96 kf rfl #[.int .i64 ((rd_T107 l0 x7_1).f0), .int .i64 (-1000), .int .i64 1000] (by rfl) rfl rfl sm ?_
          with_reducible refine (impl_inside.calls ((rd_T107 l0 x7_1).f0) (-1000) 1000 true _ A10.out).mono ?_
          rintro e w' ⟨rfl, ⟨nd, rfl⟩⟩
          refine ⟨_, rfl, ?_⟩
          refine hK.out _ _ ⟨(blk_cell BK220.out 0).trans rfl, (blk_cell BK220.out 1).trans rfl, (blk_cell BK220.out 2).trans rfl, (blk_cell BK220.out 3).trans rfl⟩ (fun hHeld => ?_)
          clear hK K
          refine norm_ (a' := ?_) ?_ ?_
          rotate_left
          ·show Act.put _ (some 18) _ = _
           simp only [Act.put, List.setIfInBounds_toArray, List.set_cons_zero, List.set_cons_succ, i64_w, i32_w]
           rfl
          refine pq (i := 7) (N := some 19) #[tT, tT, tT, tT, tT, tT, tT, tT, fF, fF, fF, fF, fF, fF, fF, fF, fF, fF, fF, fF, fF, fF, fF, fF, fF, fF, fF, fF] rfl rfl HT_.out ?_
          refine pq (i := 8) (N := some 20) #[tT, tT, tT, tT, tT, tT, tT, tT, tT, fF, fF, fF, fF, fF, fF, fF, fF, fF, fF, fF, fF, fF, fF, fF, fF, fF, fF, fF] rfl rfl HT_.out ?_
          refine pq (i := 9) (N := some 21) #[tT, tT, tT, tT, tT, tT, tT, tT, tT, tT, fF, fF, fF, fF, fF, fF, fF, fF, fF, fF, fF, fF, fF, fF, fF, fF, fF, fF] rfl rfl HT_.out ?_
          refine tq4 (i := 10) (N := some 22) #[tT, tT, tT, tT, tT, tT, tT, tT, tT, tT, tT, fF, fF, fF, fF, fF, fF, fF, fF, fF, fF, fF, fF, fF, fF, fF, fF, fF] rfl rfl HT_.out HW_.out hHeld ?_
          refine one_ (i := 11) (N := some 23) #[tT, tT, tT, tT, tT, tT, tT, tT, tT, tT, tT, tT, fF, fF, fF, fF, fF, fF, fF, fF, fF, fF, fF, fF, fF, fF, fF, fF] rfl rfl (one_of HT_.out kf) (by decide) (fun K hK => ?_)
          refine goes_ Try.func141 kf rfl #[.agg #[.int .i64 ((rd_T107 l0 x7_1).f0), .int .i64 ((rd_T107 l0 x7_1).f1), .int .i64 ((rd_T107 l0 x7_1).f2), .int .i64 ((rd_T107 l0 x7_1).f3)]] (by rfl) rfl rfl sm ?_
          with_reducible refine (impl_hasDegree.calls ((rd_T107 l0 x7_1).f0) ((rd_T107 l0 x7_1).f1) ((rd_T107 l0 x7_1).f2) ((rd_T107 l0 x7_1).f3) true _ A12.out).mono ?_
          rintro e w36 ⟨rfl, hb⟩
          refine ⟨_, rfl, ?_⟩
          have n0_ := bb BK220 hb
          have n1_ := Aside0.mk (below_step (bz1 GE220) hb)
          clear BK220 HB
          have BK220 := n0_
          have HB := n1_
          clear n0_ n1_
          (try clear hb)
          (try clear hb2)
          (try clear hk)
          (try clear hi)
          refine hK.out _ _ ⟨(blk_cell BK220.out 0).trans rfl, (blk_cell BK220.out 1).trans rfl, (blk_cell BK220.out 2).trans rfl, (blk_cell BK220.out 3).trans rfl⟩ (fun hHeld => ?_)
          clear hK K
          refine norm_ (a' := ?_) ?_ ?_
          rotate_left
          ·show Act.put _ (some 23) _ = _
           simp only [Act.put, List.setIfInBounds_toArray, List.set_cons_zero, List.set_cons_succ, i64_w, i32_w]
           rfl
          refine pq (i := 12) (N := some 24) #[tT, tT, tT, tT, tT, tT, tT, tT, tT, tT, tT, tT, tT, fF, fF, fF, fF, fF, fF, fF, fF, fF, fF, fF, fF, fF, fF, fF] rfl rfl HT_.out ?_
          refine pq (i := 13) (N := some 25) #[tT, tT, tT, tT, tT, tT, tT, tT, tT, tT, tT, tT, tT, tT, fF, fF, fF, fF, fF, fF, fF, fF, fF, fF, fF, fF, fF, fF] rfl rfl HT_.out ?_
          refine pq (i := 14) (N := some 26) #[tT, tT, tT, tT, tT, tT, tT, tT, tT, tT, tT, tT, tT, tT, tT, fF, fF, fF, fF, fF, fF, fF, fF, fF, fF, fF, fF, fF] rfl rfl HT_.out ?_
          refine pq (i := 15) (N := some 27) #[tT, tT, tT, tT, tT, tT, tT, tT, tT, tT, tT, tT, tT, tT, tT, tT, fF, fF, fF, fF, fF, fF, fF, fF, fF, fF, fF, fF] rfl rfl HT_.out ?_
          refine pq (i := 16) (N := some 28) #[tT, tT, tT, tT, tT, tT, tT, tT, tT, tT, tT, tT, tT, tT, tT, tT, tT, fF, fF, fF, fF, fF, fF, fF, fF, fF, fF, fF] rfl rfl HT_.out ?_
          refine pq (i := 17) (N := some 29) #[tT, tT, tT, tT, tT, tT, tT, tT, tT, tT, tT, tT, tT, tT, tT, tT, tT, tT, fF, fF, fF, fF, fF, fF, fF, fF, fF, fF] rfl rfl HT_.out ?_
          refine pure_ (i := 18) (N := some 30) (v := undef) (a' := ?_) #[tT, tT, tT, tT, tT, tT, tT, tT, tT, tT, tT, tT, tT, tT, tT, tT, tT, tT, tT, fF, fF, fF, fF, fF, fF, fF, fF, fF] rfl rfl (any_of HT_.out kf) (fun _ _ _ h => h) (Or.inr ⟨by rfl, rfl⟩) ?_ ?_
          rotate_left
          ·simp only [Act.put, List.setIfInBounds_toArray, List.set_cons_zero, List.set_cons_succ, i64_w, i32_w]
           rfl
          refine pure_ (i := 19) (N := some 31) (v := undef) (a' := ?_) #[tT, tT, tT, tT, tT, tT, tT, tT, tT, tT, tT, tT, tT, tT, tT, tT, tT, tT, tT, tT, fF, fF, fF, fF, fF, fF, fF, fF] rfl rfl (any_of HT_.out kf) (fun _ _ _ h => h) (Or.inr ⟨by rfl, rfl⟩) ?_ ?_
          rotate_left
          ·simp only [Act.put, List.setIfInBounds_toArray, List.set_cons_zero, List.set_cons_succ, i64_w, i32_w]
           rfl
          refine pure_ (i := 20) (N := some 32) (v := undef) (a' := ?_) #[tT, tT, tT, tT, tT, tT, tT, tT, tT, tT, tT, tT, tT, tT, tT, tT, tT, tT, tT, tT, tT, fF, fF, fF, fF, fF, fF, fF] rfl rfl (any_of HT_.out kf) (fun _ _ _ h => h) (Or.inr ⟨by rfl, rfl⟩) ?_ ?_
          rotate_left
          ·simp only [Act.put, List.setIfInBounds_toArray, List.set_cons_zero, List.set_cons_succ, i64_w, i32_w]
           rfl
          refine pure_ (i := 21) (N := some 33) (v := undef) (a' := ?_) #[tT, tT, tT, tT, tT, tT, tT, tT, tT, tT, tT, tT, tT, tT, tT, tT, tT, tT, tT, tT, tT, tT, fF, fF, fF, fF, fF, fF] rfl rfl (any_of HT_.out kf) (fun _ _ _ h => h) (Or.inr ⟨by rfl, rfl⟩) ?_ ?_
          rotate_left
          ·simp only [Act.put, List.setIfInBounds_toArray, List.set_cons_zero, List.set_cons_succ, i64_w, i32_w]
           rfl
          refine pure_ (i := 22) (N := some 34) (v := undef) (a' := ?_) #[tT, tT, tT, tT, tT, tT, tT, tT, tT, tT, tT, tT, tT, tT, tT, tT, tT, tT, tT, tT, tT, tT, tT, fF, fF, fF, fF, fF] rfl rfl (any_of HT_.out kf) (fun _ _ _ h => h) (Or.inr ⟨by rfl, rfl⟩) ?_ ?_
          rotate_left
          ·simp only [Act.put, List.setIfInBounds_toArray, List.set_cons_zero, List.set_cons_succ, i64_w, i32_w]
           rfl
          refine pure_ (i := 23) (N := some 35) (v := undef) (a' := ?_) #[tT, tT, tT, tT, tT, tT, tT, tT, tT, tT, tT, tT, tT, tT, tT, tT, tT, tT, tT, tT, tT, tT, tT, tT, fF, fF, fF, fF] rfl rfl (any_of HT_.out kf) (fun _ _ _ h => h) (Or.inr ⟨by rfl, rfl⟩) ?_ ?_
          rotate_left
          ·simp only [Act.put, List.setIfInBounds_toArray, List.set_cons_zero, List.set_cons_succ, i64_w, i32_w]
           rfl
          refine pure_ (i := 24) (N := some 36) (v := undef) (a' := ?_) #[tT, tT, tT, tT, tT, tT, tT, tT, tT, tT, tT, tT, tT, tT, tT, tT, tT, tT, tT, tT, tT, tT, tT, tT, tT, fF, fF, fF] rfl rfl (any_of HT_.out kf) (fun _ _ _ h => h) (Or.inr ⟨by rfl, rfl⟩) ?_ ?_
          rotate_left
          ·simp only [Act.put, List.setIfInBounds_toArray, List.set_cons_zero, List.set_cons_succ, i64_w, i32_w]
           rfl
          refine pure_ (i := 25) (N := some 37) (v := undef) (a' := ?_) #[tT, tT, tT, tT, tT, tT, tT, tT, tT, tT, tT, tT, tT, tT, tT, tT, tT, tT, tT, tT, tT, tT, tT, tT, tT, tT, fF, fF] rfl rfl (any_of HT_.out kf) (fun _ _ _ h => h) (Or.inr ⟨by rfl, rfl⟩) ?_ ?_
          rotate_left
          ·simp only [Act.put, List.setIfInBounds_toArray, List.set_cons_zero, List.set_cons_succ, i64_w, i32_w]
           rfl
          refine pq (i := 26) (N := some 38) #[tT, tT, tT, tT, tT, tT, tT, tT, tT, tT, tT, tT, tT, tT, tT, tT, tT, tT, tT, tT, tT, tT, tT, tT, tT, tT, tT, fF] rfl rfl HT_.out ?_
          refine pq (i := 27) (N := some 39) #[tT, tT, tT, tT, tT, tT, tT, tT, tT, tT, tT, tT, tT, tT, tT, tT, tT, tT, tT, tT, tT, tT, tT, tT, tT, tT, tT, tT] rfl rfl HT_.out ?_
          refine done_ (done_of HT_.out kf) ?_
          try go_wp2
          go_roundg k1
          case measure => have := HK1.out; omega
          case rel => exact ⟨(wrap64 (x7_1 + 1)), sr, H', ⟨by have := HK1.out; omega⟩, ⟨bz1 GE220⟩⟩
        ·replace c13 := Bool.eq_false_iff.mpr c13
         subst c13
         rw [if_neg (show ¬ (false = true) by decide)] at H
         obtain rfl := Option.some.inj H
         have p219 : 0 ≤ (x7_1 : Int) := of_decide_eq_true am
         have q219 : x7_1 < (l0.length : Int) := of_decide_eq_true am
         obtain ⟨ad219, e219, hx219_0, hx219_1, hx219_2, hx219_3⟩ := at_T107 HR0.out x7_1 p219 q219
         cases e219
         replace hx219_0 := (HB.out.cell (World.block_lt_of_cell? w _ hx219_0)).trans hx219_0
         replace hx219_1 := (HB.out.cell (World.block_lt_of_cell? w _ hx219_1)).trans hx219_1
         replace hx219_2 := (HB.out.cell (World.block_lt_of_cell? w _ hx219_2)).trans hx219_2
         replace hx219_3 := (HB.out.cell (World.block_lt_of_cell? w _ hx219_3)).trans hx219_3
         replace p219 := eq_true p219
         replace q219 := eq_true q219
         try go_wp2_with (first | ((with_reducible refine gate_dst (N := 4) rfl ?_); refine bv (N := 4) (cs := #[.int .i64 0, .int .i64 0, .int .i64 0, .int .i64 0]) (t := 107) ?_; intro gb220 hg w37 hbox hb; have n0_ := Aside0.mk (below_step bz hb); have n1_ := Aside0.mk (hbox); have n2_ := (gz hg : Aside0 (w.heap.size ≤ _)); have n3_ := (gz hg : Aside0 (w.heap.size ≤ _)); clear HB; have HB := n0_; have BK220 := n1_; have GW220 := n2_; have GE220 := n3_; clear n0_ n1_ n2_ n3_; clear hb hbox hg; have hcz38_0 : w37.cell? ⟨gb220, 0, none⟩ = some (.int .i64 0) := (blk_cell BK220.out 0).trans rfl; have hcz38_1 : w37.cell? ⟨gb220, 1, none⟩ = some (.int .i64 0) := (blk_cell BK220.out 1).trans rfl; have hcz38_2 : w37.cell? ⟨gb220, 2, none⟩ = some (.int .i64 0) := (blk_cell BK220.out 2).trans rfl; have hcz38_3 : w37.cell? ⟨gb220, 3, none⟩ = some (.int .i64 0) := (blk_cell BK220.out 3).trans rfl; have hfz38_0 := blk_frozen BK220.out 0; have hfz38_1 := blk_frozen BK220.out 1; have hfz38_2 := blk_frozen BK220.out 2; have hfz38_3 := blk_frozen BK220.out 3))
         have n0_ : Aside0 (((((w37.setCell ⟨gb220, 0, none⟩ (.int .i64 ((rd_T107 l0 x7_1).f0))).setCell ⟨gb220, 1, none⟩ (.int .i64 ((rd_T107 l0 x7_1).f1))).setCell ⟨gb220, 2, none⟩ (.int .i64 ((rd_T107 l0 x7_1).f2))).setCell ⟨gb220, 3, none⟩ (.int .i64 ((rd_T107 l0 x7_1).f3))).heap[gb220]? = some (.cells #[.int .i64 ((rd_T107 l0 x7_1).f0), .int .i64 ((rd_T107 l0 x7_1).f1), .int .i64 ((rd_T107 l0 x7_1).f2), .int .i64 ((rd_T107 l0 x7_1).f3)] 107 (0, 0))) := ⟨by (with_reducible repeat (first | refine blk_drewN ?_ _ | refine blk_drew ?_ | refine blk_alloc ?_ _)); refine blk_put (cs := #[.int .i64 ((rd_T107 l0 x7_1).f0), .int .i64 ((rd_T107 l0 x7_1).f1), .int .i64 ((rd_T107 l0 x7_1).f2), .int .i64 0]) ?_ 3 _ rfl; (with_reducible repeat (first | refine blk_drewN ?_ _ | refine blk_drew ?_ | refine blk_alloc ?_ _)); refine blk_put (cs := #[.int .i64 ((rd_T107 l0 x7_1).f0), .int .i64 ((rd_T107 l0 x7_1).f1), .int .i64 0, .int .i64 0]) ?_ 2 _ rfl; (with_reducible repeat (first | refine blk_drewN ?_ _ | refine blk_drew ?_ | refine blk_alloc ?_ _)); refine blk_put (cs := #[.int .i64 ((rd_T107 l0 x7_1).f0), .int .i64 0, .int .i64 0, .int .i64 0]) ?_ 1 _ rfl; (with_reducible repeat (first | refine blk_drewN ?_ _ | refine blk_drew ?_ | refine blk_alloc ?_ _)); refine blk_put (cs := #[.int .i64 0, .int .i64 0, .int .i64 0, .int .i64 0]) ?_ 0 _ rfl; (with_reducible repeat (first | refine blk_drewN ?_ _ | refine blk_drew ?_ | refine blk_alloc ?_ _)); exact BK220.out⟩
         have n1_ : Aside0 (Below w.heap.size w ((((w37.setCell ⟨gb220, 0, none⟩ (.int .i64 ((rd_T107 l0 x7_1).f0))).setCell ⟨gb220, 1, none⟩ (.int .i64 ((rd_T107 l0 x7_1).f1))).setCell ⟨gb220, 2, none⟩ (.int .i64 ((rd_T107 l0 x7_1).f2))).setCell ⟨gb220, 3, none⟩ (.int .i64 ((rd_T107 l0 x7_1).f3)))) := ⟨bz1 GE220⟩
         (try clear BK220)
         (try clear HB)
         generalize ((((w37.setCell ⟨gb220, 0, none⟩ (.int .i64 ((rd_T107 l0 x7_1).f0))).setCell ⟨gb220, 1, none⟩ (.int .i64 ((rd_T107 l0 x7_1).f1))).setCell ⟨gb220, 2, none⟩ (.int .i64 ((rd_T107 l0 x7_1).f2))).setCell ⟨gb220, 3, none⟩ (.int .i64 ((rd_T107 l0 x7_1).f3))) = w39 at n0_ n1_ ⊢
         have BK220 := n0_
         have HB := n1_
         clear n0_ n1_
         have n0_ := Aside0.mk (blk_drew BK220.out)
         have n1_ := Aside0.mk (below_drew1 HB.out)
         clear BK220 HB
         have BK220 := n0_
         have HB := n1_
         clear n0_ n1_
         refine start_ (n := 28) (S := fun w' => w'.cell? ⟨gb220, 0, none⟩ = some (.int .i64 ((rd_T107 l0 x7_1).f0)) ∧ w'.cell? ⟨gb220, 1, none⟩ = some (.int .i64 ((rd_T107 l0 x7_1).f1)) ∧ w'.cell? ⟨gb220, 2, none⟩ = some (.int .i64 ((rd_T107 l0 x7_1).f2)) ∧ w'.cell? ⟨gb220, 3, none⟩ = some (.int .i64 ((rd_T107 l0 x7_1).f3))) (ds := []) #[fF, fF, fF, fF, fF, fF, fF, fF, fF, fF, fF, fF, fF, fF, fF, fF, fF, fF, fF, fF, fF, fF, fF, fF, fF, fF, fF, fF] kf rfl rfl ⟨(blk_cell BK220.out 0).trans rfl, (blk_cell BK220.out 1).trans rfl, (blk_cell BK220.out 2).trans rfl, (blk_cell BK220.out 3).trans rfl⟩ (fun hHeld => ?_); refine with_tabW impl_isPoly.tab4 impl_isPoly.bits4 (fun HT_ HW_ => ?_)
         generalize w39.drew = w40 at BK220 HB hHeld ⊢
         refine pq (i := 0) (N := some 12) #[tT, fF, fF, fF, fF, fF, fF, fF, fF, fF, fF, fF, fF, fF, fF, fF, fF, fF, fF, fF, fF, fF, fF, fF, fF, fF, fF, fF] rfl rfl HT_.out ?_
         refine tq4 (i := 1) (N := some 13) #[tT, tT, fF, fF, fF, fF, fF, fF, fF, fF, fF, fF, fF, fF, fF, fF, fF, fF, fF, fF, fF, fF, fF, fF, fF, fF, fF, fF] rfl rfl HT_.out HW_.out hHeld ?_
         refine pq (i := 2) (N := some 14) #[tT, tT, tT, fF, fF, fF, fF, fF, fF, fF, fF, fF, fF, fF, fF, fF, fF, fF, fF, fF, fF, fF, fF, fF, fF, fF, fF, fF] rfl rfl HT_.out ?_
         refine pq (i := 3) (N := some 15) #[tT, tT, tT, tT, fF, fF, fF, fF, fF, fF, fF, fF, fF, fF, fF, fF, fF, fF, fF, fF, fF, fF, fF, fF, fF, fF, fF, fF] rfl rfl HT_.out ?_
         refine pq (i := 4) (N := some 16) #[tT, tT, tT, tT, tT, fF, fF, fF, fF, fF, fF, fF, fF, fF, fF, fF, fF, fF, fF, fF, fF, fF, fF, fF, fF, fF, fF, fF] rfl rfl HT_.out ?_
         refine tq4 (i := 5) (N := some 17) #[tT, tT, tT, tT, tT, tT, fF, fF, fF, fF, fF, fF, fF, fF, fF, fF, fF, fF, fF, fF, fF, fF, fF, fF, fF, fF, fF, fF] rfl rfl HT_.out HW_.out hHeld ?_
         refine one_ (i := 6) (N := some 18) #[tT, tT, tT, tT, tT, tT, tT, fF, fF, fF, fF, fF, fF, fF, fF, fF, fF, fF, fF, fF, fF, fF, fF, fF, fF, fF, fF, fF] rfl rfl (one_of HT_.out kf) (by decide) (fun K hK => ?_)
         refine goes_ Try.func96 kf rfl #[.int .i64 ((rd_T107 l0 x7_1).f0), .int .i64 (-1000), .int .i64 1000] (by rfl) rfl rfl sm ?_
         with_reducible refine (impl_inside.calls ((rd_T107 l0 x7_1).f0) (-1000) 1000 true _ A10.out).mono ?_
         rintro e w' ⟨rfl, ⟨nd, rfl⟩⟩
         refine ⟨_, rfl, ?_⟩
         refine hK.out _ _ ⟨(blk_cell BK220.out 0).trans rfl, (blk_cell BK220.out 1).trans rfl, (blk_cell BK220.out 2).trans rfl, (blk_cell BK220.out 3).trans rfl⟩ (fun hHeld => ?_)
         clear hK K
         refine norm_ (a' := ?_) ?_ ?_
         rotate_left
         ·show Act.put _ (some 18) _ = _
          simp only [Act.put, List.setIfInBounds_toArray, List.set_cons_zero, List.set_cons_succ, i64_w, i32_w]
          rfl
         refine pq (i := 7) (N := some 19) #[tT, tT, tT, tT, tT, tT, tT, tT, fF, fF, fF, fF, fF, fF, fF, fF, fF, fF, fF, fF, fF, fF, fF, fF, fF, fF, fF, fF] rfl rfl HT_.out ?_
         refine pq (i := 8) (N := some 20) #[tT, tT, tT, tT, tT, tT, tT, tT, tT, fF, fF, fF, fF, fF, fF, fF, fF, fF, fF, fF, fF, fF, fF, fF, fF, fF, fF, fF] rfl rfl HT_.out ?_
         refine pq (i := 9) (N := some 21) #[tT, tT, tT, tT, tT, tT, tT, tT, tT, tT, fF, fF, fF, fF, fF, fF, fF, fF, fF, fF, fF, fF, fF, fF, fF, fF, fF, fF] rfl rfl HT_.out ?_
         refine tq4 (i := 10) (N := some 22) #[tT, tT, tT, tT, tT, tT, tT, tT, tT, tT, tT, fF, fF, fF, fF, fF, fF, fF, fF, fF, fF, fF, fF, fF, fF, fF, fF, fF] rfl rfl HT_.out HW_.out hHeld ?_
         refine one_ (i := 11) (N := some 23) #[tT, tT, tT, tT, tT, tT, tT, tT, tT, tT, tT, tT, fF, fF, fF, fF, fF, fF, fF, fF, fF, fF, fF, fF, fF, fF, fF, fF] rfl rfl (one_of HT_.out kf) (by decide) (fun K hK => ?_)
         refine goes_ Try.func141 kf rfl #[.agg #[.int .i64 ((rd_T107 l0 x7_1).f0), .int .i64 ((rd_T107 l0 x7_1).f1), .int .i64 ((rd_T107 l0 x7_1).f2), .int .i64 ((rd_T107 l0 x7_1).f3)]] (by rfl) rfl rfl sm ?_
         with_reducible refine (impl_hasDegree.calls ((rd_T107 l0 x7_1).f0) ((rd_T107 l0 x7_1).f1) ((rd_T107 l0 x7_1).f2) ((rd_T107 l0 x7_1).f3) false _ A12.out).mono ?_
         rintro e w41 ⟨rfl, hb⟩
         refine ⟨_, rfl, ?_⟩
         have n0_ := bb BK220 hb
         have n1_ := Aside0.mk (below_step (bz1 GE220) hb)
         clear BK220 HB
         have BK220 := n0_
         have HB := n1_
         clear n0_ n1_
         (try clear hb)
         (try clear hb2)
         (try clear hk)
         (try clear hi)
         refine hK.out _ _ ⟨(blk_cell BK220.out 0).trans rfl, (blk_cell BK220.out 1).trans rfl, (blk_cell BK220.out 2).trans rfl, (blk_cell BK220.out 3).trans rfl⟩ (fun hHeld => ?_)
         clear hK K
         refine norm_ (a' := ?_) ?_ ?_
         rotate_left
         ·show Act.put _ (some 23) _ = _
          simp only [Act.put, List.setIfInBounds_toArray, List.set_cons_zero, List.set_cons_succ, i64_w, i32_w]
          rfl
         refine pq (i := 12) (N := some 24) #[tT, tT, tT, tT, tT, tT, tT, tT, tT, tT, tT, tT, tT, fF, fF, fF, fF, fF, fF, fF, fF, fF, fF, fF, fF, fF, fF, fF] rfl rfl HT_.out ?_
         refine pq (i := 13) (N := some 25) #[tT, tT, tT, tT, tT, tT, tT, tT, tT, tT, tT, tT, tT, tT, fF, fF, fF, fF, fF, fF, fF, fF, fF, fF, fF, fF, fF, fF] rfl rfl HT_.out ?_
         refine pq (i := 14) (N := some 26) #[tT, tT, tT, tT, tT, tT, tT, tT, tT, tT, tT, tT, tT, tT, tT, fF, fF, fF, fF, fF, fF, fF, fF, fF, fF, fF, fF, fF] rfl rfl HT_.out ?_
         refine pure_ (i := 15) (N := some 27) (v := undef) (a' := ?_) #[tT, tT, tT, tT, tT, tT, tT, tT, tT, tT, tT, tT, tT, tT, tT, tT, fF, fF, fF, fF, fF, fF, fF, fF, fF, fF, fF, fF] rfl rfl (any_of HT_.out kf) (fun _ _ _ h => h) (Or.inr ⟨by rfl, rfl⟩) ?_ ?_
         rotate_left
         ·simp only [Act.put, List.setIfInBounds_toArray, List.set_cons_zero, List.set_cons_succ, i64_w, i32_w]
          rfl
         refine pure_ (i := 16) (N := some 28) (v := undef) (a' := ?_) #[tT, tT, tT, tT, tT, tT, tT, tT, tT, tT, tT, tT, tT, tT, tT, tT, tT, fF, fF, fF, fF, fF, fF, fF, fF, fF, fF, fF] rfl rfl (any_of HT_.out kf) (fun _ _ _ h => h) (Or.inr ⟨by rfl, rfl⟩) ?_ ?_
         rotate_left
         ·simp only [Act.put, List.setIfInBounds_toArray, List.set_cons_zero, List.set_cons_succ, i64_w, i32_w]
          rfl
         refine pure_ (i := 17) (N := some 29) (v := undef) (a' := ?_) #[tT, tT, tT, tT, tT, tT, tT, tT, tT, tT, tT, tT, tT, tT, tT, tT, tT, tT, fF, fF, fF, fF, fF, fF, fF, fF, fF, fF] rfl rfl (any_of HT_.out kf) (fun _ _ _ h => h) (Or.inr ⟨by rfl, rfl⟩) ?_ ?_
         rotate_left
         ·simp only [Act.put, List.setIfInBounds_toArray, List.set_cons_zero, List.set_cons_succ, i64_w, i32_w]
          rfl
         refine pure_ (i := 18) (N := some 30) (v := undef) (a' := ?_) #[tT, tT, tT, tT, tT, tT, tT, tT, tT, tT, tT, tT, tT, tT, tT, tT, tT, tT, tT, fF, fF, fF, fF, fF, fF, fF, fF, fF] rfl rfl (any_of HT_.out kf) (fun _ _ _ h => h) (Or.inr ⟨by rfl, rfl⟩) ?_ ?_
         rotate_left
         ·simp only [Act.put, List.setIfInBounds_toArray, List.set_cons_zero, List.set_cons_succ, i64_w, i32_w]
          rfl
         refine pure_ (i := 19) (N := some 31) (v := undef) (a' := ?_) #[tT, tT, tT, tT, tT, tT, tT, tT, tT, tT, tT, tT, tT, tT, tT, tT, tT, tT, tT, tT, fF, fF, fF, fF, fF, fF, fF, fF] rfl rfl (any_of HT_.out kf) (fun _ _ _ h => h) (Or.inr ⟨by rfl, rfl⟩) ?_ ?_
         rotate_left
         ·simp only [Act.put, List.setIfInBounds_toArray, List.set_cons_zero, List.set_cons_succ, i64_w, i32_w]
          rfl
         refine pure_ (i := 20) (N := some 32) (v := undef) (a' := ?_) #[tT, tT, tT, tT, tT, tT, tT, tT, tT, tT, tT, tT, tT, tT, tT, tT, tT, tT, tT, tT, tT, fF, fF, fF, fF, fF, fF, fF] rfl rfl (any_of HT_.out kf) (fun _ _ _ h => h) (Or.inr ⟨by rfl, rfl⟩) ?_ ?_
         rotate_left
         ·simp only [Act.put, List.setIfInBounds_toArray, List.set_cons_zero, List.set_cons_succ, i64_w, i32_w]
          rfl
         refine pure_ (i := 21) (N := some 33) (v := undef) (a' := ?_) #[tT, tT, tT, tT, tT, tT, tT, tT, tT, tT, tT, tT, tT, tT, tT, tT, tT, tT, tT, tT, tT, tT, fF, fF, fF, fF, fF, fF] rfl rfl (any_of HT_.out kf) (fun _ _ _ h => h) (Or.inr ⟨by rfl, rfl⟩) ?_ ?_
         rotate_left
         ·simp only [Act.put, List.setIfInBounds_toArray, List.set_cons_zero, List.set_cons_succ, i64_w, i32_w]
          rfl
         refine pure_ (i := 22) (N := some 34) (v := undef) (a' := ?_) #[tT, tT, tT, tT, tT, tT, tT, tT, tT, tT, tT, tT, tT, tT, tT, tT, tT, tT, tT, tT, tT, tT, tT, fF, fF, fF, fF, fF] rfl rfl (any_of HT_.out kf) (fun _ _ _ h => h) (Or.inr ⟨by rfl, rfl⟩) ?_ ?_
         rotate_left
         ·simp only [Act.put, List.setIfInBounds_toArray, List.set_cons_zero, List.set_cons_succ, i64_w, i32_w]
          rfl
         refine pure_ (i := 23) (N := some 35) (v := undef) (a' := ?_) #[tT, tT, tT, tT, tT, tT, tT, tT, tT, tT, tT, tT, tT, tT, tT, tT, tT, tT, tT, tT, tT, tT, tT, tT, fF, fF, fF, fF] rfl rfl (any_of HT_.out kf) (fun _ _ _ h => h) (Or.inr ⟨by rfl, rfl⟩) ?_ ?_
         rotate_left
         ·simp only [Act.put, List.setIfInBounds_toArray, List.set_cons_zero, List.set_cons_succ, i64_w, i32_w]
          rfl
         refine pure_ (i := 24) (N := some 36) (v := undef) (a' := ?_) #[tT, tT, tT, tT, tT, tT, tT, tT, tT, tT, tT, tT, tT, tT, tT, tT, tT, tT, tT, tT, tT, tT, tT, tT, tT, fF, fF, fF] rfl rfl (any_of HT_.out kf) (fun _ _ _ h => h) (Or.inr ⟨by rfl, rfl⟩) ?_ ?_
         rotate_left
         ·simp only [Act.put, List.setIfInBounds_toArray, List.set_cons_zero, List.set_cons_succ, i64_w, i32_w]
          rfl
         refine pure_ (i := 25) (N := some 37) (v := undef) (a' := ?_) #[tT, tT, tT, tT, tT, tT, tT, tT, tT, tT, tT, tT, tT, tT, tT, tT, tT, tT, tT, tT, tT, tT, tT, tT, tT, tT, fF, fF] rfl rfl (any_of HT_.out kf) (fun _ _ _ h => h) (Or.inr ⟨by rfl, rfl⟩) ?_ ?_
         rotate_left
         ·simp only [Act.put, List.setIfInBounds_toArray, List.set_cons_zero, List.set_cons_succ, i64_w, i32_w]
          rfl
         refine pure_ (i := 26) (N := some 38) (v := undef) (a' := ?_) #[tT, tT, tT, tT, tT, tT, tT, tT, tT, tT, tT, tT, tT, tT, tT, tT, tT, tT, tT, tT, tT, tT, tT, tT, tT, tT, tT, fF] rfl rfl (any_of HT_.out kf) (fun _ _ _ h => h) (Or.inr ⟨by rfl, rfl⟩) ?_ ?_
         rotate_left
         ·simp only [Act.put, List.setIfInBounds_toArray, List.set_cons_zero, List.set_cons_succ, i64_w, i32_w]
          rfl
         refine pq (i := 27) (N := some 39) #[tT, tT, tT, tT, tT, tT, tT, tT, tT, tT, tT, tT, tT, tT, tT, tT, tT, tT, tT, tT, tT, tT, tT, tT, tT, tT, tT, tT] rfl rfl HT_.out ?_
         refine done_ (done_of HT_.out kf) ?_
         try go_wp2
         go_ret
         exact ⟨er, bz1 GE220⟩
       ·replace c11 := Bool.eq_false_iff.mpr c11
        subst c11
        rw [if_neg (show ¬ (false = true) by decide)] at H
        obtain rfl := Option.some.inj H
        have p219 : 0 ≤ (x7_1 : Int) := of_decide_eq_true am
        have q219 : x7_1 < (l0.length : Int) := of_decide_eq_true am
        obtain ⟨ad219, e219, hx219_0, hx219_1, hx219_2, hx219_3⟩ := at_T107 HR0.out x7_1 p219 q219
        cases e219
        replace hx219_0 := (HB.out.cell (World.block_lt_of_cell? w _ hx219_0)).trans hx219_0
        replace hx219_1 := (HB.out.cell (World.block_lt_of_cell? w _ hx219_1)).trans hx219_1
        replace hx219_2 := (HB.out.cell (World.block_lt_of_cell? w _ hx219_2)).trans hx219_2
        replace hx219_3 := (HB.out.cell (World.block_lt_of_cell? w _ hx219_3)).trans hx219_3
        replace p219 := eq_true p219
        replace q219 := eq_true q219
        try go_wp2_with (first | ((with_reducible refine gate_dst (N := 4) rfl ?_); refine bv (N := 4) (cs := #[.int .i64 0, .int .i64 0, .int .i64 0, .int .i64 0]) (t := 107) ?_; intro gb220 hg w42 hbox hb; have n0_ := Aside0.mk (below_step bz hb); have n1_ := Aside0.mk (hbox); have n2_ := (gz hg : Aside0 (w.heap.size ≤ _)); have n3_ := (gz hg : Aside0 (w.heap.size ≤ _)); clear HB; have HB := n0_; have BK220 := n1_; have GW220 := n2_; have GE220 := n3_; clear n0_ n1_ n2_ n3_; clear hb hbox hg; have hcz43_0 : w42.cell? ⟨gb220, 0, none⟩ = some (.int .i64 0) := (blk_cell BK220.out 0).trans rfl; have hcz43_1 : w42.cell? ⟨gb220, 1, none⟩ = some (.int .i64 0) := (blk_cell BK220.out 1).trans rfl; have hcz43_2 : w42.cell? ⟨gb220, 2, none⟩ = some (.int .i64 0) := (blk_cell BK220.out 2).trans rfl; have hcz43_3 : w42.cell? ⟨gb220, 3, none⟩ = some (.int .i64 0) := (blk_cell BK220.out 3).trans rfl; have hfz43_0 := blk_frozen BK220.out 0; have hfz43_1 := blk_frozen BK220.out 1; have hfz43_2 := blk_frozen BK220.out 2; have hfz43_3 := blk_frozen BK220.out 3))
        have n0_ : Aside0 (((((w42.setCell ⟨gb220, 0, none⟩ (.int .i64 ((rd_T107 l0 x7_1).f0))).setCell ⟨gb220, 1, none⟩ (.int .i64 ((rd_T107 l0 x7_1).f1))).setCell ⟨gb220, 2, none⟩ (.int .i64 ((rd_T107 l0 x7_1).f2))).setCell ⟨gb220, 3, none⟩ (.int .i64 ((rd_T107 l0 x7_1).f3))).heap[gb220]? = some (.cells #[.int .i64 ((rd_T107 l0 x7_1).f0), .int .i64 ((rd_T107 l0 x7_1).f1), .int .i64 ((rd_T107 l0 x7_1).f2), .int .i64 ((rd_T107 l0 x7_1).f3)] 107 (0, 0))) := ⟨by (with_reducible repeat (first | refine blk_drewN ?_ _ | refine blk_drew ?_ | refine blk_alloc ?_ _)); refine blk_put (cs := #[.int .i64 ((rd_T107 l0 x7_1).f0), .int .i64 ((rd_T107 l0 x7_1).f1), .int .i64 ((rd_T107 l0 x7_1).f2), .int .i64 0]) ?_ 3 _ rfl; (with_reducible repeat (first | refine blk_drewN ?_ _ | refine blk_drew ?_ | refine blk_alloc ?_ _)); refine blk_put (cs := #[.int .i64 ((rd_T107 l0 x7_1).f0), .int .i64 ((rd_T107 l0 x7_1).f1), .int .i64 0, .int .i64 0]) ?_ 2 _ rfl; (with_reducible repeat (first | refine blk_drewN ?_ _ | refine blk_drew ?_ | refine blk_alloc ?_ _)); refine blk_put (cs := #[.int .i64 ((rd_T107 l0 x7_1).f0), .int .i64 0, .int .i64 0, .int .i64 0]) ?_ 1 _ rfl; (with_reducible repeat (first | refine blk_drewN ?_ _ | refine blk_drew ?_ | refine blk_alloc ?_ _)); refine blk_put (cs := #[.int .i64 0, .int .i64 0, .int .i64 0, .int .i64 0]) ?_ 0 _ rfl; (with_reducible repeat (first | refine blk_drewN ?_ _ | refine blk_drew ?_ | refine blk_alloc ?_ _)); exact BK220.out⟩
        have n1_ : Aside0 (Below w.heap.size w ((((w42.setCell ⟨gb220, 0, none⟩ (.int .i64 ((rd_T107 l0 x7_1).f0))).setCell ⟨gb220, 1, none⟩ (.int .i64 ((rd_T107 l0 x7_1).f1))).setCell ⟨gb220, 2, none⟩ (.int .i64 ((rd_T107 l0 x7_1).f2))).setCell ⟨gb220, 3, none⟩ (.int .i64 ((rd_T107 l0 x7_1).f3)))) := ⟨bz1 GE220⟩
        (try clear BK220)
        (try clear HB)
        generalize ((((w42.setCell ⟨gb220, 0, none⟩ (.int .i64 ((rd_T107 l0 x7_1).f0))).setCell ⟨gb220, 1, none⟩ (.int .i64 ((rd_T107 l0 x7_1).f1))).setCell ⟨gb220, 2, none⟩ (.int .i64 ((rd_T107 l0 x7_1).f2))).setCell ⟨gb220, 3, none⟩ (.int .i64 ((rd_T107 l0 x7_1).f3))) = w44 at n0_ n1_ ⊢
        have BK220 := n0_
        have HB := n1_
        clear n0_ n1_
        have n0_ := Aside0.mk (blk_drew BK220.out)
        have n1_ := Aside0.mk (below_drew1 HB.out)
        clear BK220 HB
        have BK220 := n0_
        have HB := n1_
        clear n0_ n1_
        refine start_ (n := 28) (S := fun w' => w'.cell? ⟨gb220, 0, none⟩ = some (.int .i64 ((rd_T107 l0 x7_1).f0)) ∧ w'.cell? ⟨gb220, 1, none⟩ = some (.int .i64 ((rd_T107 l0 x7_1).f1)) ∧ w'.cell? ⟨gb220, 2, none⟩ = some (.int .i64 ((rd_T107 l0 x7_1).f2)) ∧ w'.cell? ⟨gb220, 3, none⟩ = some (.int .i64 ((rd_T107 l0 x7_1).f3))) (ds := []) #[fF, fF, fF, fF, fF, fF, fF, fF, fF, fF, fF, fF, fF, fF, fF, fF, fF, fF, fF, fF, fF, fF, fF, fF, fF, fF, fF, fF] kf rfl rfl ⟨(blk_cell BK220.out 0).trans rfl, (blk_cell BK220.out 1).trans rfl, (blk_cell BK220.out 2).trans rfl, (blk_cell BK220.out 3).trans rfl⟩ (fun hHeld => ?_); refine with_tabW impl_isPoly.tab4 impl_isPoly.bits4 (fun HT_ HW_ => ?_)
        generalize w44.drew = w45 at BK220 HB hHeld ⊢
        refine pq (i := 0) (N := some 12) #[tT, fF, fF, fF, fF, fF, fF, fF, fF, fF, fF, fF, fF, fF, fF, fF, fF, fF, fF, fF, fF, fF, fF, fF, fF, fF, fF, fF] rfl rfl HT_.out ?_
        refine tq4 (i := 1) (N := some 13) #[tT, tT, fF, fF, fF, fF, fF, fF, fF, fF, fF, fF, fF, fF, fF, fF, fF, fF, fF, fF, fF, fF, fF, fF, fF, fF, fF, fF] rfl rfl HT_.out HW_.out hHeld ?_
        refine pq (i := 2) (N := some 14) #[tT, tT, tT, fF, fF, fF, fF, fF, fF, fF, fF, fF, fF, fF, fF, fF, fF, fF, fF, fF, fF, fF, fF, fF, fF, fF, fF, fF] rfl rfl HT_.out ?_
        refine pq (i := 3) (N := some 15) #[tT, tT, tT, tT, fF, fF, fF, fF, fF, fF, fF, fF, fF, fF, fF, fF, fF, fF, fF, fF, fF, fF, fF, fF, fF, fF, fF, fF] rfl rfl HT_.out ?_
        refine pq (i := 4) (N := some 16) #[tT, tT, tT, tT, tT, fF, fF, fF, fF, fF, fF, fF, fF, fF, fF, fF, fF, fF, fF, fF, fF, fF, fF, fF, fF, fF, fF, fF] rfl rfl HT_.out ?_
        refine tq4 (i := 5) (N := some 17) #[tT, tT, tT, tT, tT, tT, fF, fF, fF, fF, fF, fF, fF, fF, fF, fF, fF, fF, fF, fF, fF, fF, fF, fF, fF, fF, fF, fF] rfl rfl HT_.out HW_.out hHeld ?_
        refine one_ (i := 6) (N := some 18) #[tT, tT, tT, tT, tT, tT, tT, fF, fF, fF, fF, fF, fF, fF, fF, fF, fF, fF, fF, fF, fF, fF, fF, fF, fF, fF, fF, fF] rfl rfl (one_of HT_.out kf) (by decide) (fun K hK => ?_)
        refine goes_ Try.func96 kf rfl #[.int .i64 ((rd_T107 l0 x7_1).f0), .int .i64 (-1000), .int .i64 1000] (by rfl) rfl rfl sm ?_
        with_reducible refine (impl_inside.calls ((rd_T107 l0 x7_1).f0) (-1000) 1000 false _ A10.out).mono ?_
        rintro e w' ⟨rfl, ⟨nd, rfl⟩⟩
        refine ⟨_, rfl, ?_⟩
        refine hK.out _ _ ⟨(blk_cell BK220.out 0).trans rfl, (blk_cell BK220.out 1).trans rfl, (blk_cell BK220.out 2).trans rfl, (blk_cell BK220.out 3).trans rfl⟩ (fun hHeld => ?_)
        clear hK K
        refine norm_ (a' := ?_) ?_ ?_
        rotate_left
        ·show Act.put _ (some 18) _ = _
         simp only [Act.put, List.setIfInBounds_toArray, List.set_cons_zero, List.set_cons_succ, i64_w, i32_w]
         rfl
        refine pq (i := 7) (N := some 19) #[tT, tT, tT, tT, tT, tT, tT, tT, fF, fF, fF, fF, fF, fF, fF, fF, fF, fF, fF, fF, fF, fF, fF, fF, fF, fF, fF, fF] rfl rfl HT_.out ?_
        refine pq (i := 8) (N := some 20) #[tT, tT, tT, tT, tT, tT, tT, tT, tT, fF, fF, fF, fF, fF, fF, fF, fF, fF, fF, fF, fF, fF, fF, fF, fF, fF, fF, fF] rfl rfl HT_.out ?_
        refine pq (i := 9) (N := some 21) #[tT, tT, tT, tT, tT, tT, tT, tT, tT, tT, fF, fF, fF, fF, fF, fF, fF, fF, fF, fF, fF, fF, fF, fF, fF, fF, fF, fF] rfl rfl HT_.out ?_
        refine pure_ (i := 10) (N := some 22) (v := undef) (a' := ?_) #[tT, tT, tT, tT, tT, tT, tT, tT, tT, tT, tT, fF, fF, fF, fF, fF, fF, fF, fF, fF, fF, fF, fF, fF, fF, fF, fF, fF] rfl rfl (any_of HT_.out kf) (fun _ _ _ h => h) (Or.inr ⟨by rfl, rfl⟩) ?_ ?_
        rotate_left
        ·simp only [Act.put, List.setIfInBounds_toArray, List.set_cons_zero, List.set_cons_succ, i64_w, i32_w]
         rfl
        refine pure_ (i := 11) (N := some 23) (v := undef) (a' := ?_) #[tT, tT, tT, tT, tT, tT, tT, tT, tT, tT, tT, tT, fF, fF, fF, fF, fF, fF, fF, fF, fF, fF, fF, fF, fF, fF, fF, fF] rfl rfl (any_of HT_.out kf) (fun _ _ _ h => h) (Or.inr ⟨by rfl, rfl⟩) ?_ ?_
        rotate_left
        ·simp only [Act.put, List.setIfInBounds_toArray, List.set_cons_zero, List.set_cons_succ, i64_w, i32_w]
         rfl
        refine pure_ (i := 12) (N := some 24) (v := undef) (a' := ?_) #[tT, tT, tT, tT, tT, tT, tT, tT, tT, tT, tT, tT, tT, fF, fF, fF, fF, fF, fF, fF, fF, fF, fF, fF, fF, fF, fF, fF] rfl rfl (any_of HT_.out kf) (fun _ _ _ h => h) (Or.inr ⟨by rfl, rfl⟩) ?_ ?_
        rotate_left
        ·simp only [Act.put, List.setIfInBounds_toArray, List.set_cons_zero, List.set_cons_succ, i64_w, i32_w]
         rfl
        refine pq (i := 13) (N := some 25) #[tT, tT, tT, tT, tT, tT, tT, tT, tT, tT, tT, tT, tT, tT, fF, fF, fF, fF, fF, fF, fF, fF, fF, fF, fF, fF, fF, fF] rfl rfl HT_.out ?_
        refine pq (i := 14) (N := some 26) #[tT, tT, tT, tT, tT, tT, tT, tT, tT, tT, tT, tT, tT, tT, tT, fF, fF, fF, fF, fF, fF, fF, fF, fF, fF, fF, fF, fF] rfl rfl HT_.out ?_
        refine pure_ (i := 15) (N := some 27) (v := undef) (a' := ?_) #[tT, tT, tT, tT, tT, tT, tT, tT, tT, tT, tT, tT, tT, tT, tT, tT, fF, fF, fF, fF, fF, fF, fF, fF, fF, fF, fF, fF] rfl rfl (any_of HT_.out kf) (fun _ _ _ h => h) (Or.inr ⟨by rfl, rfl⟩) ?_ ?_
        rotate_left
        ·simp only [Act.put, List.setIfInBounds_toArray, List.set_cons_zero, List.set_cons_succ, i64_w, i32_w]
         rfl
        refine pure_ (i := 16) (N := some 28) (v := undef) (a' := ?_) #[tT, tT, tT, tT, tT, tT, tT, tT, tT, tT, tT, tT, tT, tT, tT, tT, tT, fF, fF, fF, fF, fF, fF, fF, fF, fF, fF, fF] rfl rfl (any_of HT_.out kf) (fun _ _ _ h => h) (Or.inr ⟨by rfl, rfl⟩) ?_ ?_
        rotate_left
        ·simp only [Act.put, List.setIfInBounds_toArray, List.set_cons_zero, List.set_cons_succ, i64_w, i32_w]
         rfl
        refine pure_ (i := 17) (N := some 29) (v := undef) (a' := ?_) #[tT, tT, tT, tT, tT, tT, tT, tT, tT, tT, tT, tT, tT, tT, tT, tT, tT, tT, fF, fF, fF, fF, fF, fF, fF, fF, fF, fF] rfl rfl (any_of HT_.out kf) (fun _ _ _ h => h) (Or.inr ⟨by rfl, rfl⟩) ?_ ?_
        rotate_left
        ·simp only [Act.put, List.setIfInBounds_toArray, List.set_cons_zero, List.set_cons_succ, i64_w, i32_w]
         rfl
        refine pure_ (i := 18) (N := some 30) (v := undef) (a' := ?_) #[tT, tT, tT, tT, tT, tT, tT, tT, tT, tT, tT, tT, tT, tT, tT, tT, tT, tT, tT, fF, fF, fF, fF, fF, fF, fF, fF, fF] rfl rfl (any_of HT_.out kf) (fun _ _ _ h => h) (Or.inr ⟨by rfl, rfl⟩) ?_ ?_
        rotate_left
        ·simp only [Act.put, List.setIfInBounds_toArray, List.set_cons_zero, List.set_cons_succ, i64_w, i32_w]
         rfl
        refine pure_ (i := 19) (N := some 31) (v := undef) (a' := ?_) #[tT, tT, tT, tT, tT, tT, tT, tT, tT, tT, tT, tT, tT, tT, tT, tT, tT, tT, tT, tT, fF, fF, fF, fF, fF, fF, fF, fF] rfl rfl (any_of HT_.out kf) (fun _ _ _ h => h) (Or.inr ⟨by rfl, rfl⟩) ?_ ?_
        rotate_left
        ·simp only [Act.put, List.setIfInBounds_toArray, List.set_cons_zero, List.set_cons_succ, i64_w, i32_w]
         rfl
        refine pure_ (i := 20) (N := some 32) (v := undef) (a' := ?_) #[tT, tT, tT, tT, tT, tT, tT, tT, tT, tT, tT, tT, tT, tT, tT, tT, tT, tT, tT, tT, tT, fF, fF, fF, fF, fF, fF, fF] rfl rfl (any_of HT_.out kf) (fun _ _ _ h => h) (Or.inr ⟨by rfl, rfl⟩) ?_ ?_
        rotate_left
        ·simp only [Act.put, List.setIfInBounds_toArray, List.set_cons_zero, List.set_cons_succ, i64_w, i32_w]
         rfl
        refine pure_ (i := 21) (N := some 33) (v := undef) (a' := ?_) #[tT, tT, tT, tT, tT, tT, tT, tT, tT, tT, tT, tT, tT, tT, tT, tT, tT, tT, tT, tT, tT, tT, fF, fF, fF, fF, fF, fF] rfl rfl (any_of HT_.out kf) (fun _ _ _ h => h) (Or.inr ⟨by rfl, rfl⟩) ?_ ?_
        rotate_left
        ·simp only [Act.put, List.setIfInBounds_toArray, List.set_cons_zero, List.set_cons_succ, i64_w, i32_w]
         rfl
        refine pure_ (i := 22) (N := some 34) (v := undef) (a' := ?_) #[tT, tT, tT, tT, tT, tT, tT, tT, tT, tT, tT, tT, tT, tT, tT, tT, tT, tT, tT, tT, tT, tT, tT, fF, fF, fF, fF, fF] rfl rfl (any_of HT_.out kf) (fun _ _ _ h => h) (Or.inr ⟨by rfl, rfl⟩) ?_ ?_
        rotate_left
        ·simp only [Act.put, List.setIfInBounds_toArray, List.set_cons_zero, List.set_cons_succ, i64_w, i32_w]
         rfl
        refine pure_ (i := 23) (N := some 35) (v := undef) (a' := ?_) #[tT, tT, tT, tT, tT, tT, tT, tT, tT, tT, tT, tT, tT, tT, tT, tT, tT, tT, tT, tT, tT, tT, tT, tT, fF, fF, fF, fF] rfl rfl (any_of HT_.out kf) (fun _ _ _ h => h) (Or.inr ⟨by rfl, rfl⟩) ?_ ?_
        rotate_left
        ·simp only [Act.put, List.setIfInBounds_toArray, List.set_cons_zero, List.set_cons_succ, i64_w, i32_w]
         rfl
        refine pure_ (i := 24) (N := some 36) (v := undef) (a' := ?_) #[tT, tT, tT, tT, tT, tT, tT, tT, tT, tT, tT, tT, tT, tT, tT, tT, tT, tT, tT, tT, tT, tT, tT, tT, tT, fF, fF, fF] rfl rfl (any_of HT_.out kf) (fun _ _ _ h => h) (Or.inr ⟨by rfl, rfl⟩) ?_ ?_
        rotate_left
        ·simp only [Act.put, List.setIfInBounds_toArray, List.set_cons_zero, List.set_cons_succ, i64_w, i32_w]
         rfl
        refine pure_ (i := 25) (N := some 37) (v := undef) (a' := ?_) #[tT, tT, tT, tT, tT, tT, tT, tT, tT, tT, tT, tT, tT, tT, tT, tT, tT, tT, tT, tT, tT, tT, tT, tT, tT, tT, fF, fF] rfl rfl (any_of HT_.out kf) (fun _ _ _ h => h) (Or.inr ⟨by rfl, rfl⟩) ?_ ?_
        rotate_left
        ·simp only [Act.put, List.setIfInBounds_toArray, List.set_cons_zero, List.set_cons_succ, i64_w, i32_w]
         rfl
        refine pure_ (i := 26) (N := some 38) (v := undef) (a' := ?_) #[tT, tT, tT, tT, tT, tT, tT, tT, tT, tT, tT, tT, tT, tT, tT, tT, tT, tT, tT, tT, tT, tT, tT, tT, tT, tT, tT, fF] rfl rfl (any_of HT_.out kf) (fun _ _ _ h => h) (Or.inr ⟨by rfl, rfl⟩) ?_ ?_
        rotate_left
        ·simp only [Act.put, List.setIfInBounds_toArray, List.set_cons_zero, List.set_cons_succ, i64_w, i32_w]
         rfl
        refine pq (i := 27) (N := some 39) #[tT, tT, tT, tT, tT, tT, tT, tT, tT, tT, tT, tT, tT, tT, tT, tT, tT, tT, tT, tT, tT, tT, tT, tT, tT, tT, tT, tT] rfl rfl HT_.out ?_
        refine done_ (done_of HT_.out kf) ?_
        try go_wp2
        go_ret
        exact ⟨er, bz1 GE220⟩
     ·rw [if_neg c4] at H
      exact absurd H (by simp)
    ·rw [if_neg c3] at H
     exact absurd H (by simp)
   ·rw [if_neg c2] at H
    have c2b0 : decide (x7_1 < (l0.length : Int)) = false := decide_eq_false c2
    clear c2
    obtain rfl := Option.some.inj H
    go_wp2
    go_ret
    exact ⟨er, bz⟩
end Go.Proofs.Ytalcohajbcijlaa.QSiA
