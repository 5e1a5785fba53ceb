import Derived.Test.YtalcohajbcijlaaZHasPointSq
import Derived.Test.YtalcohajbcijlaaZHasPointQHpsx2
import Derived.Test.YtalcohajbcijlaaZHasPointQHpsx5
import Derived.Test.YtalcohajbcijlaaZHasPointQHpsx9
import Derived.Test.YtalcohajbcijlaaZHasPointQHpsx11
namespace Go.Proofs.Ytalcohajbcijlaa.QHps
open Go.RowKit Go.Proofs.YtalcohajbcijlaaW.PrintWords Go.Proofs.YtalcohajbcijlaaW.PrintLast Go.Proofs.YtalcohajbcijlaaW.PrintMore
attribute [local go_sem] max2_int min2_int max_two min_two max_three min_three max_four min_four
set_option linter.unusedVariables false
set_option linter.unusedSimpArgs false
def impl_compareD.f (k : Nat) (a0_0 : Int) (a0_1 : Int) (a1_0 : Int) (a1_1 : Int) : Option (Int) := (impl_wideOf.f a0_0).bind fun bt209 => ((impl_wide_shift.f bt209.1 bt209.2.1 bt209.2.2 (wrap64 ((mx a0_1 a1_1) - a0_1))).bind fun bt212 => ((impl_wideOf.f a1_0).bind fun bt215 => ((impl_wide_shift.f bt215.1 bt215.2.1 bt215.2.2 (wrap64 ((mx a0_1 a1_1) - a1_1))).bind fun bt218 => ((impl_compareWide.f k bt212.1 bt212.2.1 bt212.2.2 bt218.1 bt218.2.1 bt218.2.2).bind fun t221 => (some t221)))))
def impl_compareD.T2 : Bool × List (List Nat × List Nat) := (true, [([], []), ([0], [0]), ([1], [1]), ([], []), ([], []), ([4], [4]), ([3, 5], [3, 5]), ([2, 6, 2], [2, 6]), ([], []), ([8], [8]), ([9, 7], [9]), ([], []), ([], []), ([12], [12]), ([11, 13], [11, 13]), ([10, 14, 10], [10, 14]), ([7, 15, 15], [7, 15]), ([16, 16, 0, 1, 2, 3, 4, 5, 6, 7, 8, 9, 10, 11, 12, 13, 14, 15, 16], [16])])
def impl_compareD.B2 : List Nat := [0, 1, 3, 0, 0, 16, 56, 127, 0, 256, 1023, 0, 0, 4096, 14336, 32767, 65535, 131071]
theorem impl_compareD.tab2 : rtab .any (opsOf Try.f89 2) = impl_compareD.T2 := by kernel_rfl
theorem impl_compareD.bits2 : waitsOk impl_compareD.T2.2 impl_compareD.B2 = true := by kernel_rfl
set_option maxHeartbeats 8000000 in
set_option maxRecDepth 100000 in
theorem impl_compareD.calls (k : Nat) (a0_0 : Int) (a0_1 : Int) (a1_0 : Int) (a1_1 : Int) (r : Int) (w : World) (h : impl_compareD.f k a0_0 a0_1 a1_0 a1_1 = some r) :
 Calls Try.prog 89 #[.agg #[.int .i64 a0_0, .int .i64 a0_1], .agg #[.int .i64 a1_0, .int .i64 a1_1]] w fun e w' => e = .returned (.int .i64 r) ∧ Below w.heap.size w w' := by
 have hu44 := Try.underlying44
 have HB := Aside0.mk (Below.refl w.heap.size w)
 have H : ((impl_wideOf.f a0_0).bind fun bt209 => ((impl_wide_shift.f bt209.1 bt209.2.1 bt209.2.2 (wrap64 ((mx a0_1 a1_1) - a0_1))).bind fun bt212 => ((impl_wideOf.f a1_0).bind fun bt215 => ((impl_wide_shift.f bt215.1 bt215.2.1 bt215.2.2 (wrap64 ((mx a0_1 a1_1) - a1_1))).bind fun bt218 => ((impl_compareWide.f k bt212.1 bt212.2.1 bt212.2.2 bt218.1 bt218.2.1 bt218.2.2).bind fun t221 => (some t221)))))) = some r := h
 clear h
 obtain ⟨ji3, hji3⟩ : ∃ j_ : Int, (mx a0_1 a1_1) = j_ := ⟨_, rfl⟩
 first | rw [hji3] at H | simp only [hji3] at H
 have hji3_ : (if a0_1 < a1_1 then a1_1 else a0_1) = ji3 := hji3
 obtain ⟨⟨t209, t210, t211⟩, A4, H⟩ := bi H
 try dsimp only at H
 obtain ⟨⟨t212, t213, t214⟩, A5, H⟩ := bi H
 try dsimp only at H
 obtain ⟨⟨t215, t216, t217⟩, A6, H⟩ := bi H
 try dsimp only at H
 obtain ⟨⟨t218, t219, t220⟩, A7, H⟩ := bi H
 try dsimp only at H
 obtain ⟨t221, A8, H⟩ := bi H
 obtain rfl := Option.some.inj H
 go_enter Try.func89, Try.ntmps89
 try go_wp2_with (first | ((with_reducible refine gate_dst (N := 2) rfl ?_); refine bv (N := 2) (cs := #[.int .i64 a0_0, .int .i64 a0_1]) (t := 44) ?_; intro gb207 hg w9 hbox hb; have n0_ := Aside0.mk (below_step bz hb); have n1_ := Aside0.mk (hbox); have n2_ := (gz hg : Aside0 (w.heap.size ≤ _)); have n3_ := (gz hg : Aside0 (w.heap.size ≤ _)); clear HB; have HB := n0_; have BK207 := n1_; have GW207 := n2_; have GE207 := n3_; clear n0_ n1_ n2_ n3_; clear hb hbox hg) | ((with_reducible refine gate_dst (N := 3) rfl ?_); refine bv (N := 3) (cs := #[.int .i64 a1_0, .int .i64 a1_1]) (t := 44) ?_; intro gb208 hg w10 hbox hb; have n0_ := bb BK207 hb; have n1_ := Aside0.mk (below_step (bz1 GE207) hb); have n2_ := Aside0.mk (hbox); have n3_ := Aside0.mk ((by rw [hg]; exact (below_size (bz1 GE207)) : w.heap.size ≤ gb208)); have n4_ := Aside0.mk ((by rw [hg]; exact (below_size (bz1 GE207)) : w.heap.size ≤ gb208)); have n5_ := Aside0.mk ((by rw [hg]; exact Nat.ne_of_lt (blk_lt (g := gb207) (o := .cells #[.int .i64 a0_0, .int .i64 a0_1] 44 (0, 0)) (bk BK207)) : gb207 ≠ gb208)); have n6_ := Aside0.mk ((by rw [hg]; exact Nat.ne_of_gt (blk_lt (g := gb207) (o := .cells #[.int .i64 a0_0, .int .i64 a0_1] 44 (0, 0)) (bk BK207)) : gb208 ≠ gb207)); clear BK207; clear HB; have BK207 := n0_; have HB := n1_; have BK208 := n2_; have GW208 := n3_; have GE208 := n4_; have NB207_208 := n5_; have NB208_207 := n6_; clear n0_ n1_ n2_ n3_ n4_ n5_ n6_; clear hb hbox hg; have hnb11 := NB207_208.out; have hnc11 := NB208_207.out; have hcz12_0 : w10.cell? ⟨gb207, 0, none⟩ = some (.int .i64 a0_0) := (blk_cell BK207.out 0).trans rfl; have hcz12_1 : w10.cell? ⟨gb207, 1, none⟩ = some (.int .i64 a0_1) := (blk_cell BK207.out 1).trans rfl; have hfz12_0 := blk_frozen BK207.out 0; have hfz12_1 := blk_frozen BK207.out 1; have hcz13_0 : w10.cell? ⟨gb208, 0, none⟩ = some (.int .i64 a1_0) := (blk_cell BK208.out 0).trans rfl; have hcz13_1 : w10.cell? ⟨gb208, 1, none⟩ = some (.int .i64 a1_1) := (blk_cell BK208.out 1).trans rfl; have hfz13_0 := blk_frozen BK208.out 0; have hfz13_1 := blk_frozen BK208.out 1))
 have n0_ := Aside0.mk (blk_drew BK207.out)
 have n1_ := Aside0.mk (blk_drew BK208.out)
 have n2_ := Aside0.mk (below_drew1 HB.out)
 clear BK207 BK208 HB
 have BK207 := n0_
 have BK208 := n1_
 have HB := n2_
 clear n0_ n1_ n2_
 refine start_ (n := 18) (S := fun w' => w'.cell? ⟨gb207, 0, none⟩ = some (.int .i64 a0_0) ∧ w'.cell? ⟨gb207, 1, none⟩ = some (.int .i64 a0_1) ∧ w'.cell? ⟨gb208, 0, none⟩ = some (.int .i64 a1_0) ∧ w'.cell? ⟨gb208, 1, none⟩ = some (.int .i64 a1_1)) (ds := []) #[fF, fF, fF, fF, fF, fF, fF, fF, fF, fF, fF, fF, fF, fF, fF, fF, fF, fF] kf rfl rfl ⟨(blk_cell BK207.out 0).trans rfl, (blk_cell BK207.out 1).trans rfl, (blk_cell BK208.out 0).trans rfl, (blk_cell BK208.out 1).trans rfl⟩ (fun hHeld => ?_); refine with_tabW impl_compareD.tab2 impl_compareD.bits2 (fun HT_ HW_ => ?_)
 generalize w10.drew = w14 at BK207 BK208 HB hHeld ⊢
 refine pq (i := 0) (N := some 11) #[tT, fF, fF, fF, fF, fF, fF, fF, fF, fF, fF, fF, fF, fF, fF, fF, fF, fF] rfl rfl HT_.out ?_
 refine pq (i := 3) (N := some 14) #[tT, fF, fF, tT, fF, fF, fF, fF, fF, fF, fF, fF, fF, fF, fF, fF, fF, fF] rfl rfl HT_.out ?_
 refine pq (i := 4) (N := some 15) #[tT, fF, fF, tT, tT, fF, fF, fF, fF, fF, fF, fF, fF, fF, fF, fF, fF, fF] rfl rfl HT_.out ?_
 refine pq (i := 8) (N := some 19) #[tT, fF, fF, tT, tT, fF, fF, fF, tT, fF, fF, fF, fF, fF, fF, fF, fF, fF] rfl rfl HT_.out ?_
 refine pq (i := 11) (N := some 22) #[tT, fF, fF, tT, tT, fF, fF, fF, tT, fF, fF, tT, fF, fF, fF, fF, fF, fF] rfl rfl HT_.out ?_
 refine pq (i := 12) (N := some 23) #[tT, fF, fF, tT, tT, fF, fF, fF, tT, fF, fF, tT, tT, fF, fF, fF, fF, fF] rfl rfl HT_.out ?_
 refine tq4 (i := 1) (N := some 12) #[tT, tT, fF, tT, tT, fF, fF, fF, tT, fF, fF, tT, tT, fF, fF, fF, fF, fF] rfl rfl HT_.out HW_.out hHeld ?_
 refine tq4 (i := 5) (N := some 16) #[tT, tT, fF, tT, tT, tT, fF, fF, tT, fF, fF, tT, tT, fF, fF, fF, fF, fF] rfl rfl HT_.out HW_.out hHeld ?_
 refine pq (i := 6) (N := some 17) #[tT, tT, fF, tT, tT, tT, tT, fF, tT, fF, fF, tT, tT, fF, fF, fF, fF, fF] rfl rfl HT_.out ?_
 refine tq4 (i := 9) (N := some 20) #[tT, tT, fF, tT, tT, tT, tT, fF, tT, tT, fF, tT, tT, fF, fF, fF, fF, fF] rfl rfl HT_.out HW_.out hHeld ?_
 refine tq4 (i := 13) (N := some 24) #[tT, tT, fF, tT, tT, tT, tT, fF, tT, tT, fF, tT, tT, tT, fF, fF, fF, fF] rfl rfl HT_.out HW_.out hHeld ?_
 refine pq (i := 14) (N := some 25) #[tT, tT, fF, tT, tT, tT, tT, fF, tT, tT, fF, tT, tT, tT, tT, fF, fF, fF] rfl rfl HT_.out ?_
 refine one_ (i := 2) (N := some 13) #[tT, tT, tT, tT, tT, tT, tT, fF, tT, tT, fF, tT, tT, tT, tT, fF, fF, fF] rfl rfl (one_of HT_.out kf) (by decide) (fun K hK => ?_)
 refine goes_ Try.func128 kf rfl #[.int .i64 a0_0] (by rfl) rfl rfl sm ?_
 with_reducible refine (impl_wideOf.calls a0_0 t209 t210 t211 _ A4.out).mono ?_
 rintro e w15 ⟨rfl, hb⟩
 refine ⟨_, rfl, ?_⟩
 have n0_ := bb BK207 hb
 have n1_ := bb BK208 hb
 have n2_ := Aside0.mk (below_step (bz2 GE207 GE208) hb)
 clear BK207 BK208 HB
 have BK207 := n0_
 have BK208 := n1_
 have HB := n2_
 clear n0_ n1_ n2_
 (try clear hb)
 (try clear hb2)
 (try clear hk)
 (try clear hi)
 refine hK.out _ _ ⟨(blk_cell BK207.out 0).trans rfl, (blk_cell BK207.out 1).trans rfl, (blk_cell BK208.out 0).trans rfl, (blk_cell BK208.out 1).trans rfl⟩ (fun hHeld => ?_)
 clear hK K
 refine norm_ (a' := ?_) ?_ ?_
 rotate_left
 ·show Act.put _ (some 13) _ = _
  simp only [Act.put, List.setIfInBounds_toArray, List.set_cons_zero, List.set_cons_succ, i64_w, i32_w]
  rfl
 refine one_ (i := 7) (N := some 18) #[tT, tT, tT, tT, tT, tT, tT, tT, tT, tT, fF, tT, tT, tT, tT, fF, fF, fF] rfl rfl (one_of HT_.out kf) (by decide) (fun K hK => ?_)
 refine goes_ Try.func129 kf rfl #[.agg #[.bool t209, .int .u64 t210, .int .u64 t211], .int .i64 (wrap64 ((ji3) - a0_1))] (by rfl) rfl rfl (by (try simp only [List.map_toArray, List.map_cons, List.map_nil]); first | done | (simp only [hji3]; rfl) | rfl | (simp only [List.length_drop, List.length_take]; rfl)) ?_
 with_reducible refine (impl_wide_shift.calls t209 t210 t211 (wrap64 ((ji3) - a0_1)) t212 t213 t214 _ A5.out).mono ?_
 rintro e w16 ⟨rfl, hb⟩
 refine ⟨_, rfl, ?_⟩
 have n0_ := bb BK207 hb
 have n1_ := bb BK208 hb
 have n2_ := Aside0.mk (below_step (bz2 GE207 GE208) hb)
 clear BK207 BK208 HB
 have BK207 := n0_
 have BK208 := n1_
 have HB := n2_
 clear n0_ n1_ n2_
 (try clear hb)
 (try clear hb2)
 (try clear hk)
 (try clear hi)
 refine hK.out _ _ ⟨(blk_cell BK207.out 0).trans rfl, (blk_cell BK207.out 1).trans rfl, (blk_cell BK208.out 0).trans rfl, (blk_cell BK208.out 1).trans rfl⟩ (fun hHeld => ?_)
 clear hK K
 refine norm_ (a' := ?_) ?_ ?_
 rotate_left
 ·show Act.put _ (some 18) _ = _
  simp only [Act.put, List.setIfInBounds_toArray, List.set_cons_zero, List.set_cons_succ, i64_w, i32_w]
  rfl
 refine one_ (i := 10) (N := some 21) #[tT, tT, tT, tT, tT, tT, tT, tT, tT, tT, tT, tT, tT, tT, tT, fF, fF, fF] rfl rfl (one_of HT_.out kf) (by decide) (fun K hK => ?_)
 refine goes_ Try.func128 kf rfl #[.int .i64 a1_0] (by rfl) rfl rfl sm ?_
 with_reducible refine (impl_wideOf.calls a1_0 t215 t216 t217 _ A6.out).mono ?_
 rintro e w17 ⟨rfl, hb⟩
 refine ⟨_, rfl, ?_⟩
 have n0_ := bb BK207 hb
 have n1_ := bb BK208 hb
 have n2_ := Aside0.mk (below_step (bz2 GE207 GE208) hb)
 clear BK207 BK208 HB
 have BK207 := n0_
 have BK208 := n1_
 have HB := n2_
 clear n0_ n1_ n2_
 (try clear hb)
 (try clear hb2)
 (try clear hk)
 (try clear hi)
 refine hK.out _ _ ⟨(blk_cell BK207.out 0).trans rfl, (blk_cell BK207.out 1).trans rfl, (blk_cell BK208.out 0).trans rfl, (blk_cell BK208.out 1).trans rfl⟩ (fun hHeld => ?_)
 clear hK K
 refine norm_ (a' := ?_) ?_ ?_
 rotate_left
 ·show Act.put _ (some 21) _ = _
  simp only [Act.put, List.setIfInBounds_toArray, List.set_cons_zero, List.set_cons_succ, i64_w, i32_w]
  rfl
 refine one_ (i := 15) (N := some 26) #[tT, tT, tT, tT, tT, tT, tT, tT, tT, tT, tT, tT, tT, tT, tT, tT, fF, fF] rfl rfl (one_of HT_.out kf) (by decide) (fun K hK => ?_)
 refine goes_ Try.func129 kf rfl #[.agg #[.bool t215, .int .u64 t216, .int .u64 t217], .int .i64 (wrap64 ((ji3) - a1_1))] (by rfl) rfl rfl (by (try simp only [List.map_toArray, List.map_cons, List.map_nil]); first | done | (simp only [hji3]; rfl) | rfl | (simp only [List.length_drop, List.length_take]; rfl)) ?_
 with_reducible refine (impl_wide_shift.calls t215 t216 t217 (wrap64 ((ji3) - a1_1)) t218 t219 t220 _ A7.out).mono ?_
 rintro e w18 ⟨rfl, hb⟩
 refine ⟨_, rfl, ?_⟩
 have n0_ := bb BK207 hb
 have n1_ := bb BK208 hb
 have n2_ := Aside0.mk (below_step (bz2 GE207 GE208) hb)
 clear BK207 BK208 HB
 have BK207 := n0_
 have BK208 := n1_
 have HB := n2_
 clear n0_ n1_ n2_
 (try clear hb)
 (try clear hb2)
 (try clear hk)
 (try clear hi)
 refine hK.out _ _ ⟨(blk_cell BK207.out 0).trans rfl, (blk_cell BK207.out 1).trans rfl, (blk_cell BK208.out 0).trans rfl, (blk_cell BK208.out 1).trans rfl⟩ (fun hHeld => ?_)
 clear hK K
 refine norm_ (a' := ?_) ?_ ?_
 rotate_left
 ·show Act.put _ (some 26) _ = _
  simp only [Act.put, List.setIfInBounds_toArray, List.set_cons_zero, List.set_cons_succ, i64_w, i32_w]
  rfl
 refine one_ (i := 16) (N := some 27) #[tT, tT, tT, tT, tT, tT, tT, tT, tT, tT, tT, tT, tT, tT, tT, tT, tT, fF] rfl rfl (one_of HT_.out kf) (by decide) (fun K hK => ?_)
 refine goes_ Try.func127 kf rfl #[.agg #[.bool t212, .int .u64 t213, .int .u64 t214], .agg #[.bool t218, .int .u64 t219, .int .u64 t220]] (by rfl) rfl rfl sm ?_
 with_reducible refine (impl_compareWide.calls k t212 t213 t214 t218 t219 t220 t221 _ A8.out).mono ?_
 rintro e w19 ⟨rfl, hb⟩
 refine ⟨_, rfl, ?_⟩
 have n0_ := bb BK207 hb
 have n1_ := bb BK208 hb
 have n2_ := Aside0.mk (below_step (bz2 GE207 GE208) hb)
 clear BK207 BK208 HB
 have BK207 := n0_
 have BK208 := n1_
 have HB := n2_
 clear n0_ n1_ n2_
 (try clear hb)
 (try clear hb2)
 (try clear hk)
 (try clear hi)
 refine hK.out _ _ ⟨(blk_cell BK207.out 0).trans rfl, (blk_cell BK207.out 1).trans rfl, (blk_cell BK208.out 0).trans rfl, (blk_cell BK208.out 1).trans rfl⟩ (fun hHeld => ?_)
 clear hK K
 refine norm_ (a' := ?_) ?_ ?_
 rotate_left
 ·show Act.put _ (some 27) _ = _
  simp only [Act.put, List.setIfInBounds_toArray, List.set_cons_zero, List.set_cons_succ, i64_w, i32_w]
  rfl
 refine pq (i := 17) (N := some 4) #[tT, tT, tT, tT, tT, tT, tT, tT, tT, tT, tT, tT, tT, tT, tT, tT, tT, tT] rfl rfl HT_.out ?_
 refine done_ (done_of HT_.out kf) ?_
 try go_wp2
 go_ret
 exact ⟨by first | rfl | (simp [errW_none, errW_some] <;> rfl) | (simp only [← hji3]; first | rfl | (simp [errW_none, errW_some] <;> rfl)) | (simp [*, errW_none, errW_some] <;> rfl), bz2 GE207 GE208⟩
def impl_Dyadic_86__impl_HasPoint_1.idx : List S44 → Int → Option Int
 | [], _ => some (-1)
 | x :: q, i => (impl_HasPoint_1.f x.f0 x.f1).bind fun b => if b = true then some i else impl_Dyadic_86__impl_HasPoint_1.idx q (i + 1)
def impl_Dyadic_86__impl_HasPoint_1.f : List S44 → Option Bool
 | [] => some false
 | x :: q => (impl_HasPoint_1.f x.f0 x.f1).bind fun b => if b = true then some true else impl_Dyadic_86__impl_HasPoint_1.f q
theorem impl_Dyadic_86__impl_HasPoint_1.idx_of : ∀ (l : List S44) (i : Int) (r : Bool), 0 ≤ i → impl_Dyadic_86__impl_HasPoint_1.f l = some r → ∃ j, impl_Dyadic_86__impl_HasPoint_1.idx l i = some j ∧ decide (0 ≤ j) = r
 | [], i, r, hi, h => ⟨-1, rfl, by simp [impl_Dyadic_86__impl_HasPoint_1.f] at h; subst h; rfl⟩
 | x :: q, i, r, hi, h => by
  simp only [impl_Dyadic_86__impl_HasPoint_1.f] at h
  obtain ⟨b, hb, h⟩ := Option.bind_eq_some_iff.mp h
  cases b with
  | true =>
   rw [if_pos rfl] at h
   obtain rfl := Option.some.inj h
   exact ⟨i, by simp [impl_Dyadic_86__impl_HasPoint_1.idx, hb], by simpa using hi⟩
  | false =>
   rw [if_neg (by decide)] at h
   obtain ⟨j, h1, h2⟩ := impl_Dyadic_86__impl_HasPoint_1.idx_of q (i + 1) r (by omega) h
   exact ⟨j, by simp [impl_Dyadic_86__impl_HasPoint_1.idx, hb, h1], h2⟩
set_option maxHeartbeats 8000000 in
set_option maxRecDepth 100000 in
theorem impl_Dyadic_86__impl_HasPoint_1.index_calls (A0 : Option Addr) (c0 : Nat) (l0 : List S44) (r : Int) (w : World) (hr0 : Kd.C k44 w A0 l0.length l0) (hc0 : l0.length ≤ c0) (h : impl_Dyadic_86__impl_HasPoint_1.idx l0 0 = some r) :
 Calls Try.prog 125 #[.slice A0 l0.length c0, .func (.func 87) #[] #[]] w fun e w' => e = .returned (.int .i64 r) ∧ Below w.heap.size w w' := by
 have HR0 := Aside0.mk hr0
 have H' := Aside0.mk h
 have HL := Aside0.mk hr0.2.1
 have HB := Aside0.mk (Below.refl w.heap.size w)
 clear hr0 h hc0
 go_enter Try.func125, Try.ntmps125
 go_wp2
 go_loopg [8] (l0.length + 1) (fun kq v8 w' => ∃ x : Int, v8 = .int .i64 x ∧ Aside0 (0 ≤ x ∧ x + kq = l0.length + 1) ∧ Aside0 (impl_Dyadic_86__impl_HasPoint_1.idx (l0.drop x.toNat) x = some r) ∧ Aside0 (Below w.heap.size w w'))
 case atStart => exact ⟨0, rfl, ⟨by omega⟩, H', ⟨bz⟩⟩
 case round =>
  clear H' HB
  obtain ⟨x, rfl, HI, HA, HB⟩ := hrel
  by_cases hlt : x < (l0.length : Int)
  ·have c1 : decide (x < (l0.length : Int)) = true := decide_eq_true hlt
   have p2 := eq_true HI.out.1
   have hd : l0.drop x.toNat = rd_T44 l0 x :: l0.drop (x + 1).toNat := by
    have h0 := HI.out.1
    obtain ⟨i, rfl⟩ := Int.eq_ofNat_of_zero_le h0
    have hi : i < l0.length := by omega
    have e : ((i : Int) + 1).toNat = i + 1 := by omega
    rw [e, Int.toNat_natCast, List.drop_eq_getElem_cons hi]
    simp [rd_T44, hi]
   have H := HA.out
   rw [hd] at H
   simp only [impl_Dyadic_86__impl_HasPoint_1.idx] at H
   obtain ⟨b, hb, H⟩ := Option.bind_eq_some_iff.mp H
   have A1 := Aside0.mk hb
   obtain ⟨ad, e1, hx1, hx2⟩ := at_T44 (Kd.C_below HR0.out HB.out) x HI.out.1 hlt
   subst e1
   replace hlt := eq_true hlt
   cases b with
   | true =>
    rw [if_pos rfl] at H
    obtain rfl := Option.some.inj H
    clear HA hd hb H
    go_wp2_with (first | (go_at_call 87; (with_reducible refine (impl_HasPoint_1.calls (rd_T44 l0 x).f0 (rd_T44 l0 x).f1 true _ A1.out).mono ?_); rintro e w2 ⟨rfl, hb⟩; have n0_ := Aside0.mk (below_step bz hb); clear HB; have HB := n0_; clear n0_ hb))
    go_ret
    exact ⟨by first | rfl | (simp; done), bz⟩
   | false =>
    rw [if_neg (by decide)] at H
    have H2 := Aside0.mk H
    clear HA hd hb H
    go_wp2_with (first | (go_at_call 87; (with_reducible refine (impl_HasPoint_1.calls (rd_T44 l0 x).f0 (rd_T44 l0 x).f1 false _ A1.out).mono ?_); rintro e w2 ⟨rfl, hb⟩; have n0_ := Aside0.mk (below_step bz hb); clear HB; have HB := n0_; clear n0_ hb))
    cases gk with
    | zero => exact absurd HI.out.2 (by have := of_eq_true hlt; omega)
    | succ k1 =>
     go_roundg k1
     case measure => omega
     case rel => exact ⟨x + 1, by have := HI.out; have := HL.out; have := of_eq_true hlt; rw [show wrap64 (x + 1) = x + 1 by unfold wrap64; omega], ⟨by have := HI.out; omega⟩, H2, ⟨bz⟩⟩
  ·have c1 : decide (x < (l0.length : Int)) = false := decide_eq_false hlt
   have H := HA.out
   rw [List.drop_eq_nil_of_le (by omega)] at H
   simp only [impl_Dyadic_86__impl_HasPoint_1.idx] at H
   obtain rfl := Option.some.inj H
   clear HA hlt H
   go_wp2
   go_ret
   exact ⟨by first | rfl | (simp; done), bz⟩
set_option maxHeartbeats 8000000 in
theorem impl_Dyadic_86__impl_HasPoint_1.calls (A0 : Option Addr) (c0 : Nat) (l0 : List S44) (r : Bool) (w : World) (hr0 : Kd.C k44 w A0 l0.length l0) (hc0 : l0.length ≤ c0) (h : impl_Dyadic_86__impl_HasPoint_1.f l0 = some r) :
 Calls Try.prog 86 #[.slice A0 l0.length c0, .func (.func 87) #[] #[]] w fun e w' => e = .returned (.bool r) ∧ Below w.heap.size w w' := by
 obtain ⟨j, hj, rfl⟩ := impl_Dyadic_86__impl_HasPoint_1.idx_of l0 0 r (Int.le_refl _) h
 have HR0 := Aside0.mk hr0
 have HC0 := Aside0.mk hc0
 have HJ := Aside0.mk hj
 have HB := Aside0.mk (Below.refl w.heap.size w)
 clear hr0 hc0 h hj
 go_enter Try.func86, Try.ntmps86
 go_wp2_with (first | ((with_reducible refine gate_callee (f := 125) rfl ?_); refine goesL_ (some 7) rfl rfl Try.func125 kf rfl #[.slice A0 l0.length c0, .func (.func 87) #[] #[]] rfl (by (try simp only [List.map_toArray, List.map_cons, List.map_nil]); first | done | rfl) ?_; (with_reducible refine (impl_Dyadic_86__impl_HasPoint_1.index_calls _ _ l0 j _ ?side1 ?side2 HJ.out).mono ?_); (case side1 => exact cc HR0); (case side2 => exact HC0.out); rintro e w2 ⟨rfl, hb⟩; refine ⟨_, rfl, ?_⟩; have n0_ := Aside0.mk (below_step bz hb); clear HB; have HB := n0_; clear n0_ hb))
 go_ret
 exact ⟨by first | rfl | (simp; done), bz⟩
mutual
def impl_HasPoint.j0 : Nat → List (S44) → Bool → Int → List Int → List Int → Option (Bool × Bool)
 | 0, _, _, _, _, _ => none
 | k + 1, x1, x23, x223000, x223001, x223002 => if x23 = true then (some (false, false)) else (impl_HasPoint.l0 k x1 (x1.length : Int) 0 x223000 x223001 x223002)
def impl_HasPoint.l0 : Nat → List (S44) → Int → Int → Int → List Int → List Int → Option (Bool × Bool)
 | 0, _, _, _, _, _, _ => none
 | k + 1, x24, x25, x26, x223000, x223001, x223002 => if x26 < x25 then (if 0 ≤ x26 then (if x26 < (x24.length : Int) then ((impl_Box_side.f k x223000 x223001 x223002 x26).bind fun bt228 => ((impl_compareD.f k ((rd_T44 x24 x26).f0) ((rd_T44 x24 x26).f1) bt228.1 bt228.2.1).bind fun t235 => (if t235 < 0 then (some (false, true)) else ((impl_compareD.f k ((rd_T44 x24 x26).f0) ((rd_T44 x24 x26).f1) bt228.2.2.1 bt228.2.2.2.1).bind fun t236 => (if t236 > 0 then (some (false, true)) else (impl_HasPoint.l0 k x24 x25 (wrap64 (x26 + 1)) x223000 x223001 x223002)))))) else (none)) else (none)) else (some (true, true))
end
def impl_HasPoint.f (k : Nat) (a0_0 : Int) (l0_1 : List Int) (l0_2 : List Int) (l1 : List (S44)) : Option (Bool × Bool) := (impl_isBox.f k a0_0 l0_1 l0_2).bind fun bt223 => (if bt223.1 = true then (if (l1.length : Int) = (l0_1.length : Int) then ((impl_Dyadic_86__impl_HasPoint_1.f l1).bind fun t225 => (impl_HasPoint.j0 k l1 t225 a0_0 l0_1 l0_2)) else (impl_HasPoint.j0 k l1 true a0_0 l0_1 l0_2)) else (impl_HasPoint.j0 k l1 true a0_0 l0_1 l0_2))
set_option maxHeartbeats 8000000 in
set_option maxRecDepth 100000 in
theorem impl_HasPoint.calls (k : Nat) (a0_0 : Int) (A0_1 : Option Addr) (c0_1 : Nat) (l0_1 : List Int) (A0_2 : Option Addr) (c0_2 : Nat) (l0_2 : List Int) (A1 : Option Addr) (c1 : Nat) (l1 : List (S44)) (r1 : Bool) (r2 : Bool) (w : World) (hr0_1 : Kd.C (Kd.int .i64) w A0_1 l0_1.length l0_1) (hc0_1 : l0_1.length ≤ c0_1) (hr0_2 : Kd.C (Kd.int .i64) w A0_2 l0_2.length l0_2) (hc0_2 : l0_2.length ≤ c0_2) (hr1 : Kd.C k44 w A1 l1.length l1) (hc1 : l1.length ≤ c1) (h : impl_HasPoint.f k a0_0 l0_1 l0_2 l1 = some (r1, r2)) :
 Calls Try.prog 36 #[.agg #[.int .i64 a0_0, .slice A0_1 l0_1.length c0_1, .slice A0_2 l0_2.length c0_2], .slice A1 l1.length c1] w fun e w' => e = .returned (.tuple #[.bool r1, .bool r2]) ∧ Below w.heap.size w w' := by
 have hu36 := Try.underlying36
 have hu44 := Try.underlying44
 have HR0_1 := Aside0.mk hr0_1
 have HC0_1 := Aside0.mk hc0_1
 clear hr0_1 hc0_1
 have HR0_2 := Aside0.mk hr0_2
 have HC0_2 := Aside0.mk hc0_2
 clear hr0_2 hc0_2
 have HR1 := Aside0.mk hr1
 have HC1 := Aside0.mk hc1
 clear hr1 hc1
 have HB := Aside0.mk (Below.refl w.heap.size w)
 have H : ((impl_isBox.f k a0_0 l0_1 l0_2).bind fun bt223 => (if bt223.1 = true then (if (l1.length : Int) = (l0_1.length : Int) then ((impl_Dyadic_86__impl_HasPoint_1.f l1).bind fun t225 => (impl_HasPoint.j0 k l1 t225 a0_0 l0_1 l0_2)) else (impl_HasPoint.j0 k l1 true a0_0 l0_1 l0_2)) else (impl_HasPoint.j0 k l1 true a0_0 l0_1 l0_2))) = some (r1, r2) := h
 clear h
 have HC3 := Aside0.mk H
 clear H
 go_enter Try.func36, Try.ntmps36
 go_upto_region 1 with (first | ((with_reducible refine gate_dst (N := 2) rfl ?_); (try (refine gate_guard (by rfl) ?_; dsimp only)); refine bv (N := 2) (cs := #[.int .i64 a0_0, .slice A0_1 l0_1.length c0_1, .slice A0_2 l0_2.length c0_2]) (t := 36) ?_; intro gb222 hg w4 hbox hb; have n0_ := Aside0.mk (below_step bz hb); have n1_ := Aside0.mk (hbox); have n2_ := (gz hg : Aside0 (w.heap.size ≤ _)); have n3_ := (gz hg : Aside0 (w.heap.size ≤ _)); clear HB; have HB := n0_; have BK222 := n1_; have GW222 := n2_; have GE222 := n3_; clear n0_ n1_ n2_ n3_; clear hb hbox hg))
 (try simp only [Act.put, List.setIfInBounds_toArray, List.set_cons_zero, List.set_cons_succ])
 go_cut [23] (fun v23 wc => ∃ (kq : Nat) (x23_2 : Bool) (x223000_2 : Int), v23 = .bool x23_2 ∧ Aside0 (impl_HasPoint.j0 kq l1 x23_2 x223000_2 l0_1 l0_2 = some (r1, r2)) ∧ Aside0 (kq ≤ k) ∧ Aside0 (wc.heap[gb222]? = some (.cells #[.int .i64 x223000_2, (.slice A0_1 l0_1.length c0_1), (.slice A0_2 l0_2.length c0_2)] 36 (0, 0))) ∧ Aside0 (Below w.heap.size w wc))
 case first =>
  have H := HC3.out
  clear HC3
  obtain ⟨⟨t223, t224⟩, A5, H⟩ := bi H
  try dsimp only at H
  by_cases c6 : t223 = true
  ·subst c6
   rw [if_pos rfl] at H
   by_cases c7 : (l1.length : Int) = (l0_1.length : Int)
   ·rw [if_pos c7] at H
    have c7b0 : ((l1.length : Int) == (l0_1.length : Int)) = true := beq_iff_eq.mpr c7
    have c7b1 : ((l1.length : Int) != (l0_1.length : Int)) = false := bne_eq_false_iff_eq.mpr c7
    have c7b2 : (l1.length == l0_1.length) = true := by first | simpa using c7 | (simp at c7 ⊢; omega)
    clear c7
    (first | rw [c7b0] | (simp only [i64_w, i32_w]; rw [c7b0]) | skip)
    obtain ⟨t225, A8, H⟩ := bi H
    have H' := Aside0.mk H
    clear H
    go_wp2_with (first | ((with_reducible refine gate_callee (f := 64) rfl ?_); refine goesL_ (some 10) rfl rfl Try.func64 kf rfl #[.pointer (some ⟨gb222, 0, none⟩)] rfl sm ?_; (with_reducible refine (impl_isBox.callsB k gb222 A0_1 c0_1 A0_2 c0_2 a0_0 l0_1 l0_2 true t224 w _ ?side1 ?side2 A5.out).mono ?_); (case side1 => exact ⟨by (with_reducible repeat (first | refine blk_drewN ?_ _ | refine blk_drew ?_ | refine blk_alloc ?_ _)); exact BK222.out, GE222.out, HR0_1.out, HR0_2.out⟩); (case side2 => repeat (first | (with_reducible first | exact HB.out | apply below_alloc | apply pw_below_drewN | apply below_drew1 | refine below_set ?_ GE222.out) | exact HB.out)); rintro e w9 ⟨rfl, hb⟩; refine ⟨_, rfl, ?_⟩; have n0_ := bb BK222 hb; have n1_ := Aside0.mk (below_step (bz1 GE222) hb); clear BK222; clear HB; have BK222 := n0_; have HB := n1_; clear n0_ n1_; (try clear hb); (try clear hb2); (try clear hk); (try clear hi); have hcz10_0 : w9.cell? ⟨gb222, 0, none⟩ = some (.int .i64 a0_0) := (blk_cell BK222.out 0).trans rfl; have hcz10_1 : w9.cell? ⟨gb222, 1, none⟩ = some (.slice A0_1 l0_1.length c0_1) := (blk_cell BK222.out 1).trans rfl; have hcz10_2 : w9.cell? ⟨gb222, 2, none⟩ = some (.slice A0_2 l0_2.length c0_2) := (blk_cell BK222.out 2).trans rfl; have hfz10_0 := blk_frozen BK222.out 0; have hfz10_1 := blk_frozen BK222.out 1; have hfz10_2 := blk_frozen BK222.out 2) | (go_at_call 86; (with_reducible refine (impl_Dyadic_86__impl_HasPoint_1.calls _ _ l1 t225 _ ?side1 ?side2 A8.out).mono ?_); (case side1 => exact cb HR1); (case side2 => exact HC1.out); rintro e w11 ⟨rfl, hb⟩; have n0_ := bb BK222 hb; have n1_ := Aside0.mk (below_step (bz1 GE222) hb); clear BK222; clear HB; have BK222 := n0_; have HB := n1_; clear n0_ n1_; (try clear hb); (try clear hb2); (try clear hk); (try clear hi)))
    go_meet
    case rel => exact ⟨_, (t225), (a0_0), sr, H', ⟨by first | omega | exact Nat.le_refl _⟩, ⟨bk BK222⟩, ⟨bz1 GE222⟩⟩
   ·rw [if_neg c7] at H
    have c7b0 : ((l1.length : Int) == (l0_1.length : Int)) = false := beq_eq_false_iff_ne.mpr c7
    have c7b1 : ((l1.length : Int) != (l0_1.length : Int)) = true := bne_iff_ne.mpr c7
    have c7b2 : (l1.length == l0_1.length) = false := by first | simpa using c7 | (simp at c7 ⊢; omega)
    (first | rw [c7b0] | (simp only [i64_w, i32_w]; rw [c7b0]) | skip)
    have H' := Aside0.mk H
    clear H
    go_wp2_with (first | ((with_reducible refine gate_callee (f := 64) rfl ?_); refine goesL_ (some 10) rfl rfl Try.func64 kf rfl #[.pointer (some ⟨gb222, 0, none⟩)] rfl sm ?_; (with_reducible refine (impl_isBox.callsB k gb222 A0_1 c0_1 A0_2 c0_2 a0_0 l0_1 l0_2 true t224 w _ ?side1 ?side2 A5.out).mono ?_); (case side1 => exact ⟨by (with_reducible repeat (first | refine blk_drewN ?_ _ | refine blk_drew ?_ | refine blk_alloc ?_ _)); exact BK222.out, GE222.out, HR0_1.out, HR0_2.out⟩); (case side2 => repeat (first | (with_reducible first | exact HB.out | apply below_alloc | apply pw_below_drewN | apply below_drew1 | refine below_set ?_ GE222.out) | exact HB.out)); rintro e w12 ⟨rfl, hb⟩; refine ⟨_, rfl, ?_⟩; have n0_ := bb BK222 hb; have n1_ := Aside0.mk (below_step (bz1 GE222) hb); clear BK222; clear HB; have BK222 := n0_; have HB := n1_; clear n0_ n1_; (try clear hb); (try clear hb2); (try clear hk); (try clear hi); have hcz13_0 : w12.cell? ⟨gb222, 0, none⟩ = some (.int .i64 a0_0) := (blk_cell BK222.out 0).trans rfl; have hcz13_1 : w12.cell? ⟨gb222, 1, none⟩ = some (.slice A0_1 l0_1.length c0_1) := (blk_cell BK222.out 1).trans rfl; have hcz13_2 : w12.cell? ⟨gb222, 2, none⟩ = some (.slice A0_2 l0_2.length c0_2) := (blk_cell BK222.out 2).trans rfl; have hfz13_0 := blk_frozen BK222.out 0; have hfz13_1 := blk_frozen BK222.out 1; have hfz13_2 := blk_frozen BK222.out 2))
    go_meet
    case rel => exact ⟨_, (true), (a0_0), sr, H', ⟨by first | omega | exact Nat.le_refl _⟩, ⟨bk BK222⟩, ⟨bz1 GE222⟩⟩
  ·replace c6 := Bool.eq_false_iff.mpr c6
   subst c6
   rw [if_neg (show ¬ (false = true) by decide)] at H
   have H' := Aside0.mk H
   clear H
   go_wp2_with (first | ((with_reducible refine gate_callee (f := 64) rfl ?_); refine goesL_ (some 10) rfl rfl Try.func64 kf rfl #[.pointer (some ⟨gb222, 0, none⟩)] rfl sm ?_; (with_reducible refine (impl_isBox.callsB k gb222 A0_1 c0_1 A0_2 c0_2 a0_0 l0_1 l0_2 false t224 w _ ?side1 ?side2 A5.out).mono ?_); (case side1 => exact ⟨by (with_reducible repeat (first | refine blk_drewN ?_ _ | refine blk_drew ?_ | refine blk_alloc ?_ _)); exact BK222.out, GE222.out, HR0_1.out, HR0_2.out⟩); (case side2 => repeat (first | (with_reducible first | exact HB.out | apply below_alloc | apply pw_below_drewN | apply below_drew1 | refine below_set ?_ GE222.out) | exact HB.out)); rintro e w14 ⟨rfl, hb⟩; refine ⟨_, rfl, ?_⟩; have n0_ := bb BK222 hb; have n1_ := Aside0.mk (below_step (bz1 GE222) hb); clear BK222; clear HB; have BK222 := n0_; have HB := n1_; clear n0_ n1_; (try clear hb); (try clear hb2); (try clear hk); (try clear hi)))
   go_meet
   case rel => exact ⟨_, (true), (a0_0), sr, H', ⟨by first | omega | exact Nat.le_refl _⟩, ⟨bk BK222⟩, ⟨bz1 GE222⟩⟩
 case rest =>
  clear HC3
  try clear c1; try clear p2; try clear c3; try clear c6; try clear c7; try clear c7b0; try clear c7b1; try clear c7b2; try clear hcz10_0; try clear hcz10_1; try clear hcz10_2; try clear hcz13_0; try clear hcz13_1; try clear hcz13_2; try clear hfz10_0; try clear hfz10_1; try clear hfz10_2; try clear hfz13_0; try clear hfz13_1; try clear hfz13_2
  obtain ⟨kq, x23_2, x223000_2, rfl, HA, HJ2, BK222, HB⟩ := hcut
  cases kq with
  | zero => exact absurd HA.out (by simp [impl_HasPoint.j0])
  | succ kj2 =>
   have H := HA.out
   clear HA
   simp only [impl_HasPoint.j0] at H
   by_cases c15 : x23_2 = true
   ·subst c15
    rw [if_pos rfl] at H
    simp only [Option.some.injEq, Prod.mk.injEq] at H
    obtain ⟨rfl, rfl⟩ := H
    go_wp2
    go_ret2
    exact ⟨er, bz1 GE222⟩
   ·replace c15 := Bool.eq_false_iff.mpr c15
    subst c15
    rw [if_neg (show ¬ (false = true) by decide)] at H
    have H' := Aside0.mk H
    clear H
    go_wp2
    go_loopg [26] kj2 (fun kq v26 w' => ∃ (x26_2 : Int), v26 = .int .i64 x26_2 ∧ Aside0 (impl_HasPoint.l0 kq l1 (l1.length : Int) x26_2 x223000_2 l0_1 l0_2 = some (r1, r2)) ∧ Aside0 (kq ≤ kj2) ∧ Aside0 (w'.heap[gb222]? = some (.cells #[.int .i64 x223000_2, (.slice A0_1 l0_1.length c0_1), (.slice A0_2 l0_2.length c0_2)] 36 (0, 0))) ∧ Aside0 (Below w.heap.size w w'))
    case atStart => exact ⟨(0), sr, H', ⟨Nat.le_refl _⟩, ⟨bk BK222⟩, ⟨bz1 GE222⟩⟩
    case round =>
     clear H'
     try clear c1; try clear p2; try clear c3; try clear c6; try clear c7; try clear c7b0; try clear c7b1; try clear c7b2; try clear c15; try clear hcz10_0; try clear hcz10_1; try clear hcz10_2; try clear hcz13_0; try clear hcz13_1; try clear hcz13_2; try clear hfz10_0; try clear hfz10_1; try clear hfz10_2; try clear hfz13_0; try clear hfz13_1; try clear hfz13_2; try clear p2
     obtain ⟨x26_2, rfl, HA, HK2, BK222, HB⟩ := hrel
     cases gk with
     | zero => exact absurd HA.out (by simp [impl_HasPoint.l0])
     | succ k2 =>
      have H := HA.out
      clear HA
      simp only [impl_HasPoint.l0] at H
      by_cases c16 : x26_2 < (l1.length : Int)
      ·rw [if_pos c16] at H
       have c16b0 : decide (x26_2 < (l1.length : Int)) = true := decide_eq_true c16
       clear c16
       by_cases c17 : 0 ≤ x26_2
       ·rw [if_pos c17] at H
        have c17b0 : decide (0 ≤ x26_2) = true := decide_eq_true c17
        clear c17
        by_cases c18 : x26_2 < (l1.length : Int)
        ·rw [if_pos c18] at H
         have c18b0 : decide (x26_2 < (l1.length : Int)) = true := decide_eq_true c18
         clear c18
         obtain ⟨⟨t228, t229, t230, t231, t232⟩, A19, H⟩ := bi H
         try dsimp only at H
         obtain ⟨t235, A20, H⟩ := bi H
         by_cases c21 : t235 < 0
         ·rw [if_pos c21] at H
          have c21b0 : decide (t235 < 0) = true := decide_eq_true c21
          clear c21
          simp only [Option.some.injEq, Prod.mk.injEq] at H
          obtain ⟨rfl, rfl⟩ := H
          have p226 : 0 ≤ (x26_2 : Int) := of_decide_eq_true am
          have q226 : x26_2 < (l1.length : Int) := of_decide_eq_true am
          obtain ⟨ad226, e226, hx226_0, hx226_1⟩ := at_T44 HR1.out x26_2 p226 q226
          cases e226
          replace hx226_0 := (HB.out.cell (World.block_lt_of_cell? w _ hx226_0)).trans hx226_0
          replace hx226_1 := (HB.out.cell (World.block_lt_of_cell? w _ hx226_1)).trans hx226_1
          replace p226 := eq_true p226
          replace q226 := eq_true q226
          go_wp2_with (first | ((with_reducible refine gate_dst (N := 7) rfl ?_); (try (refine gate_guard (by rfl) ?_; dsimp only)); refine bv (N := 7) (cs := #[.int .i64 0, .int .i64 0]) (t := 44) ?_; intro gb227 hg w22 hbox hb; have n0_ := bb BK222 hb; have n1_ := Aside0.mk (below_step (bz1 GE222) hb); have n2_ := Aside0.mk (hbox); have n3_ := Aside0.mk ((by rw [hg]; exact (below_size (bz1 GE222)) : w.heap.size ≤ gb227)); have n4_ := Aside0.mk ((by rw [hg]; exact (below_size (bz1 GE222)) : w.heap.size ≤ gb227)); have n5_ := Aside0.mk ((by rw [hg]; exact Nat.ne_of_lt (blk_lt (g := gb222) (o := .cells #[.int .i64 x223000_2, .slice A0_1 l0_1.length c0_1, .slice A0_2 l0_2.length c0_2] 36 (0, 0)) (bk BK222)) : gb222 ≠ gb227)); have n6_ := Aside0.mk ((by rw [hg]; exact Nat.ne_of_gt (blk_lt (g := gb222) (o := .cells #[.int .i64 x223000_2, .slice A0_1 l0_1.length c0_1, .slice A0_2 l0_2.length c0_2] 36 (0, 0)) (bk BK222)) : gb227 ≠ gb222)); clear BK222; clear HB; have BK222 := n0_; have HB := n1_; have BK227 := n2_; have GW227 := n3_; have GE227 := n4_; have NB222_227 := n5_; have NB227_222 := n6_; clear n0_ n1_ n2_ n3_ n4_ n5_ n6_; clear hb hbox hg; have hnb23 := NB227_222.out; have hnc23 := NB222_227.out; have hcz24_0 : w22.cell? ⟨gb227, 0, none⟩ = some (.int .i64 0) := (blk_cell BK227.out 0).trans rfl; have hcz24_1 : w22.cell? ⟨gb227, 1, none⟩ = some (.int .i64 0) := (blk_cell BK227.out 1).trans rfl; have hfz24_0 := blk_frozen BK227.out 0; have hfz24_1 := blk_frozen BK227.out 1) | ((with_reducible refine gate_callee (f := 74) rfl ?_); refine goesL_ (some 33) rfl rfl Try.func74 kf rfl #[.pointer (some ⟨gb222, 0, none⟩), .int .i64 x26_2] rfl sm ?_; (with_reducible refine (impl_Box_side.callsB k2 gb222 A0_1 c0_1 A0_2 c0_2 x223000_2 l0_1 l0_2 x26_2 t228 t229 t230 t231 t232 w _ ?side1 ?side2 A19.out).mono ?_); (case side1 => exact ⟨by (with_reducible repeat (first | refine blk_drewN ?_ _ | refine blk_drew ?_ | refine blk_alloc ?_ _)); refine blk_far ?_ NB222_227.out _; (with_reducible repeat (first | refine blk_drewN ?_ _ | refine blk_drew ?_ | refine blk_alloc ?_ _)); refine blk_far ?_ NB222_227.out _; (with_reducible repeat (first | refine blk_drewN ?_ _ | refine blk_drew ?_ | refine blk_alloc ?_ _)); exact BK222.out, GE222.out, HR0_1.out, HR0_2.out⟩); (case side2 => repeat (first | (with_reducible first | exact HB.out | apply below_alloc | apply pw_below_drewN | apply below_drew1 | refine below_set ?_ GE222.out | refine below_set ?_ GE227.out) | exact HB.out)); rintro e w25 ⟨rfl, hb⟩; refine ⟨_, rfl, ?_⟩; have n0_ := Aside0.mk (blk_below (g := gb222) (o := .cells #[.int .i64 x223000_2, .slice A0_1 l0_1.length c0_1, .slice A0_2 l0_2.length c0_2] 36 (0, 0)) (by (with_reducible repeat (first | refine blk_drewN ?_ _ | refine blk_drew ?_ | refine blk_alloc ?_ _)); refine blk_far ?_ NB222_227.out _; (with_reducible repeat (first | refine blk_drewN ?_ _ | refine blk_drew ?_ | refine blk_alloc ?_ _)); refine blk_far ?_ NB222_227.out _; (with_reducible repeat (first | refine blk_drewN ?_ _ | refine blk_drew ?_ | refine blk_alloc ?_ _)); exact BK222.out) hb); have n1_ := Aside0.mk (blk_below (g := gb227) (o := .cells #[.int .i64 ((rd_T44 l1 x26_2).f0), .int .i64 ((rd_T44 l1 x26_2).f1)] 44 (0, 0)) (by (with_reducible repeat (first | refine blk_drewN ?_ _ | refine blk_drew ?_ | refine blk_alloc ?_ _)); refine blk_put (cs := #[.int .i64 ((rd_T44 l1 x26_2).f0), .int .i64 0]) ?_ 1 _ rfl; (with_reducible repeat (first | refine blk_drewN ?_ _ | refine blk_drew ?_ | refine blk_alloc ?_ _)); refine blk_put (cs := #[.int .i64 0, .int .i64 0]) ?_ 0 _ rfl; (with_reducible repeat (first | refine blk_drewN ?_ _ | refine blk_drew ?_ | refine blk_alloc ?_ _)); exact BK227.out) hb); have n2_ := Aside0.mk (below_step (bz2 GE222 GE227) hb); clear BK222; clear BK227; clear HB; have BK222 := n0_; have BK227 := n1_; have HB := n2_; clear n0_ n1_ n2_; (try clear hb); (try clear hb2); (try clear hk); (try clear hi)) | ((with_reducible refine gate_dst (N := 8) rfl ?_); (try (refine gate_guard (by rfl) ?_; dsimp only)); refine bv (N := 8) (cs := #[.int .i64 0, .int .i64 0]) (t := 44) ?_; intro gb233 hg w26 hbox hb; have n0_ := bb BK222 hb; have n1_ := bb BK227 hb; have n2_ := Aside0.mk (below_step (bz2 GE222 GE227) hb); have n3_ := Aside0.mk (hbox); have n4_ := Aside0.mk ((by rw [hg]; exact (below_size (bz2 GE222 GE227)) : w.heap.size ≤ gb233)); have n5_ := Aside0.mk ((by rw [hg]; exact (below_size (bz2 GE222 GE227)) : w.heap.size ≤ gb233)); have n6_ := Aside0.mk ((by rw [hg]; exact Nat.ne_of_lt (blk_lt (g := gb222) (o := .cells #[.int .i64 x223000_2, .slice A0_1 l0_1.length c0_1, .slice A0_2 l0_2.length c0_2] 36 (0, 0)) (bk BK222)) : gb222 ≠ gb233)); have n7_ := Aside0.mk ((by rw [hg]; exact Nat.ne_of_gt (blk_lt (g := gb222) (o := .cells #[.int .i64 x223000_2, .slice A0_1 l0_1.length c0_1, .slice A0_2 l0_2.length c0_2] 36 (0, 0)) (bk BK222)) : gb233 ≠ gb222)); have n8_ := Aside0.mk ((by rw [hg]; exact Nat.ne_of_lt (blk_lt (g := gb227) (o := .cells #[.int .i64 ((rd_T44 l1 x26_2).f0), .int .i64 ((rd_T44 l1 x26_2).f1)] 44 (0, 0)) (bk BK227)) : gb227 ≠ gb233)); have n9_ := Aside0.mk ((by rw [hg]; exact Nat.ne_of_gt (blk_lt (g := gb227) (o := .cells #[.int .i64 ((rd_T44 l1 x26_2).f0), .int .i64 ((rd_T44 l1 x26_2).f1)] 44 (0, 0)) (bk BK227)) : gb233 ≠ gb227)); clear BK222; clear BK227; clear HB; have BK222 := n0_; have BK227 := n1_; have HB := n2_; have BK233 := n3_; have GW233 := n4_; have GE233 := n5_; have NB222_233 := n6_; have NB233_222 := n7_; have NB227_233 := n8_; have NB233_227 := n9_; clear n0_ n1_ n2_ n3_ n4_ n5_ n6_ n7_ n8_ n9_; clear hb hbox hg) | ((with_reducible refine gate_dst (N := 9) rfl ?_); (try (refine gate_guard (by rfl) ?_; dsimp only)); refine bv (N := 9) (cs := #[.int .i64 0, .int .i64 0]) (t := 44) ?_; intro gb234 hg w27 hbox hb; have n0_ := bb BK222 hb; have n1_ := bb BK227 hb; have n2_ := bb BK233 hb; have n3_ := Aside0.mk (below_step (bz3 GE222 GE227 GE233) hb); have n4_ := Aside0.mk (hbox); have n5_ := Aside0.mk ((by rw [hg]; exact (below_size (bz3 GE222 GE227 GE233)) : w.heap.size ≤ gb234)); have n6_ := Aside0.mk ((by rw [hg]; exact (below_size (bz3 GE222 GE227 GE233)) : w.heap.size ≤ gb234)); have n7_ := Aside0.mk ((by rw [hg]; exact Nat.ne_of_lt (blk_lt (g := gb222) (o := .cells #[.int .i64 x223000_2, .slice A0_1 l0_1.length c0_1, .slice A0_2 l0_2.length c0_2] 36 (0, 0)) (bk BK222)) : gb222 ≠ gb234)); have n8_ := Aside0.mk ((by rw [hg]; exact Nat.ne_of_gt (blk_lt (g := gb222) (o := .cells #[.int .i64 x223000_2, .slice A0_1 l0_1.length c0_1, .slice A0_2 l0_2.length c0_2] 36 (0, 0)) (bk BK222)) : gb234 ≠ gb222)); have n9_ := Aside0.mk ((by rw [hg]; exact Nat.ne_of_lt (blk_lt (g := gb227) (o := .cells #[.int .i64 ((rd_T44 l1 x26_2).f0), .int .i64 ((rd_T44 l1 x26_2).f1)] 44 (0, 0)) (bk BK227)) : gb227 ≠ gb234)); have n10_ := Aside0.mk ((by rw [hg]; exact Nat.ne_of_gt (blk_lt (g := gb227) (o := .cells #[.int .i64 ((rd_T44 l1 x26_2).f0), .int .i64 ((rd_T44 l1 x26_2).f1)] 44 (0, 0)) (bk BK227)) : gb234 ≠ gb227)); have n11_ := Aside0.mk ((by rw [hg]; exact Nat.ne_of_lt (blk_lt (g := gb233) (o := .cells #[.int .i64 0, .int .i64 0] 44 (0, 0)) (bk BK233)) : gb233 ≠ gb234)); have n12_ := Aside0.mk ((by rw [hg]; exact Nat.ne_of_gt (blk_lt (g := gb233) (o := .cells #[.int .i64 0, .int .i64 0] 44 (0, 0)) (bk BK233)) : gb234 ≠ gb233)); clear BK222; clear BK227; clear BK233; clear HB; have BK222 := n0_; have BK227 := n1_; have BK233 := n2_; have HB := n3_; have BK234 := n4_; have GW234 := n5_; have GE234 := n6_; have NB222_234 := n7_; have NB234_222 := n8_; have NB227_234 := n9_; have NB234_227 := n10_; have NB233_234 := n11_; have NB234_233 := n12_; clear n0_ n1_ n2_ n3_ n4_ n5_ n6_ n7_ n8_ n9_ n10_ n11_ n12_; clear hb hbox hg; have hnb28 := NB233_222.out; have hnc28 := NB222_233.out; have hnb29 := NB233_227.out; have hnc29 := NB227_233.out; have hnb30 := NB233_234.out; have hnc30 := NB234_233.out; have hcz31_0 : w27.cell? ⟨gb233, 0, none⟩ = some (.int .i64 0) := (blk_cell BK233.out 0).trans rfl; have hcz31_1 : w27.cell? ⟨gb233, 1, none⟩ = some (.int .i64 0) := (blk_cell BK233.out 1).trans rfl; have hfz31_0 := blk_frozen BK233.out 0; have hfz31_1 := blk_frozen BK233.out 1; have hnb32 := NB234_222.out; have hnc32 := NB222_234.out; have hnb33 := NB234_227.out; have hnc33 := NB227_234.out; have hcz34_0 : w27.cell? ⟨gb234, 0, none⟩ = some (.int .i64 0) := (blk_cell BK234.out 0).trans rfl; have hcz34_1 : w27.cell? ⟨gb234, 1, none⟩ = some (.int .i64 0) := (blk_cell BK234.out 1).trans rfl; have hfz34_0 := blk_frozen BK234.out 0; have hfz34_1 := blk_frozen BK234.out 1; have hcz35_0 : w27.cell? ⟨gb227, 0, none⟩ = some (.int .i64 ((rd_T44 l1 x26_2).f0)) := (blk_cell BK227.out 0).trans rfl; have hcz35_1 : w27.cell? ⟨gb227, 1, none⟩ = some (.int .i64 ((rd_T44 l1 x26_2).f1)) := (blk_cell BK227.out 1).trans rfl; have hfz35_0 := blk_frozen BK227.out 0; have hfz35_1 := blk_frozen BK227.out 1) | ((with_reducible refine gate_callee (f := 89) rfl ?_); refine goesL_ (some 38) rfl rfl Try.func89 kf rfl #[.agg #[.int .i64 ((rd_T44 l1 x26_2).f0), .int .i64 ((rd_T44 l1 x26_2).f1)], .agg #[.int .i64 t228, .int .i64 t229]] rfl sm ?_; (with_reducible refine (impl_compareD.calls k2 ((rd_T44 l1 x26_2).f0) ((rd_T44 l1 x26_2).f1) t228 t229 t235 _ A20.out).mono ?_); rintro e w36 ⟨rfl, hb⟩; refine ⟨_, rfl, ?_⟩; have n0_ := Aside0.mk (blk_below (g := gb222) (o := .cells #[.int .i64 x223000_2, .slice A0_1 l0_1.length c0_1, .slice A0_2 l0_2.length c0_2] 36 (0, 0)) (by (with_reducible repeat (first | refine blk_drewN ?_ _ | refine blk_drew ?_ | refine blk_alloc ?_ _)); refine blk_far ?_ NB222_234.out _; (with_reducible repeat (first | refine blk_drewN ?_ _ | refine blk_drew ?_ | refine blk_alloc ?_ _)); refine blk_far ?_ NB222_234.out _; (with_reducible repeat (first | refine blk_drewN ?_ _ | refine blk_drew ?_ | refine blk_alloc ?_ _)); refine blk_far ?_ NB222_233.out _; (with_reducible repeat (first | refine blk_drewN ?_ _ | refine blk_drew ?_ | refine blk_alloc ?_ _)); refine blk_far ?_ NB222_233.out _; (with_reducible repeat (first | refine blk_drewN ?_ _ | refine blk_drew ?_ | refine blk_alloc ?_ _)); exact BK222.out) hb); have n1_ := Aside0.mk (blk_below (g := gb227) (o := .cells #[.int .i64 ((rd_T44 l1 x26_2).f0), .int .i64 ((rd_T44 l1 x26_2).f1)] 44 (0, 0)) (by (with_reducible repeat (first | refine blk_drewN ?_ _ | refine blk_drew ?_ | refine blk_alloc ?_ _)); refine blk_far ?_ NB227_234.out _; (with_reducible repeat (first | refine blk_drewN ?_ _ | refine blk_drew ?_ | refine blk_alloc ?_ _)); refine blk_far ?_ NB227_234.out _; (with_reducible repeat (first | refine blk_drewN ?_ _ | refine blk_drew ?_ | refine blk_alloc ?_ _)); refine blk_far ?_ NB227_233.out _; (with_reducible repeat (first | refine blk_drewN ?_ _ | refine blk_drew ?_ | refine blk_alloc ?_ _)); refine blk_far ?_ NB227_233.out _; (with_reducible repeat (first | refine blk_drewN ?_ _ | refine blk_drew ?_ | refine blk_alloc ?_ _)); exact BK227.out) hb); have n2_ := Aside0.mk (blk_below (g := gb233) (o := .cells #[.int .i64 t228, .int .i64 t229] 44 (0, 0)) (by (with_reducible repeat (first | refine blk_drewN ?_ _ | refine blk_drew ?_ | refine blk_alloc ?_ _)); refine blk_far ?_ NB233_234.out _; (with_reducible repeat (first | refine blk_drewN ?_ _ | refine blk_drew ?_ | refine blk_alloc ?_ _)); refine blk_far ?_ NB233_234.out _; (with_reducible repeat (first | refine blk_drewN ?_ _ | refine blk_drew ?_ | refine blk_alloc ?_ _)); refine blk_put (cs := #[.int .i64 t228, .int .i64 0]) ?_ 1 _ rfl; (with_reducible repeat (first | refine blk_drewN ?_ _ | refine blk_drew ?_ | refine blk_alloc ?_ _)); refine blk_put (cs := #[.int .i64 0, .int .i64 0]) ?_ 0 _ rfl; (with_reducible repeat (first | refine blk_drewN ?_ _ | refine blk_drew ?_ | refine blk_alloc ?_ _)); exact BK233.out) hb); have n3_ := Aside0.mk (blk_below (g := gb234) (o := .cells #[.int .i64 t230, .int .i64 t231] 44 (0, 0)) (by (with_reducible repeat (first | refine blk_drewN ?_ _ | refine blk_drew ?_ | refine blk_alloc ?_ _)); refine blk_put (cs := #[.int .i64 t230, .int .i64 0]) ?_ 1 _ rfl; (with_reducible repeat (first | refine blk_drewN ?_ _ | refine blk_drew ?_ | refine blk_alloc ?_ _)); refine blk_put (cs := #[.int .i64 0, .int .i64 0]) ?_ 0 _ rfl; (with_reducible repeat (first | refine blk_drewN ?_ _ | refine blk_drew ?_ | refine blk_alloc ?_ _)); refine blk_far ?_ NB234_233.out _; (with_reducible repeat (first | refine blk_drewN ?_ _ | refine blk_drew ?_ | refine blk_alloc ?_ _)); refine blk_far ?_ NB234_233.out _; (with_reducible repeat (first | refine blk_drewN ?_ _ | refine blk_drew ?_ | refine blk_alloc ?_ _)); exact BK234.out) hb); have n4_ := Aside0.mk (below_step (bz4 GE222 GE227 GE233 GE234) hb); clear BK222; clear BK227; clear BK233; clear BK234; clear HB; have BK222 := n0_; have BK227 := n1_; have BK233 := n2_; have BK234 := n3_; have HB := n4_; clear n0_ n1_ n2_ n3_ n4_; (try clear hb); (try clear hb2); (try clear hk); (try clear hi)))
          go_ret2
          exact ⟨er, bz4 GE222 GE227 GE233 GE234⟩
         ·rw [if_neg c21] at H
          have c21b0 : decide (t235 < 0) = false := decide_eq_false c21
          clear c21
          obtain ⟨t236, A37, H⟩ := bi H
          by_cases c38 : t236 > 0
          ·rw [if_pos c38] at H
           have c38b0 : decide (0 < t236) = true := decide_eq_true c38
           clear c38
           simp only [Option.some.injEq, Prod.mk.injEq] at H
           obtain ⟨rfl, rfl⟩ := H
           have p226 : 0 ≤ (x26_2 : Int) := of_decide_eq_true am
           have q226 : x26_2 < (l1.length : Int) := of_decide_eq_true am
           obtain ⟨ad226, e226, hx226_0, hx226_1⟩ := at_T44 HR1.out x26_2 p226 q226
           cases e226
           replace hx226_0 := (HB.out.cell (World.block_lt_of_cell? w _ hx226_0)).trans hx226_0
           replace hx226_1 := (HB.out.cell (World.block_lt_of_cell? w _ hx226_1)).trans hx226_1
           replace p226 := eq_true p226
           replace q226 := eq_true q226
           go_wp2_with (first | ((with_reducible refine gate_dst (N := 7) rfl ?_); (try (refine gate_guard (by rfl) ?_; dsimp only)); refine bv (N := 7) (cs := #[.int .i64 0, .int .i64 0]) (t := 44) ?_; intro gb227 hg w39 hbox hb; have n0_ := bb BK222 hb; have n1_ := Aside0.mk (below_step (bz1 GE222) hb); have n2_ := Aside0.mk (hbox); have n3_ := Aside0.mk ((by rw [hg]; exact (below_size (bz1 GE222)) : w.heap.size ≤ gb227)); have n4_ := Aside0.mk ((by rw [hg]; exact (below_size (bz1 GE222)) : w.heap.size ≤ gb227)); have n5_ := Aside0.mk ((by rw [hg]; exact Nat.ne_of_lt (blk_lt (g := gb222) (o := .cells #[.int .i64 x223000_2, .slice A0_1 l0_1.length c0_1, .slice A0_2 l0_2.length c0_2] 36 (0, 0)) (bk BK222)) : gb222 ≠ gb227)); have n6_ := Aside0.mk ((by rw [hg]; exact Nat.ne_of_gt (blk_lt (g := gb222) (o := .cells #[.int .i64 x223000_2, .slice A0_1 l0_1.length c0_1, .slice A0_2 l0_2.length c0_2] 36 (0, 0)) (bk BK222)) : gb227 ≠ gb222)); clear BK222; clear HB; have BK222 := n0_; have HB := n1_; have BK227 := n2_; have GW227 := n3_; have GE227 := n4_; have NB222_227 := n5_; have NB227_222 := n6_; clear n0_ n1_ n2_ n3_ n4_ n5_ n6_; clear hb hbox hg; have hnb40 := NB227_222.out; have hnc40 := NB222_227.out; have hcz41_0 : w39.cell? ⟨gb227, 0, none⟩ = some (.int .i64 0) := (blk_cell BK227.out 0).trans rfl; have hcz41_1 : w39.cell? ⟨gb227, 1, none⟩ = some (.int .i64 0) := (blk_cell BK227.out 1).trans rfl; have hfz41_0 := blk_frozen BK227.out 0; have hfz41_1 := blk_frozen BK227.out 1) | ((with_reducible refine gate_callee (f := 74) rfl ?_); refine goesL_ (some 33) rfl rfl Try.func74 kf rfl #[.pointer (some ⟨gb222, 0, none⟩), .int .i64 x26_2] rfl sm ?_; (with_reducible refine (impl_Box_side.callsB k2 gb222 A0_1 c0_1 A0_2 c0_2 x223000_2 l0_1 l0_2 x26_2 t228 t229 t230 t231 t232 w _ ?side1 ?side2 A19.out).mono ?_); (case side1 => exact ⟨by (with_reducible repeat (first | refine blk_drewN ?_ _ | refine blk_drew ?_ | refine blk_alloc ?_ _)); refine blk_far ?_ NB222_227.out _; (with_reducible repeat (first | refine blk_drewN ?_ _ | refine blk_drew ?_ | refine blk_alloc ?_ _)); refine blk_far ?_ NB222_227.out _; (with_reducible repeat (first | refine blk_drewN ?_ _ | refine blk_drew ?_ | refine blk_alloc ?_ _)); exact BK222.out, GE222.out, HR0_1.out, HR0_2.out⟩); (case side2 => repeat (first | (with_reducible first | exact HB.out | apply below_alloc | apply pw_below_drewN | apply below_drew1 | refine below_set ?_ GE222.out | refine below_set ?_ GE227.out) | exact HB.out)); rintro e w42 ⟨rfl, hb⟩; refine ⟨_, rfl, ?_⟩; have n0_ := Aside0.mk (blk_below (g := gb222) (o := .cells #[.int .i64 x223000_2, .slice A0_1 l0_1.length c0_1, .slice A0_2 l0_2.length c0_2] 36 (0, 0)) (by (with_reducible repeat (first | refine blk_drewN ?_ _ | refine blk_drew ?_ | refine blk_alloc ?_ _)); refine blk_far ?_ NB222_227.out _; (with_reducible repeat (first | refine blk_drewN ?_ _ | refine blk_drew ?_ | refine blk_alloc ?_ _)); refine blk_far ?_ NB222_227.out _; (with_reducible repeat (first | refine blk_drewN ?_ _ | refine blk_drew ?_ | refine blk_alloc ?_ _)); exact BK222.out) hb); have n1_ := Aside0.mk (blk_below (g := gb227) (o := .cells #[.int .i64 ((rd_T44 l1 x26_2).f0), .int .i64 ((rd_T44 l1 x26_2).f1)] 44 (0, 0)) (by (with_reducible repeat (first | refine blk_drewN ?_ _ | refine blk_drew ?_ | refine blk_alloc ?_ _)); refine blk_put (cs := #[.int .i64 ((rd_T44 l1 x26_2).f0), .int .i64 0]) ?_ 1 _ rfl; (with_reducible repeat (first | refine blk_drewN ?_ _ | refine blk_drew ?_ | refine blk_alloc ?_ _)); refine blk_put (cs := #[.int .i64 0, .int .i64 0]) ?_ 0 _ rfl; (with_reducible repeat (first | refine blk_drewN ?_ _ | refine blk_drew ?_ | refine blk_alloc ?_ _)); exact BK227.out) hb); have n2_ := Aside0.mk (below_step (bz2 GE222 GE227) hb); clear BK222; clear BK227; clear HB; have BK222 := n0_; have BK227 := n1_; have HB := n2_; clear n0_ n1_ n2_; (try clear hb); (try clear hb2); (try clear hk); (try clear hi)) | ((with_reducible refine gate_dst (N := 8) rfl ?_); (try (refine gate_guard (by rfl) ?_; dsimp only)); refine bv (N := 8) (cs := #[.int .i64 0, .int .i64 0]) (t := 44) ?_; intro gb233 hg w43 hbox hb; have n0_ := bb BK222 hb; have n1_ := bb BK227 hb; have n2_ := Aside0.mk (below_step (bz2 GE222 GE227) hb); have n3_ := Aside0.mk (hbox); have n4_ := Aside0.mk ((by rw [hg]; exact (below_size (bz2 GE222 GE227)) : w.heap.size ≤ gb233)); have n5_ := Aside0.mk ((by rw [hg]; exact (below_size (bz2 GE222 GE227)) : w.heap.size ≤ gb233)); have n6_ := Aside0.mk ((by rw [hg]; exact Nat.ne_of_lt (blk_lt (g := gb222) (o := .cells #[.int .i64 x223000_2, .slice A0_1 l0_1.length c0_1, .slice A0_2 l0_2.length c0_2] 36 (0, 0)) (bk BK222)) : gb222 ≠ gb233)); have n7_ := Aside0.mk ((by rw [hg]; exact Nat.ne_of_gt (blk_lt (g := gb222) (o := .cells #[.int .i64 x223000_2, .slice A0_1 l0_1.length c0_1, .slice A0_2 l0_2.length c0_2] 36 (0, 0)) (bk BK222)) : gb233 ≠ gb222)); have n8_ := Aside0.mk ((by rw [hg]; exact Nat.ne_of_lt (blk_lt (g := gb227) (o := .cells #[.int .i64 ((rd_T44 l1 x26_2).f0), .int .i64 ((rd_T44 l1 x26_2).f1)] 44 (0, 0)) (bk BK227)) : gb227 ≠ gb233)); have n9_ := Aside0.mk ((by rw [hg]; exact Nat.ne_of_gt (blk_lt (g := gb227) (o := .cells #[.int .i64 ((rd_T44 l1 x26_2).f0), .int .i64 ((rd_T44 l1 x26_2).f1)] 44 (0, 0)) (bk BK227)) : gb233 ≠ gb227)); clear BK222; clear BK227; clear HB; have BK222 := n0_; have BK227 := n1_; have HB := n2_; have BK233 := n3_; have GW233 := n4_; have GE233 := n5_; have NB222_233 := n6_; have NB233_222 := n7_; have NB227_233 := n8_; have NB233_227 := n9_; clear n0_ n1_ n2_ n3_ n4_ n5_ n6_ n7_ n8_ n9_; clear hb hbox hg) | ((with_reducible refine gate_dst (N := 9) rfl ?_); (try (refine gate_guard (by rfl) ?_; dsimp only)); refine bv (N := 9) (cs := #[.int .i64 0, .int .i64 0]) (t := 44) ?_; intro gb234 hg w44 hbox hb; have n0_ := bb BK222 hb; have n1_ := bb BK227 hb; have n2_ := bb BK233 hb; have n3_ := Aside0.mk (below_step (bz3 GE222 GE227 GE233) hb); have n4_ := Aside0.mk (hbox); have n5_ := Aside0.mk ((by rw [hg]; exact (below_size (bz3 GE222 GE227 GE233)) : w.heap.size ≤ gb234)); have n6_ := Aside0.mk ((by rw [hg]; exact (below_size (bz3 GE222 GE227 GE233)) : w.heap.size ≤ gb234)); have n7_ := Aside0.mk ((by rw [hg]; exact Nat.ne_of_lt (blk_lt (g := gb222) (o := .cells #[.int .i64 x223000_2, .slice A0_1 l0_1.length c0_1, .slice A0_2 l0_2.length c0_2] 36 (0, 0)) (bk BK222)) : gb222 ≠ gb234)); have n8_ := Aside0.mk ((by rw [hg]; exact Nat.ne_of_gt (blk_lt (g := gb222) (o := .cells #[.int .i64 x223000_2, .slice A0_1 l0_1.length c0_1, .slice A0_2 l0_2.length c0_2] 36 (0, 0)) (bk BK222)) : gb234 ≠ gb222)); have n9_ := Aside0.mk ((by rw [hg]; exact Nat.ne_of_lt (blk_lt (g := gb227) (o := .cells #[.int .i64 ((rd_T44 l1 x26_2).f0), .int .i64 ((rd_T44 l1 x26_2).f1)] 44 (0, 0)) (bk BK227)) : gb227 ≠ gb234)); have n10_ := Aside0.mk ((by rw [hg]; exact Nat.ne_of_gt (blk_lt (g := gb227) (o := .cells #[.int .i64 ((rd_T44 l1 x26_2).f0), .int .i64 ((rd_T44 l1 x26_2).f1)] 44 (0, 0)) (bk BK227)) : gb234 ≠ gb227)); have n11_ := Aside0.mk ((by rw [hg]; exact Nat.ne_of_lt (blk_lt (g := gb233) (o := .cells #[.int .i64 0, .int .i64 0] 44 (0, 0)) (bk BK233)) : gb233 ≠ gb234)); have n12_ := Aside0.mk ((by rw [hg]; exact Nat.ne_of_gt (blk_lt (g := gb233) (o := .cells #[.int .i64 0, .int .i64 0] 44 (0, 0)) (bk BK233)) : gb234 ≠ gb233)); clear BK222; clear BK227; clear BK233; clear HB; have BK222 := n0_; have BK227 := n1_; have BK233 := n2_; have HB := n3_; have BK234 := n4_; have GW234 := n5_; have GE234 := n6_; have NB222_234 := n7_; have NB234_222 := n8_; have NB227_234 := n9_; have NB234_227 := n10_; have NB233_234 := n11_; have NB234_233 := n12_; clear n0_ n1_ n2_ n3_ n4_ n5_ n6_ n7_ n8_ n9_ n10_ n11_ n12_; clear hb hbox hg; have hnb45 := NB233_222.out; have hnc45 := NB222_233.out; have hnb46 := NB233_227.out; have hnc46 := NB227_233.out; have hnb47 := NB233_234.out; have hnc47 := NB234_233.out; have hcz48_0 : w44.cell? ⟨gb233, 0, none⟩ = some (.int .i64 0) := (blk_cell BK233.out 0).trans rfl; have hcz48_1 : w44.cell? ⟨gb233, 1, none⟩ = some (.int .i64 0) := (blk_cell BK233.out 1).trans rfl; have hfz48_0 := blk_frozen BK233.out 0; have hfz48_1 := blk_frozen BK233.out 1; have hnb49 := NB234_222.out; have hnc49 := NB222_234.out; have hnb50 := NB234_227.out; have hnc50 := NB227_234.out; have hcz51_0 : w44.cell? ⟨gb234, 0, none⟩ = some (.int .i64 0) := (blk_cell BK234.out 0).trans rfl; have hcz51_1 : w44.cell? ⟨gb234, 1, none⟩ = some (.int .i64 0) := (blk_cell BK234.out 1).trans rfl; have hfz51_0 := blk_frozen BK234.out 0; have hfz51_1 := blk_frozen BK234.out 1; have hcz52_0 : w44.cell? ⟨gb227, 0, none⟩ = some (.int .i64 ((rd_T44 l1 x26_2).f0)) := (blk_cell BK227.out 0).trans rfl; have hcz52_1 : w44.cell? ⟨gb227, 1, none⟩ = some (.int .i64 ((rd_T44 l1 x26_2).f1)) := (blk_cell BK227.out 1).trans rfl; have hfz52_0 := blk_frozen BK227.out 0; have hfz52_1 := blk_frozen BK227.out 1) | ((with_reducible refine gate_callee (f := 89) rfl ?_); refine goesL_ (some 38) rfl rfl Try.func89 kf rfl #[.agg #[.int .i64 ((rd_T44 l1 x26_2).f0), .int .i64 ((rd_T44 l1 x26_2).f1)], .agg #[.int .i64 t228, .int .i64 t229]] rfl sm ?_; (with_reducible refine (impl_compareD.calls k2 ((rd_T44 l1 x26_2).f0) ((rd_T44 l1 x26_2).f1) t228 t229 t235 _ A20.out).mono ?_); rintro e w53 ⟨rfl, hb⟩; refine ⟨_, rfl, ?_⟩; have n0_ := Aside0.mk (blk_below (g := gb222) (o := .cells #[.int .i64 x223000_2, .slice A0_1 l0_1.length c0_1, .slice A0_2 l0_2.length c0_2] 36 (0, 0)) (by (with_reducible repeat (first | refine blk_drewN ?_ _ | refine blk_drew ?_ | refine blk_alloc ?_ _)); refine blk_far ?_ NB222_234.out _; (with_reducible repeat (first | refine blk_drewN ?_ _ | refine blk_drew ?_ | refine blk_alloc ?_ _)); refine blk_far ?_ NB222_234.out _; (with_reducible repeat (first | refine blk_drewN ?_ _ | refine blk_drew ?_ | refine blk_alloc ?_ _)); refine blk_far ?_ NB222_233.out _; (with_reducible repeat (first | refine blk_drewN ?_ _ | refine blk_drew ?_ | refine blk_alloc ?_ _)); refine blk_far ?_ NB222_233.out _; (with_reducible repeat (first | refine blk_drewN ?_ _ | refine blk_drew ?_ | refine blk_alloc ?_ _)); exact BK222.out) hb); have n1_ := Aside0.mk (blk_below (g := gb227) (o := .cells #[.int .i64 ((rd_T44 l1 x26_2).f0), .int .i64 ((rd_T44 l1 x26_2).f1)] 44 (0, 0)) (by (with_reducible repeat (first | refine blk_drewN ?_ _ | refine blk_drew ?_ | refine blk_alloc ?_ _)); refine blk_far ?_ NB227_234.out _; (with_reducible repeat (first | refine blk_drewN ?_ _ | refine blk_drew ?_ | refine blk_alloc ?_ _)); refine blk_far ?_ NB227_234.out _; (with_reducible repeat (first | refine blk_drewN ?_ _ | refine blk_drew ?_ | refine blk_alloc ?_ _)); refine blk_far ?_ NB227_233.out _; (with_reducible repeat (first | refine blk_drewN ?_ _ | refine blk_drew ?_ | refine blk_alloc ?_ _)); refine blk_far ?_ NB227_233.out _; (with_reducible repeat (first | refine blk_drewN ?_ _ | refine blk_drew ?_ | refine blk_alloc ?_ _)); exact BK227.out) hb); have n2_ := Aside0.mk (blk_below (g := gb233) (o := .cells #[.int .i64 t228, .int .i64 t229] 44 (0, 0)) (by (with_reducible repeat (first | refine blk_drewN ?_ _ | refine blk_drew ?_ | refine blk_alloc ?_ _)); refine blk_far ?_ NB233_234.out _; (with_reducible repeat (first | refine blk_drewN ?_ _ | refine blk_drew ?_ | refine blk_alloc ?_ _)); refine blk_far ?_ NB233_234.out _; (with_reducible repeat (first | refine blk_drewN ?_ _ | refine blk_drew ?_ | refine blk_alloc ?_ _)); refine blk_put (cs := #[.int .i64 t228, .int .i64 0]) ?_ 1 _ rfl; (with_reducible repeat (first | refine blk_drewN ?_ _ | refine blk_drew ?_ | refine blk_alloc ?_ _)); refine blk_put (cs := #[.int .i64 0, .int .i64 0]) ?_ 0 _ rfl; (with_reducible repeat (first | refine blk_drewN ?_ _ | refine blk_drew ?_ | refine blk_alloc ?_ _)); exact BK233.out) hb); have n3_ := Aside0.mk (blk_below (g := gb234) (o := .cells #[.int .i64 t230, .int .i64 t231] 44 (0, 0)) (by (with_reducible repeat (first | refine blk_drewN ?_ _ | refine blk_drew ?_ | refine blk_alloc ?_ _)); refine blk_put (cs := #[.int .i64 t230, .int .i64 0]) ?_ 1 _ rfl; (with_reducible repeat (first | refine blk_drewN ?_ _ | refine blk_drew ?_ | refine blk_alloc ?_ _)); refine blk_put (cs := #[.int .i64 0, .int .i64 0]) ?_ 0 _ rfl; (with_reducible repeat (first | refine blk_drewN ?_ _ | refine blk_drew ?_ | refine blk_alloc ?_ _)); refine blk_far ?_ NB234_233.out _; (with_reducible repeat (first | refine blk_drewN ?_ _ | refine blk_drew ?_ | refine blk_alloc ?_ _)); refine blk_far ?_ NB234_233.out _; (with_reducible repeat (first | refine blk_drewN ?_ _ | refine blk_drew ?_ | refine blk_alloc ?_ _)); exact BK234.out) hb); have n4_ := Aside0.mk (below_step (bz4 GE222 GE227 GE233 GE234) hb); clear BK222; clear BK227; clear BK233; clear BK234; clear HB; have BK222 := n0_; have BK227 := n1_; have BK233 := n2_; have BK234 := n3_; have HB := n4_; clear n0_ n1_ n2_ n3_ n4_; (try clear hb); (try clear hb2); (try clear hk); (try clear hi); have hcz54_0 : w53.cell? ⟨gb227, 0, none⟩ = some (.int .i64 ((rd_T44 l1 x26_2).f0)) := (blk_cell BK227.out 0).trans rfl; have hcz54_1 : w53.cell? ⟨gb227, 1, none⟩ = some (.int .i64 ((rd_T44 l1 x26_2).f1)) := (blk_cell BK227.out 1).trans rfl; have hfz54_0 := blk_frozen BK227.out 0; have hfz54_1 := blk_frozen BK227.out 1; have hcz55_0 : w53.cell? ⟨gb234, 0, none⟩ = some (.int .i64 t230) := (blk_cell BK234.out 0).trans rfl; have hcz55_1 : w53.cell? ⟨gb234, 1, none⟩ = some (.int .i64 t231) := (blk_cell BK234.out 1).trans rfl; have hfz55_0 := blk_frozen BK234.out 0; have hfz55_1 := blk_frozen BK234.out 1) | (go_at_call 89; (with_reducible refine (impl_compareD.calls k2 ((rd_T44 l1 x26_2).f0) ((rd_T44 l1 x26_2).f1) t230 t231 t236 _ A37.out).mono ?_); rintro e w56 ⟨rfl, hb⟩; have n0_ := bb BK222 hb; have n1_ := bb BK227 hb; have n2_ := bb BK233 hb; have n3_ := bb BK234 hb; have n4_ := Aside0.mk (below_step (bz4 GE222 GE227 GE233 GE234) hb); clear BK222; clear BK227; clear BK233; clear BK234; clear HB; have BK222 := n0_; have BK227 := n1_; have BK233 := n2_; have BK234 := n3_; have HB := n4_; clear n0_ n1_ n2_ n3_ n4_; (try clear hb); (try clear hb2); (try clear hk); (try clear hi)))
           go_ret2
           exact ⟨er, bz4 GE222 GE227 GE233 GE234⟩
          ·rw [if_neg c38] at H
           have c38b0 : decide (0 < t236) = false := decide_eq_false c38
           clear c38
           have H' := Aside0.mk H
           clear H
           have p226 : 0 ≤ (x26_2 : Int) := of_decide_eq_true am
           have q226 : x26_2 < (l1.length : Int) := of_decide_eq_true am
           obtain ⟨ad226, e226, hx226_0, hx226_1⟩ := at_T44 HR1.out x26_2 p226 q226
           cases e226
           replace hx226_0 := (HB.out.cell (World.block_lt_of_cell? w _ hx226_0)).trans hx226_0
           replace hx226_1 := (HB.out.cell (World.block_lt_of_cell? w _ hx226_1)).trans hx226_1
           replace p226 := eq_true p226
           replace q226 := eq_true q226
           go_wp2_with (first | ((with_reducible refine gate_dst (N := 7) rfl ?_); (try (refine gate_guard (by rfl) ?_; dsimp only)); refine bv (N := 7) (cs := #[.int .i64 0, .int .i64 0]) (t := 44) ?_; intro gb227 hg w57 hbox hb; have n0_ := bb BK222 hb; have n1_ := Aside0.mk (below_step (bz1 GE222) hb); have n2_ := Aside0.mk (hbox); have n3_ := Aside0.mk ((by rw [hg]; exact (below_size (bz1 GE222)) : w.heap.size ≤ gb227)); have n4_ := Aside0.mk ((by rw [hg]; exact (below_size (bz1 GE222)) : w.heap.size ≤ gb227)); have n5_ := Aside0.mk ((by rw [hg]; exact Nat.ne_of_lt (blk_lt (g := gb222) (o := .cells #[.int .i64 x223000_2, .slice A0_1 l0_1.length c0_1, .slice A0_2 l0_2.length c0_2] 36 (0, 0)) (bk BK222)) : gb222 ≠ gb227)); have n6_ := Aside0.mk ((by rw [hg]; exact Nat.ne_of_gt (blk_lt (g := gb222) (o := .cells #[.int .i64 x223000_2, .slice A0_1 l0_1.length c0_1, .slice A0_2 l0_2.length c0_2] 36 (0, 0)) (bk BK222)) : gb227 ≠ gb222)); clear BK222; clear HB; have BK222 := n0_; have HB := n1_; have BK227 := n2_; have GW227 := n3_; have GE227 := n4_; have NB222_227 := n5_; have NB227_222 := n6_; clear n0_ n1_ n2_ n3_ n4_ n5_ n6_; clear hb hbox hg; have hnb58 := NB227_222.out; have hnc58 := NB222_227.out; have hcz59_0 : w57.cell? ⟨gb227, 0, none⟩ = some (.int .i64 0) := (blk_cell BK227.out 0).trans rfl; have hcz59_1 : w57.cell? ⟨gb227, 1, none⟩ = some (.int .i64 0) := (blk_cell BK227.out 1).trans rfl; have hfz59_0 := blk_frozen BK227.out 0; have hfz59_1 := blk_frozen BK227.out 1) | ((with_reducible refine gate_callee (f := 74) rfl ?_); refine goesL_ (some 33) rfl rfl Try.func74 kf rfl #[.pointer (some ⟨gb222, 0, none⟩), .int .i64 x26_2] rfl sm ?_; (with_reducible refine (impl_Box_side.callsB k2 gb222 A0_1 c0_1 A0_2 c0_2 x223000_2 l0_1 l0_2 x26_2 t228 t229 t230 t231 t232 w _ ?side1 ?side2 A19.out).mono ?_); (case side1 => exact ⟨by (with_reducible repeat (first | refine blk_drewN ?_ _ | refine blk_drew ?_ | refine blk_alloc ?_ _)); refine blk_far ?_ NB222_227.out _; (with_reducible repeat (first | refine blk_drewN ?_ _ | refine blk_drew ?_ | refine blk_alloc ?_ _)); refine blk_far ?_ NB222_227.out _; (with_reducible repeat (first | refine blk_drewN ?_ _ | refine blk_drew ?_ | refine blk_alloc ?_ _)); exact BK222.out, GE222.out, HR0_1.out, HR0_2.out⟩); (case side2 => repeat (first | (with_reducible first | exact HB.out | apply below_alloc | apply pw_below_drewN | apply below_drew1 | refine below_set ?_ GE222.out | refine below_set ?_ GE227.out) | exact HB.out)); rintro e w60 ⟨rfl, hb⟩; refine ⟨_, rfl, ?_⟩; have n0_ := Aside0.mk (blk_below (g := gb222) (o := .cells #[.int .i64 x223000_2, .slice A0_1 l0_1.length c0_1, .slice A0_2 l0_2.length c0_2] 36 (0, 0)) (by (with_reducible repeat (first | refine blk_drewN ?_ _ | refine blk_drew ?_ | refine blk_alloc ?_ _)); refine blk_far ?_ NB222_227.out _; (with_reducible repeat (first | refine blk_drewN ?_ _ | refine blk_drew ?_ | refine blk_alloc ?_ _)); refine blk_far ?_ NB222_227.out _; (with_reducible repeat (first | refine blk_drewN ?_ _ | refine blk_drew ?_ | refine blk_alloc ?_ _)); exact BK222.out) hb); have n1_ := Aside0.mk (blk_below (g := gb227) (o := .cells #[.int .i64 ((rd_T44 l1 x26_2).f0), .int .i64 ((rd_T44 l1 x26_2).f1)] 44 (0, 0)) (by (with_reducible repeat (first | refine blk_drewN ?_ _ | refine blk_drew ?_ | refine blk_alloc ?_ _)); refine blk_put (cs := #[.int .i64 ((rd_T44 l1 x26_2).f0), .int .i64 0]) ?_ 1 _ rfl; (with_reducible repeat (first | refine blk_drewN ?_ _ | refine blk_drew ?_ | refine blk_alloc ?_ _)); refine blk_put (cs := #[.int .i64 0, .int .i64 0]) ?_ 0 _ rfl; (with_reducible repeat (first | refine blk_drewN ?_ _ | refine blk_drew ?_ | refine blk_alloc ?_ _)); exact BK227.out) hb); have n2_ := Aside0.mk (below_step (bz2 GE222 GE227) hb); clear BK222; clear BK227; clear HB; have BK222 := n0_; have BK227 := n1_; have HB := n2_; clear n0_ n1_ n2_; (try clear hb); (try clear hb2); (try clear hk); (try clear hi)) | ((with_reducible refine gate_dst (N := 8) rfl ?_); (try (refine gate_guard (by rfl) ?_; dsimp only)); refine bv (N := 8) (cs := #[.int .i64 0, .int .i64 0]) (t := 44) ?_; intro gb233 hg w61 hbox hb; have n0_ := bb BK222 hb; have n1_ := bb BK227 hb; have n2_ := Aside0.mk (below_step (bz2 GE222 GE227) hb); have n3_ := Aside0.mk (hbox); have n4_ := Aside0.mk ((by rw [hg]; exact (below_size (bz2 GE222 GE227)) : w.heap.size ≤ gb233)); have n5_ := Aside0.mk ((by rw [hg]; exact (below_size (bz2 GE222 GE227)) : w.heap.size ≤ gb233)); have n6_ := Aside0.mk ((by rw [hg]; exact Nat.ne_of_lt (blk_lt (g := gb222) (o := .cells #[.int .i64 x223000_2, .slice A0_1 l0_1.length c0_1, .slice A0_2 l0_2.length c0_2] 36 (0, 0)) (bk BK222)) : gb222 ≠ gb233)); have n7_ := Aside0.mk ((by rw [hg]; exact Nat.ne_of_gt (blk_lt (g := gb222) (o := .cells #[.int .i64 x223000_2, .slice A0_1 l0_1.length c0_1, .slice A0_2 l0_2.length c0_2] 36 (0, 0)) (bk BK222)) : gb233 ≠ gb222)); have n8_ := Aside0.mk ((by rw [hg]; exact Nat.ne_of_lt (blk_lt (g := gb227) (o := .cells #[.int .i64 ((rd_T44 l1 x26_2).f0), .int .i64 ((rd_T44 l1 x26_2).f1)] 44 (0, 0)) (bk BK227)) : gb227 ≠ gb233)); have n9_ := Aside0.mk ((by rw [hg]; exact Nat.ne_of_gt (blk_lt (g := gb227) (o := .cells #[.int .i64 ((rd_T44 l1 x26_2).f0), .int .i64 ((rd_T44 l1 x26_2).f1)] 44 (0, 0)) (bk BK227)) : gb233 ≠ gb227)); clear BK222; clear BK227; clear HB; have BK222 := n0_; have BK227 := n1_; have HB := n2_; have BK233 := n3_; have GW233 := n4_; have GE233 := n5_; have NB222_233 := n6_; have NB233_222 := n7_; have NB227_233 := n8_; have NB233_227 := n9_; clear n0_ n1_ n2_ n3_ n4_ n5_ n6_ n7_ n8_ n9_; clear hb hbox hg) | ((with_reducible refine gate_dst (N := 9) rfl ?_); (try (refine gate_guard (by rfl) ?_; dsimp only)); refine bv (N := 9) (cs := #[.int .i64 0, .int .i64 0]) (t := 44) ?_; intro gb234 hg w62 hbox hb; have n0_ := bb BK222 hb; have n1_ := bb BK227 hb; have n2_ := bb BK233 hb; have n3_ := Aside0.mk (below_step (bz3 GE222 GE227 GE233) hb); have n4_ := Aside0.mk (hbox); have n5_ := Aside0.mk ((by rw [hg]; exact (below_size (bz3 GE222 GE227 GE233)) : w.heap.size ≤ gb234)); have n6_ := Aside0.mk ((by rw [hg]; exact (below_size (bz3 GE222 GE227 GE233)) : w.heap.size ≤ gb234)); have n7_ := Aside0.mk ((by rw [hg]; exact Nat.ne_of_lt (blk_lt (g := gb222) (o := .cells #[.int .i64 x223000_2, .slice A0_1 l0_1.length c0_1, .slice A0_2 l0_2.length c0_2] 36 (0, 0)) (bk BK222)) : gb222 ≠ gb234)); have n8_ := Aside0.mk ((by rw [hg]; exact Nat.ne_of_gt (blk_lt (g := gb222) (o := .cells #[.int .i64 x223000_2, .slice A0_1 l0_1.length c0_1, .slice A0_2 l0_2.length c0_2] 36 (0, 0)) (bk BK222)) : gb234 ≠ gb222)); have n9_ := Aside0.mk ((by rw [hg]; exact Nat.ne_of_lt (blk_lt (g := gb227) (o := .cells #[.int .i64 ((rd_T44 l1 x26_2).f0), .int .i64 ((rd_T44 l1 x26_2).f1)] 44 (0, 0)) (bk BK227)) : gb227 ≠ gb234)); have n10_ := Aside0.mk ((by rw [hg]; exact Nat.ne_of_gt (blk_lt (g := gb227) (o := .cells #[.int .i64 ((rd_T44 l1 x26_2).f0), .int .i64 ((rd_T44 l1 x26_2).f1)] 44 (0, 0)) (bk BK227)) : gb234 ≠ gb227)); have n11_ := Aside0.mk ((by rw [hg]; exact Nat.ne_of_lt (blk_lt (g := gb233) (o := .cells #[.int .i64 0, .int .i64 0] 44 (0, 0)) (bk BK233)) : gb233 ≠ gb234)); have n12_ := Aside0.mk ((by rw [hg]; exact Nat.ne_of_gt (blk_lt (g := gb233) (o := .cells #[.int .i64 0, .int .i64 0] 44 (0, 0)) (bk BK233)) : gb234 ≠ gb233)); clear BK222; clear BK227; clear BK233; clear HB; have BK222 := n0_; have BK227 := n1_; have BK233 := n2_; have HB := n3_; have BK234 := n4_; have GW234 := n5_; have GE234 := n6_; have NB222_234 := n7_; have NB234_222 := n8_; have NB227_234 := n9_; have NB234_227 := n10_; have NB233_234 := n11_; have NB234_233 := n12_; clear n0_ n1_ n2_ n3_ n4_ n5_ n6_ n7_ n8_ n9_ n10_ n11_ n12_; clear hb hbox hg; have hnb63 := NB233_222.out; have hnc63 := NB222_233.out; have hnb64 := NB233_227.out; have hnc64 := NB227_233.out; have hnb65 := NB233_234.out; have hnc65 := NB234_233.out; have hcz66_0 : w62.cell? ⟨gb233, 0, none⟩ = some (.int .i64 0) := (blk_cell BK233.out 0).trans rfl; have hcz66_1 : w62.cell? ⟨gb233, 1, none⟩ = some (.int .i64 0) := (blk_cell BK233.out 1).trans rfl; have hfz66_0 := blk_frozen BK233.out 0; have hfz66_1 := blk_frozen BK233.out 1; have hnb67 := NB234_222.out; have hnc67 := NB222_234.out; have hnb68 := NB234_227.out; have hnc68 := NB227_234.out; have hcz69_0 : w62.cell? ⟨gb234, 0, none⟩ = some (.int .i64 0) := (blk_cell BK234.out 0).trans rfl; have hcz69_1 : w62.cell? ⟨gb234, 1, none⟩ = some (.int .i64 0) := (blk_cell BK234.out 1).trans rfl; have hfz69_0 := blk_frozen BK234.out 0; have hfz69_1 := blk_frozen BK234.out 1; have hcz70_0 : w62.cell? ⟨gb227, 0, none⟩ = some (.int .i64 ((rd_T44 l1 x26_2).f0)) := (blk_cell BK227.out 0).trans rfl; have hcz70_1 : w62.cell? ⟨gb227, 1, none⟩ = some (.int .i64 ((rd_T44 l1 x26_2).f1)) := (blk_cell BK227.out 1).trans rfl; have hfz70_0 := blk_frozen BK227.out 0; have hfz70_1 := blk_frozen BK227.out 1) | ((with_reducible refine gate_callee (f := 89) rfl ?_); refine goesL_ (some 38) rfl rfl Try.func89 kf rfl #[.agg #[.int .i64 ((rd_T44 l1 x26_2).f0), .int .i64 ((rd_T44 l1 x26_2).f1)], .agg #[.int .i64 t228, .int .i64 t229]] rfl sm ?_; (with_reducible refine (impl_compareD.calls k2 ((rd_T44 l1 x26_2).f0) ((rd_T44 l1 x26_2).f1) t228 t229 t235 _ A20.out).mono ?_); rintro e w71 ⟨rfl, hb⟩; refine ⟨_, rfl, ?_⟩; have n0_ := Aside0.mk (blk_below (g := gb222) (o := .cells #[.int .i64 x223000_2, .slice A0_1 l0_1.length c0_1, .slice A0_2 l0_2.length c0_2] 36 (0, 0)) (by (with_reducible repeat (first | refine blk_drewN ?_ _ | refine blk_drew ?_ | refine blk_alloc ?_ _)); refine blk_far ?_ NB222_234.out _; (with_reducible repeat (first | refine blk_drewN ?_ _ | refine blk_drew ?_ | refine blk_alloc ?_ _)); refine blk_far ?_ NB222_234.out _; (with_reducible repeat (first | refine blk_drewN ?_ _ | refine blk_drew ?_ | refine blk_alloc ?_ _)); refine blk_far ?_ NB222_233.out _; (with_reducible repeat (first | refine blk_drewN ?_ _ | refine blk_drew ?_ | refine blk_alloc ?_ _)); refine blk_far ?_ NB222_233.out _; (with_reducible repeat (first | refine blk_drewN ?_ _ | refine blk_drew ?_ | refine blk_alloc ?_ _)); exact BK222.out) hb); have n1_ := Aside0.mk (blk_below (g := gb227) (o := .cells #[.int .i64 ((rd_T44 l1 x26_2).f0), .int .i64 ((rd_T44 l1 x26_2).f1)] 44 (0, 0)) (by (with_reducible repeat (first | refine blk_drewN ?_ _ | refine blk_drew ?_ | refine blk_alloc ?_ _)); refine blk_far ?_ NB227_234.out _; (with_reducible repeat (first | refine blk_drewN ?_ _ | refine blk_drew ?_ | refine blk_alloc ?_ _)); refine blk_far ?_ NB227_234.out _; (with_reducible repeat (first | refine blk_drewN ?_ _ | refine blk_drew ?_ | refine blk_alloc ?_ _)); refine blk_far ?_ NB227_233.out _; (with_reducible repeat (first | refine blk_drewN ?_ _ | refine blk_drew ?_ | refine blk_alloc ?_ _)); refine blk_far ?_ NB227_233.out _; (with_reducible repeat (first | refine blk_drewN ?_ _ | refine blk_drew ?_ | refine blk_alloc ?_ _)); exact BK227.out) hb); have n2_ := Aside0.mk (blk_below (g := gb233) (o := .cells #[.int .i64 t228, .int .i64 t229] 44 (0, 0)) (by (with_reducible repeat (first | refine blk_drewN ?_ _ | refine blk_drew ?_ | refine blk_alloc ?_ _)); refine blk_far ?_ NB233_234.out _; (with_reducible repeat (first | refine blk_drewN ?_ _ | refine blk_drew ?_ | refine blk_alloc ?_ _)); refine blk_far ?_ NB233_234.out _; (with_reducible repeat (first | refine blk_drewN ?_ _ | refine blk_drew ?_ | refine blk_alloc ?_ _)); refine blk_put (cs := #[.int .i64 t228, .int .i64 0]) ?_ 1 _ rfl; (with_reducible repeat (first | refine blk_drewN ?_ _ | refine blk_drew ?_ | refine blk_alloc ?_ _)); refine blk_put (cs := #[.int .i64 0, .int .i64 0]) ?_ 0 _ rfl; (with_reducible repeat (first | refine blk_drewN ?_ _ | refine blk_drew ?_ | refine blk_alloc ?_ _)); exact BK233.out) hb); have n3_ := Aside0.mk (blk_below (g := gb234) (o := .cells #[.int .i64 t230, .int .i64 t231] 44 (0, 0)) (by (with_reducible repeat (first | refine blk_drewN ?_ _ | refine blk_drew ?_ | refine blk_alloc ?_ _)); refine blk_put (cs := #[.int .i64 t230, .int .i64 0]) ?_ 1 _ rfl; (with_reducible repeat (first | refine blk_drewN ?_ _ | refine blk_drew ?_ | refine blk_alloc ?_ _)); refine blk_put (cs := #[.int .i64 0, .int .i64 0]) ?_ 0 _ rfl; (with_reducible repeat (first | refine blk_drewN ?_ _ | refine blk_drew ?_ | refine blk_alloc ?_ _)); refine blk_far ?_ NB234_233.out _; (with_reducible repeat (first | refine blk_drewN ?_ _ | refine blk_drew ?_ | refine blk_alloc ?_ _)); refine blk_far ?_ NB234_233.out _; (with_reducible repeat (first | refine blk_drewN ?_ _ | refine blk_drew ?_ | refine blk_alloc ?_ _)); exact BK234.out) hb); have n4_ := Aside0.mk (below_step (bz4 GE222 GE227 GE233 GE234) hb); clear BK222; clear BK227; clear BK233; clear BK234; clear HB; have BK222 := n0_; have BK227 := n1_; have BK233 := n2_; have BK234 := n3_; have HB := n4_; clear n0_ n1_ n2_ n3_ n4_; (try clear hb); (try clear hb2); (try clear hk); (try clear hi); have hcz72_0 : w71.cell? ⟨gb227, 0, none⟩ = some (.int .i64 ((rd_T44 l1 x26_2).f0)) := (blk_cell BK227.out 0).trans rfl; have hcz72_1 : w71.cell? ⟨gb227, 1, none⟩ = some (.int .i64 ((rd_T44 l1 x26_2).f1)) := (blk_cell BK227.out 1).trans rfl; have hfz72_0 := blk_frozen BK227.out 0; have hfz72_1 := blk_frozen BK227.out 1; have hcz73_0 : w71.cell? ⟨gb234, 0, none⟩ = some (.int .i64 t230) := (blk_cell BK234.out 0).trans rfl; have hcz73_1 : w71.cell? ⟨gb234, 1, none⟩ = some (.int .i64 t231) := (blk_cell BK234.out 1).trans rfl; have hfz73_0 := blk_frozen BK234.out 0; have hfz73_1 := blk_frozen BK234.out 1) | (go_at_call 89; (with_reducible refine (impl_compareD.calls k2 ((rd_T44 l1 x26_2).f0) ((rd_T44 l1 x26_2).f1) t230 t231 t236 _ A37.out).mono ?_); rintro e w74 ⟨rfl, hb⟩; have n0_ := bb BK222 hb; have n1_ := bb BK227 hb; have n2_ := bb BK233 hb; have n3_ := bb BK234 hb; have n4_ := Aside0.mk (below_step (bz4 GE222 GE227 GE233 GE234) hb); clear BK222; clear BK227; clear BK233; clear BK234; clear HB; have BK222 := n0_; have BK227 := n1_; have BK233 := n2_; have BK234 := n3_; have HB := n4_; clear n0_ n1_ n2_ n3_ n4_; (try clear hb); (try clear hb2); (try clear hk); (try clear hi)))
           go_roundg k2
           case measure => have := HJ2.out; have := HK2.out; omega
           case rel => exact ⟨(wrap64 (x26_2 + 1)), sr, H', ⟨by have := HJ2.out; have := HK2.out; omega⟩, ⟨bk BK222⟩, ⟨bz4 GE222 GE227 GE233 GE234⟩⟩
        ·rw [if_neg c18] at H
         exact absurd H (by simp)
       ·rw [if_neg c17] at H
        exact absurd H (by simp)
      ·rw [if_neg c16] at H
       have c16b0 : decide (x26_2 < (l1.length : Int)) = false := decide_eq_false c16
       clear c16
       simp only [Option.some.injEq, Prod.mk.injEq] at H
       obtain ⟨rfl, rfl⟩ := H
       go_wp2
       go_ret2
       exact ⟨er, bz1 GE222⟩
def laws_roomBehind.f (a0 : Int) : Option (Int) := if (Int.tmod a0 6) = 5 then (some 0) else (if (Int.tmod a0 3) = 0 then (some 1) else (some a0))
set_option maxHeartbeats 8000000 in
set_option maxRecDepth 100000 in
theorem laws_roomBehind.calls (a0 : Int) (r : Int) (w : World) (h : laws_roomBehind.f a0 = some r) :
 Calls Try.prog 55 #[.int .i64 a0] w fun e w' => e = .returned (.int .i64 r) ∧ Drawn0 w w' := by
 have H : (if (Int.tmod a0 6) = 5 then (some 0) else (if (Int.tmod a0 3) = 0 then (some 1) else (some a0))) = some r := h
 clear h
 by_cases c2 : (Int.tmod a0 6) = 5
 ·rw [if_pos c2] at H
  have c2b0 : ((Int.tmod a0 6) == 5) = true := beq_iff_eq.mpr c2
  have c2b1 : ((Int.tmod a0 6) != 5) = false := bne_eq_false_iff_eq.mpr c2
  clear c2
  obtain rfl := Option.some.inj H
  go_enter Try.func55, Try.ntmps55
  go_wp2
  go_ret
  exact ⟨sr, dz⟩
 ·rw [if_neg c2] at H
  have c2b0 : ((Int.tmod a0 6) == 5) = false := beq_eq_false_iff_ne.mpr c2
  have c2b1 : ((Int.tmod a0 6) != 5) = true := bne_iff_ne.mpr c2
  by_cases c3 : (Int.tmod a0 3) = 0
  ·rw [if_pos c3] at H
   have c3b0 : ((Int.tmod a0 3) == 0) = true := beq_iff_eq.mpr c3
   have c3b1 : ((Int.tmod a0 3) != 0) = false := bne_eq_false_iff_eq.mpr c3
   clear c3
   obtain rfl := Option.some.inj H
   go_enter Try.func55, Try.ntmps55
   go_wp2
   go_ret
   exact ⟨sr, dz⟩
  ·rw [if_neg c3] at H
   have c3b0 : ((Int.tmod a0 3) == 0) = false := beq_eq_false_iff_ne.mpr c3
   have c3b1 : ((Int.tmod a0 3) != 0) = true := bne_iff_ne.mpr c3
   obtain rfl := Option.some.inj H
   go_enter Try.func55, Try.ntmps55
   go_wp2
   go_ret
   exact ⟨sr, dz⟩
end Go.Proofs.Ytalcohajbcijlaa.QHps
