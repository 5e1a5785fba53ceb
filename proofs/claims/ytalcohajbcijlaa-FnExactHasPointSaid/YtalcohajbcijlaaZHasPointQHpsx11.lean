import Derived.Test.YtalcohajbcijlaaZHasPointSq
import Derived.Test.YtalcohajbcijlaaZHasPointQHpsx2
import Derived.Test.YtalcohajbcijlaaZHasPointQHpsx5
import Derived.Test.YtalcohajbcijlaaZHasPointQHpsx9
namespace Go.Proofs.Ytalcohajbcijlaa.QHps
open Go.RowKit Go.Proofs.YtalcohajbcijlaaW.PrintWords Go.Proofs.YtalcohajbcijlaaW.PrintLast Go.Proofs.YtalcohajbcijlaaW.PrintMore
attribute [local go_sem] max2_int min2_int max_two min_two max_three min_three max_four min_four
set_option linter.unusedVariables false
set_option linter.unusedSimpArgs false
set_option maxHeartbeats 8000000 in
set_option maxRecDepth 100000 in
theorem impl_Box_dyadic.callsF (k : Nat) (g : Nat) (B1_ : Option Addr) (b1_ : Nat) (B2_ : Option Addr) (b2_ : Nat) (s0_0 : Int) (s0_1 : List Int) (s0_2 : List Int) (a1 : Int) (r1 : Int) (r2 : Int) (r3 : Int) (w0 w : World) (hI : IsF36 B1_ b1_ B2_ b2_ w0 w g s0_0 s0_1 s0_2) (hB : Below w0.heap.size w0 w) (h : impl_Box_dyadic.f k s0_0 s0_1 s0_2 a1 = some (r1, r2, r3)) :
 Calls Try.prog 114 #[.pointer (some ⟨g, 0, none⟩), .int .i64 a1] w fun e w' => e = .returned (.agg #[.int .i64 r1, .int .i64 r2]) ∧ IsF36 B1_ b1_ B2_ b2_ w0 w' g s0_0 s0_1 s0_2 ∧ Below w0.heap.size w0 w' ∧ KeepBut w w' g none := by
 have hu44 := Try.underlying44
 have HI0 := Aside0.mk hI
 have HK := Aside0.mk (KeepBut.refl w g none)
 have HL := Aside0.mk hB.size
 clear hI
 have HW0 := Aside0.mk hB.size
 have HB := Aside0.mk hB
 clear hB
 have H : ((impl_wideOf.f a1).bind fun bt183 => ((impl_wide_fit.f k bt183.1 bt183.2.1 bt183.2.2 s0_0).bind fun bt186 => (some (bt186.1, bt186.2.1, s0_0)))) = some (r1, r2, r3) := h
 clear h
 obtain ⟨⟨t183, t184, t185⟩, A3, H⟩ := bi H
 try dsimp only at H
 obtain ⟨⟨t186, t187, t188⟩, A4, H⟩ := bi H
 try dsimp only at H
 simp only [Option.some.injEq, Prod.mk.injEq] at H
 obtain ⟨rfl, rfl, rfl⟩ := H
 go_enter Try.func114, Try.ntmps114
 try go_wp2_with (first | ((with_reducible refine gate_dst (N := 4) rfl ?_); refine bv (N := 4) (cs := #[.int .i64 0, .int .i64 0]) (t := 44) ?_; intro gb182 hg w5 hbox hb; have n0_ := Aside0.mk (IsF36.below (by repeat (first | (with_reducible first | exact HI0.out | apply IsF36.alloc | apply IsF36.drewN | apply IsF36.drew | apply IsF36.set_0) | exact HI0.out)) hb); have n1_ := Aside0.mk (KeepBut.trans (by repeat (first | (with_reducible first | exact HK.out | apply KeepBut.set_ | apply keep_drewN | apply keep_drew | apply keep_alloc) | exact HK.out)) (KeepBut.of_below hb g none) (.inl rfl)); have n2_ := Aside0.mk (below_step (by repeat (first | (with_reducible first | exact HB.out | apply below_alloc | apply pw_below_drewN | apply below_drew1 | refine below_set ?_ (IsF36.ge HI0.out)) | exact HB.out)) hb); have n3_ := Aside0.mk (hbox); have n4_ := Aside0.mk ((by rw [hg]; exact (keep_size (w := w) (g := g) (row := none) (by repeat (first | (with_reducible first | exact HK.out | apply KeepBut.set_ | apply keep_drewN | apply keep_drew | apply keep_alloc) | exact HK.out))) : w.heap.size ≤ gb182)); have n5_ := Aside0.mk ((Nat.le_trans HW0.out (by rw [hg]; exact (keep_size (w := w) (g := g) (row := none) (by repeat (first | (with_reducible first | exact HK.out | apply KeepBut.set_ | apply keep_drewN | apply keep_drew | apply keep_alloc) | exact HK.out))) : w.heap.size ≤ gb182) : w0.heap.size ≤ gb182)); have n6_ := Aside0.mk ((by rw [hg]; exact Nat.ne_of_lt (IsF36.lt (show IsF36 B1_ b1_ B2_ b2_ w0 _ g s0_0 s0_1 s0_2 from by repeat (first | (with_reducible first | exact HI0.out | apply IsF36.alloc | apply IsF36.drewN | apply IsF36.drew | apply IsF36.set_0) | exact HI0.out))) : g ≠ gb182)); have n7_ := Aside0.mk ((by rw [hg]; exact Nat.ne_of_gt (IsF36.lt (show IsF36 B1_ b1_ B2_ b2_ w0 _ g s0_0 s0_1 s0_2 from by repeat (first | (with_reducible first | exact HI0.out | apply IsF36.alloc | apply IsF36.drewN | apply IsF36.drew | apply IsF36.set_0) | exact HI0.out))) : gb182 ≠ g)); clear HI0; clear HK; clear HB; have HI0 := n0_; have HK := n1_; have HB := n2_; have BK182 := n3_; have GW182 := n4_; have GE182 := n5_; have NB0_182 := n6_; have NB182_0 := n7_; clear n0_ n1_ n2_ n3_ n4_ n5_ n6_ n7_; clear hb hbox hg))
 have n0_ := Aside0.mk (blk_drew BK182.out)
 have n1_ := Aside0.mk (IsF36.drew HI0.out)
 have n2_ := Aside0.mk (keep_drew HK.out)
 have n3_ := Aside0.mk (below_drew1 HB.out)
 clear BK182 HI0 HK HB
 have BK182 := n0_
 have HI0 := n1_
 have HK := n2_
 have HB := n3_
 clear n0_ n1_ n2_ n3_
 refine start_ (n := 13) (S := fun w' => w'.cell? ⟨g, 0, none⟩ = some (.int .i64 s0_0)) (ds := []) #[fF, fF, fF, fF, fF, fF, fF, fF, fF, fF, fF, fF, fF] kf rfl rfl ((show World.cell? _ ⟨g, 0, none⟩ = some (.int .i64 s0_0) from by obtain ⟨hq_, _⟩ := HI0.out; exact (blk_cell hq_ 0).trans rfl)) (fun hHeld => ?_); refine with_tabW impl_Box_dyadic.tab1 impl_Box_dyadic.bits1 (fun HT_ HW_ => ?_)
 generalize w5.drew = w6 at BK182 HI0 HK HB hHeld ⊢
 refine pq (i := 0) (N := some 8) #[tT, fF, fF, fF, fF, fF, fF, fF, fF, fF, fF, fF, fF] rfl rfl HT_.out ?_
 refine pq (i := 2) (N := some 10) #[tT, fF, tT, fF, fF, fF, fF, fF, fF, fF, fF, fF, fF] rfl rfl HT_.out ?_
 refine pq (i := 3) (N := some 11) #[tT, fF, tT, tT, fF, fF, fF, fF, fF, fF, fF, fF, fF] rfl rfl HT_.out ?_
 refine pq (i := 4) (N := some 12) #[tT, fF, tT, tT, tT, fF, fF, fF, fF, fF, fF, fF, fF] rfl rfl HT_.out ?_
 refine take_ (i := 5) (N := some 13) (v := ?_) (a' := ?_) #[tT, fF, tT, tT, tT, tT, fF, fF, fF, fF, fF, fF, fF] rfl rfl (take_ofW HT_.out HW_.out kf) (fun _ _ _ h => h) (Or.inl ⟨by rfl, ?_⟩) hHeld ?_ ?_
 rotate_left
 ·intro w' s0
  go_simp
  with_reducible rfl
 rotate_left
 ·simp only [Act.put, List.setIfInBounds_toArray, List.set_cons_zero, List.set_cons_succ, i64_w, i32_w]
  rfl
 refine join_ (σ := Nat) 2 #[tT, tT, tT, tT, tT, tT, tT, tT, tT, tT, tT, fF, fF] (fun s_ => [(9, .agg #[.bool t183, .int .u64 t184, .int .u64 t185]), (14, .tuple #[.agg #[.int .i64 t186, .int .i64 t187], .bool t188]), (5, .pointer (some ⟨s_, 0, none⟩)), (7, .tuple #[.agg #[.int .i64 t186, .int .i64 t187], .bool t188]), (15, .agg #[.int .i64 t186, .int .i64 t187]), (16, .bool t188)]) (fun s_ w' => (w'.cell? ⟨g, 0, none⟩ = some (.int .i64 s0_0)) ∧ (w'.heap[gb182]? = some (.cells #[.int .i64 0, .int .i64 0] 44 (0, 0))) ∧ (w'.heap[s_]? = some (.cells #[.int .i64 0, .int .i64 0] 44 (0, 0))) ∧ (w.heap.size ≤ s_) ∧ (w0.heap.size ≤ s_) ∧ (g ≠ s_) ∧ (s_ ≠ g) ∧ (gb182 ≠ s_) ∧ (s_ ≠ gb182) ∧ (IsF36 B1_ b1_ B2_ b2_ w0 w' g s0_0 s0_1 s0_2) ∧ (KeepBut w w' g none) ∧ (Below w0.heap.size w0 w')) ?_ ?_
 rotate_left
 ·intro hCont
  refine two_ (i := 1) (j := 10) (Ni := some 9) (Nj := some 5) #[tT, tT, tT, tT, tT, tT, fF, fF, fF, fF, fF, fF, fF] #[tT, fF, tT, tT, tT, tT, fF, fF, fF, fF, tT, fF, fF] rfl rfl rfl rfl (two_of HT_.out kf) (by decide) (by decide) (fun K hK => ?_) (fun K hK => ?_)
  ·skip
   refine goes_ Try.func128 kf rfl #[.int .i64 a1] (by rfl) rfl rfl sm ?_
   with_reducible refine (impl_wideOf.calls a1 t183 t184 t185 _ A3.out).mono ?_
   rintro e w7 ⟨rfl, hb⟩
   refine ⟨_, rfl, ?_⟩
   have n0_ := Aside0.mk (IsF36.below (by repeat (first | (with_reducible first | exact HI0.out | apply IsF36.alloc | apply IsF36.drewN | apply IsF36.drew | apply IsF36.set_0 | refine IsF36.far ?_ NB0_182.out _) | exact HI0.out)) hb)
   have n1_ := bb BK182 hb
   have n2_ := Aside0.mk (KeepBut.trans (by repeat (first | (with_reducible first | exact HK.out | apply KeepBut.set_ | apply keep_drewN | apply keep_drew | apply keep_alloc | refine keep_far ?_ GW182.out _) | exact HK.out)) (KeepBut.of_below hb g none) (.inl rfl))
   have n3_ := Aside0.mk (below_step (by repeat (first | (with_reducible first | exact HB.out | apply below_alloc | apply pw_below_drewN | apply below_drew1 | refine below_set ?_ (IsF36.ge HI0.out) | refine below_set ?_ GE182.out) | exact HB.out)) hb)
   clear HI0 BK182 HK HB
   have HI0 := n0_
   have BK182 := n1_
   have HK := n2_
   have HB := n3_
   clear n0_ n1_ n2_ n3_
   (try clear hb)
   (try clear hb2)
   (try clear hk)
   (try clear hi)
   refine hK.out _ _ ((show World.cell? _ ⟨g, 0, none⟩ = some (.int .i64 s0_0) from by obtain ⟨hq_, _⟩ := HI0.out; exact (blk_cell hq_ 0).trans rfl)) (fun hHeld => ?_)
   clear hK K
   refine norm_ (a' := ?_) ?_ ?_
   rotate_left
   ·show Act.put _ (some 9) _ = _
    simp only [Act.put, List.setIfInBounds_toArray, List.set_cons_zero, List.set_cons_succ, i64_w, i32_w]
    rfl
   refine two_ (i := 6) (j := 10) (Ni := some 14) (Nj := some 5) #[tT, tT, tT, tT, tT, tT, tT, fF, fF, fF, fF, fF, fF] #[tT, tT, tT, tT, tT, tT, fF, fF, fF, fF, tT, fF, fF] rfl rfl rfl rfl (two_of HT_.out kf) (by decide) (by decide) (fun K hK => ?_) (fun K hK => ?_)
   ·skip
    refine goes_ Try.func131 kf rfl #[.agg #[.bool t183, .int .u64 t184, .int .u64 t185], .int .i64 s0_0] (by rfl) rfl rfl sm ?_
    with_reducible refine (impl_wide_fit.calls k t183 t184 t185 s0_0 t186 t187 t188 _ A4.out).mono ?_
    rintro e w8 ⟨rfl, hb⟩
    refine ⟨_, rfl, ?_⟩
    have n0_ := Aside0.mk (IsF36.below (by repeat (first | (with_reducible first | exact HI0.out | apply IsF36.alloc | apply IsF36.drewN | apply IsF36.drew | apply IsF36.set_0 | refine IsF36.far ?_ NB0_182.out _) | exact HI0.out)) hb)
    have n1_ := bb BK182 hb
    have n2_ := Aside0.mk (KeepBut.trans (by repeat (first | (with_reducible first | exact HK.out | apply KeepBut.set_ | apply keep_drewN | apply keep_drew | apply keep_alloc | refine keep_far ?_ GW182.out _) | exact HK.out)) (KeepBut.of_below hb g none) (.inl rfl))
    have n3_ := Aside0.mk (below_step (by repeat (first | (with_reducible first | exact HB.out | apply below_alloc | apply pw_below_drewN | apply below_drew1 | refine below_set ?_ (IsF36.ge HI0.out) | refine below_set ?_ GE182.out) | exact HB.out)) hb)
    clear HI0 BK182 HK HB
    have HI0 := n0_
    have BK182 := n1_
    have HK := n2_
    have HB := n3_
    clear n0_ n1_ n2_ n3_
    (try clear hb)
    (try clear hb2)
    (try clear hk)
    (try clear hi)
    refine hK.out _ _ ((show World.cell? _ ⟨g, 0, none⟩ = some (.int .i64 s0_0) from by obtain ⟨hq_, _⟩ := HI0.out; exact (blk_cell hq_ 0).trans rfl)) (fun hHeld => ?_)
    clear hK K
    refine norm_ (a' := ?_) ?_ ?_
    rotate_left
    ·show Act.put _ (some 14) _ = _
     simp only [Act.put, List.setIfInBounds_toArray, List.set_cons_zero, List.set_cons_succ, i64_w, i32_w]
     rfl
    refine pq (i := 7) (N := some 7) #[tT, tT, tT, tT, tT, tT, tT, tT, fF, fF, fF, fF, fF] rfl rfl HT_.out ?_
    refine pq (i := 8) (N := some 15) #[tT, tT, tT, tT, tT, tT, tT, tT, tT, fF, fF, fF, fF] rfl rfl HT_.out ?_
    refine pq (i := 9) (N := some 16) #[tT, tT, tT, tT, tT, tT, tT, tT, tT, tT, fF, fF, fF] rfl rfl HT_.out ?_
    refine one_ (i := 10) (N := some 5) #[tT, tT, tT, tT, tT, tT, tT, tT, tT, tT, tT, fF, fF] rfl rfl (one_of HT_.out kf) (by decide) (fun K hK => ?_)
    refine box_step ?hg (N := 5) ?hd (cs := #[.int .i64 0, .int .i64 0]) (t := 44) ?hr ?_; (case hd => rfl); (case hg => rfl); (case hr => first | (go_simp; done) | (go_simp; rfl))
    intro gb189 hg w9 hbox hb
    have n0_ := Aside0.mk (IsF36.below (by repeat (first | (with_reducible first | exact HI0.out | apply IsF36.alloc | apply IsF36.drewN | apply IsF36.drew | apply IsF36.set_0 | refine IsF36.far ?_ NB0_182.out _) | exact HI0.out)) hb)
    have n1_ := bb BK182 hb
    have n2_ := Aside0.mk (KeepBut.trans (by repeat (first | (with_reducible first | exact HK.out | apply KeepBut.set_ | apply keep_drewN | apply keep_drew | apply keep_alloc | refine keep_far ?_ GW182.out _) | exact HK.out)) (KeepBut.of_below hb g none) (.inl rfl))
    have n3_ := Aside0.mk (below_step (by repeat (first | (with_reducible first | exact HB.out | apply below_alloc | apply pw_below_drewN | apply below_drew1 | refine below_set ?_ (IsF36.ge HI0.out) | refine below_set ?_ GE182.out) | exact HB.out)) hb)
    have n4_ := Aside0.mk (hbox)
    have n5_ := Aside0.mk ((by rw [hg]; exact (keep_size (w := w) (g := g) (row := none) (by repeat (first | (with_reducible first | exact HK.out | apply KeepBut.set_ | apply keep_drewN | apply keep_drew | apply keep_alloc | refine keep_far ?_ GW182.out _) | exact HK.out))) : w.heap.size ≤ gb189))
    have n6_ := Aside0.mk ((Nat.le_trans HW0.out (by rw [hg]; exact (keep_size (w := w) (g := g) (row := none) (by repeat (first | (with_reducible first | exact HK.out | apply KeepBut.set_ | apply keep_drewN | apply keep_drew | apply keep_alloc | refine keep_far ?_ GW182.out _) | exact HK.out))) : w.heap.size ≤ gb189) : w0.heap.size ≤ gb189))
    have n7_ := Aside0.mk ((by rw [hg]; exact Nat.ne_of_lt (blk_lt (g := gb182) (o := .cells #[.int .i64 0, .int .i64 0] 44 (0, 0)) (bk BK182)) : gb182 ≠ gb189))
    have n8_ := Aside0.mk ((by rw [hg]; exact Nat.ne_of_gt (blk_lt (g := gb182) (o := .cells #[.int .i64 0, .int .i64 0] 44 (0, 0)) (bk BK182)) : gb189 ≠ gb182))
    have n9_ := Aside0.mk ((by rw [hg]; exact Nat.ne_of_lt (IsF36.lt (show IsF36 B1_ b1_ B2_ b2_ w0 _ g s0_0 s0_1 s0_2 from by repeat (first | (with_reducible first | exact HI0.out | apply IsF36.alloc | apply IsF36.drewN | apply IsF36.drew | apply IsF36.set_0 | refine IsF36.far ?_ NB0_182.out _) | exact HI0.out))) : g ≠ gb189))
    have n10_ := Aside0.mk ((by rw [hg]; exact Nat.ne_of_gt (IsF36.lt (show IsF36 B1_ b1_ B2_ b2_ w0 _ g s0_0 s0_1 s0_2 from by repeat (first | (with_reducible first | exact HI0.out | apply IsF36.alloc | apply IsF36.drewN | apply IsF36.drew | apply IsF36.set_0 | refine IsF36.far ?_ NB0_182.out _) | exact HI0.out))) : gb189 ≠ g))
    clear HI0 BK182 HK HB
    have HI0 := n0_
    have BK182 := n1_
    have HK := n2_
    have HB := n3_
    have BK189 := n4_
    have GW189 := n5_
    have GE189 := n6_
    have NB182_189 := n7_
    have NB189_182 := n8_
    have NB0_189 := n9_
    have NB189_0 := n10_
    clear n0_ n1_ n2_ n3_ n4_ n5_ n6_ n7_ n8_ n9_ n10_ hb hbox hg
    refine hK.out _ _ ((show World.cell? _ ⟨g, 0, none⟩ = some (.int .i64 s0_0) from by obtain ⟨hq_, _⟩ := HI0.out; exact (blk_cell hq_ 0).trans rfl)) (fun hHeld => ?_)
    clear hK K
    refine norm_ (a' := ?_) ?_ ?_
    rotate_left
    ·show Act.put _ (some 5) _ = _
     simp only [Act.put, List.setIfInBounds_toArray, List.set_cons_zero, List.set_cons_succ, i64_w, i32_w]
     rfl
    exact norm_ (by simp only [putAll, Act.put, List.setIfInBounds_toArray, List.set_cons_zero, List.set_cons_succ]) (hCont (gb189) _ ⟨hHeld, (bk BK182), (bk BK189), GW189.out, GE189.out, NB0_189.out, NB189_0.out, NB182_189.out, NB189_182.out, (by repeat (first | (with_reducible first | exact HI0.out | apply IsF36.alloc | apply IsF36.drewN | apply IsF36.drew | apply IsF36.set_0 | refine IsF36.far ?_ NB0_182.out _ | refine IsF36.far ?_ NB0_189.out _) | exact HI0.out)), (by repeat (first | (with_reducible first | exact HK.out | apply KeepBut.set_ | apply keep_drewN | apply keep_drew | apply keep_alloc | refine keep_far ?_ GW182.out _ | refine keep_far ?_ GW189.out _) | exact HK.out)), (by repeat (first | (with_reducible first | exact HB.out | apply below_alloc | apply pw_below_drewN | apply below_drew1 | refine below_set ?_ (IsF36.ge HI0.out) | refine below_set ?_ GE182.out | refine below_set ?_ GE189.out) | exact HB.out))⟩)
   ·skip
    refine box_step ?hg (N := 5) ?hd (cs := #[.int .i64 0, .int .i64 0]) (t := 44) ?hr ?_; (case hd => rfl); (case hg => rfl); (case hr => first | (go_simp; done) | (go_simp; rfl))
    intro gb189 hg w8 hbox hb
    have n0_ := Aside0.mk (IsF36.below (by repeat (first | (with_reducible first | exact HI0.out | apply IsF36.alloc | apply IsF36.drewN | apply IsF36.drew | apply IsF36.set_0 | refine IsF36.far ?_ NB0_182.out _) | exact HI0.out)) hb)
    have n1_ := bb BK182 hb
    have n2_ := Aside0.mk (KeepBut.trans (by repeat (first | (with_reducible first | exact HK.out | apply KeepBut.set_ | apply keep_drewN | apply keep_drew | apply keep_alloc | refine keep_far ?_ GW182.out _) | exact HK.out)) (KeepBut.of_below hb g none) (.inl rfl))
    have n3_ := Aside0.mk (below_step (by repeat (first | (with_reducible first | exact HB.out | apply below_alloc | apply pw_below_drewN | apply below_drew1 | refine below_set ?_ (IsF36.ge HI0.out) | refine below_set ?_ GE182.out) | exact HB.out)) hb)
    have n4_ := Aside0.mk (hbox)
    have n5_ := Aside0.mk ((by rw [hg]; exact (keep_size (w := w) (g := g) (row := none) (by repeat (first | (with_reducible first | exact HK.out | apply KeepBut.set_ | apply keep_drewN | apply keep_drew | apply keep_alloc | refine keep_far ?_ GW182.out _) | exact HK.out))) : w.heap.size ≤ gb189))
    have n6_ := Aside0.mk ((Nat.le_trans HW0.out (by rw [hg]; exact (keep_size (w := w) (g := g) (row := none) (by repeat (first | (with_reducible first | exact HK.out | apply KeepBut.set_ | apply keep_drewN | apply keep_drew | apply keep_alloc | refine keep_far ?_ GW182.out _) | exact HK.out))) : w.heap.size ≤ gb189) : w0.heap.size ≤ gb189))
    have n7_ := Aside0.mk ((by rw [hg]; exact Nat.ne_of_lt (blk_lt (g := gb182) (o := .cells #[.int .i64 0, .int .i64 0] 44 (0, 0)) (bk BK182)) : gb182 ≠ gb189))
    have n8_ := Aside0.mk ((by rw [hg]; exact Nat.ne_of_gt (blk_lt (g := gb182) (o := .cells #[.int .i64 0, .int .i64 0] 44 (0, 0)) (bk BK182)) : gb189 ≠ gb182))
    have n9_ := Aside0.mk ((by rw [hg]; exact Nat.ne_of_lt (IsF36.lt (show IsF36 B1_ b1_ B2_ b2_ w0 _ g s0_0 s0_1 s0_2 from by repeat (first | (with_reducible first | exact HI0.out | apply IsF36.alloc | apply IsF36.drewN | apply IsF36.drew | apply IsF36.set_0 | refine IsF36.far ?_ NB0_182.out _) | exact HI0.out))) : g ≠ gb189))
    have n10_ := Aside0.mk ((by rw [hg]; exact Nat.ne_of_gt (IsF36.lt (show IsF36 B1_ b1_ B2_ b2_ w0 _ g s0_0 s0_1 s0_2 from by repeat (first | (with_reducible first | exact HI0.out | apply IsF36.alloc | apply IsF36.drewN | apply IsF36.drew | apply IsF36.set_0 | refine IsF36.far ?_ NB0_182.out _) | exact HI0.out))) : gb189 ≠ g))
    clear HI0 BK182 HK HB
    have HI0 := n0_
    have BK182 := n1_
    have HK := n2_
    have HB := n3_
    have BK189 := n4_
    have GW189 := n5_
    have GE189 := n6_
    have NB182_189 := n7_
    have NB189_182 := n8_
    have NB0_189 := n9_
    have NB189_0 := n10_
    clear n0_ n1_ n2_ n3_ n4_ n5_ n6_ n7_ n8_ n9_ n10_ hb hbox hg
    refine hK.out _ _ ((show World.cell? _ ⟨g, 0, none⟩ = some (.int .i64 s0_0) from by obtain ⟨hq_, _⟩ := HI0.out; exact (blk_cell hq_ 0).trans rfl)) (fun hHeld => ?_)
    clear hK K
    refine norm_ (a' := ?_) ?_ ?_
    rotate_left
    ·show Act.put _ (some 5) _ = _
     simp only [Act.put, List.setIfInBounds_toArray, List.set_cons_zero, List.set_cons_succ, i64_w, i32_w]
     rfl
    refine one_ (i := 6) (N := some 14) #[tT, tT, tT, tT, tT, tT, tT, fF, fF, fF, tT, fF, fF] rfl rfl (one_of HT_.out kf) (by decide) (fun K hK => ?_)
    refine goes_ Try.func131 kf rfl #[.agg #[.bool t183, .int .u64 t184, .int .u64 t185], .int .i64 s0_0] (by rfl) rfl rfl sm ?_
    with_reducible refine (impl_wide_fit.calls k t183 t184 t185 s0_0 t186 t187 t188 _ A4.out).mono ?_
    rintro e w9 ⟨rfl, hb⟩
    refine ⟨_, rfl, ?_⟩
    have n0_ := Aside0.mk (IsF36.below (by repeat (first | (with_reducible first | exact HI0.out | apply IsF36.alloc | apply IsF36.drewN | apply IsF36.drew | apply IsF36.set_0 | refine IsF36.far ?_ NB0_182.out _ | refine IsF36.far ?_ NB0_189.out _) | exact HI0.out)) hb)
    have n1_ := bb BK182 hb
    have n2_ := bb BK189 hb
    have n3_ := Aside0.mk (KeepBut.trans (by repeat (first | (with_reducible first | exact HK.out | apply KeepBut.set_ | apply keep_drewN | apply keep_drew | apply keep_alloc | refine keep_far ?_ GW182.out _ | refine keep_far ?_ GW189.out _) | exact HK.out)) (KeepBut.of_below hb g none) (.inl rfl))
    have n4_ := Aside0.mk (below_step (by repeat (first | (with_reducible first | exact HB.out | apply below_alloc | apply pw_below_drewN | apply below_drew1 | refine below_set ?_ (IsF36.ge HI0.out) | refine below_set ?_ GE182.out | refine below_set ?_ GE189.out) | exact HB.out)) hb)
    clear HI0 BK182 BK189 HK HB
    have HI0 := n0_
    have BK182 := n1_
    have BK189 := n2_
    have HK := n3_
    have HB := n4_
    clear n0_ n1_ n2_ n3_ n4_
    (try clear hb)
    (try clear hb2)
    (try clear hk)
    (try clear hi)
    refine hK.out _ _ ((show World.cell? _ ⟨g, 0, none⟩ = some (.int .i64 s0_0) from by obtain ⟨hq_, _⟩ := HI0.out; exact (blk_cell hq_ 0).trans rfl)) (fun hHeld => ?_)
    clear hK K
    refine norm_ (a' := ?_) ?_ ?_
    rotate_left
    ·show Act.put _ (some 14) _ = _
     simp only [Act.put, List.setIfInBounds_toArray, List.set_cons_zero, List.set_cons_succ, i64_w, i32_w]
     rfl
    refine pq (i := 7) (N := some 7) #[tT, tT, tT, tT, tT, tT, tT, tT, fF, fF, tT, fF, fF] rfl rfl HT_.out ?_
    refine pq (i := 8) (N := some 15) #[tT, tT, tT, tT, tT, tT, tT, tT, tT, fF, tT, fF, fF] rfl rfl HT_.out ?_
    refine pq (i := 9) (N := some 16) #[tT, tT, tT, tT, tT, tT, tT, tT, tT, tT, tT, fF, fF] rfl rfl HT_.out ?_
    exact norm_ (by simp only [putAll, Act.put, List.setIfInBounds_toArray, List.set_cons_zero, List.set_cons_succ]) (hCont (gb189) _ ⟨hHeld, (bk BK182), (bk BK189), GW189.out, GE189.out, NB0_189.out, NB189_0.out, NB182_189.out, NB189_182.out, (by repeat (first | (with_reducible first | exact HI0.out | apply IsF36.alloc | apply IsF36.drewN | apply IsF36.drew | apply IsF36.set_0 | refine IsF36.far ?_ NB0_182.out _ | refine IsF36.far ?_ NB0_189.out _) | exact HI0.out)), (by repeat (first | (with_reducible first | exact HK.out | apply KeepBut.set_ | apply keep_drewN | apply keep_drew | apply keep_alloc | refine keep_far ?_ GW182.out _ | refine keep_far ?_ GW189.out _) | exact HK.out)), (by repeat (first | (with_reducible first | exact HB.out | apply below_alloc | apply pw_below_drewN | apply below_drew1 | refine below_set ?_ (IsF36.ge HI0.out) | refine below_set ?_ GE182.out | refine below_set ?_ GE189.out) | exact HB.out))⟩)
  ·skip
   refine box_step ?hg (N := 5) ?hd (cs := #[.int .i64 0, .int .i64 0]) (t := 44) ?hr ?_; (case hd => rfl); (case hg => rfl); (case hr => first | (go_simp; done) | (go_simp; rfl))
   intro gb189 hg w7 hbox hb
   have n0_ := Aside0.mk (IsF36.below (by repeat (first | (with_reducible first | exact HI0.out | apply IsF36.alloc | apply IsF36.drewN | apply IsF36.drew | apply IsF36.set_0 | refine IsF36.far ?_ NB0_182.out _) | exact HI0.out)) hb)
   have n1_ := bb BK182 hb
   have n2_ := Aside0.mk (KeepBut.trans (by repeat (first | (with_reducible first | exact HK.out | apply KeepBut.set_ | apply keep_drewN | apply keep_drew | apply keep_alloc | refine keep_far ?_ GW182.out _) | exact HK.out)) (KeepBut.of_below hb g none) (.inl rfl))
   have n3_ := Aside0.mk (below_step (by repeat (first | (with_reducible first | exact HB.out | apply below_alloc | apply pw_below_drewN | apply below_drew1 | refine below_set ?_ (IsF36.ge HI0.out) | refine below_set ?_ GE182.out) | exact HB.out)) hb)
   have n4_ := Aside0.mk (hbox)
   have n5_ := Aside0.mk ((by rw [hg]; exact (keep_size (w := w) (g := g) (row := none) (by repeat (first | (with_reducible first | exact HK.out | apply KeepBut.set_ | apply keep_drewN | apply keep_drew | apply keep_alloc | refine keep_far ?_ GW182.out _) | exact HK.out))) : w.heap.size ≤ gb189))
   have n6_ := Aside0.mk ((Nat.le_trans HW0.out (by rw [hg]; exact (keep_size (w := w) (g := g) (row := none) (by repeat (first | (with_reducible first | exact HK.out | apply KeepBut.set_ | apply keep_drewN | apply keep_drew | apply keep_alloc | refine keep_far ?_ GW182.out _) | exact HK.out))) : w.heap.size ≤ gb189) : w0.heap.size ≤ gb189))
   have n7_ := Aside0.mk ((by rw [hg]; exact Nat.ne_of_lt (blk_lt (g := gb182) (o := .cells #[.int .i64 0, .int .i64 0] 44 (0, 0)) (bk BK182)) : gb182 ≠ gb189))
   have n8_ := Aside0.mk ((by rw [hg]; exact Nat.ne_of_gt (blk_lt (g := gb182) (o := .cells #[.int .i64 0, .int .i64 0] 44 (0, 0)) (bk BK182)) : gb189 ≠ gb182))
   have n9_ := Aside0.mk ((by rw [hg]; exact Nat.ne_of_lt (IsF36.lt (show IsF36 B1_ b1_ B2_ b2_ w0 _ g s0_0 s0_1 s0_2 from by repeat (first | (with_reducible first | exact HI0.out | apply IsF36.alloc | apply IsF36.drewN | apply IsF36.drew | apply IsF36.set_0 | refine IsF36.far ?_ NB0_182.out _) | exact HI0.out))) : g ≠ gb189))
   have n10_ := Aside0.mk ((by rw [hg]; exact Nat.ne_of_gt (IsF36.lt (show IsF36 B1_ b1_ B2_ b2_ w0 _ g s0_0 s0_1 s0_2 from by repeat (first | (with_reducible first | exact HI0.out | apply IsF36.alloc | apply IsF36.drewN | apply IsF36.drew | apply IsF36.set_0 | refine IsF36.far ?_ NB0_182.out _) | exact HI0.out))) : gb189 ≠ g))
   clear HI0 BK182 HK HB
   have HI0 := n0_
   have BK182 := n1_
   have HK := n2_
   have HB := n3_
   have BK189 := n4_
   have GW189 := n5_
   have GE189 := n6_
   have NB182_189 := n7_
   have NB189_182 := n8_
   have NB0_189 := n9_
   have NB189_0 := n10_
   clear n0_ n1_ n2_ n3_ n4_ n5_ n6_ n7_ n8_ n9_ n10_ hb hbox hg
   refine hK.out _ _ ((show World.cell? _ ⟨g, 0, none⟩ = some (.int .i64 s0_0) from by obtain ⟨hq_, _⟩ := HI0.out; exact (blk_cell hq_ 0).trans rfl)) (fun hHeld => ?_)
   clear hK K
   refine norm_ (a' := ?_) ?_ ?_
   rotate_left
   ·show Act.put _ (some 5) _ = _
    simp only [Act.put, List.setIfInBounds_toArray, List.set_cons_zero, List.set_cons_succ, i64_w, i32_w]
    rfl
   refine one_ (i := 1) (N := some 9) #[tT, tT, tT, tT, tT, tT, fF, fF, fF, fF, tT, fF, fF] rfl rfl (one_of HT_.out kf) (by decide) (fun K hK => ?_)
   refine goes_ Try.func128 kf rfl #[.int .i64 a1] (by rfl) rfl rfl sm ?_
   with_reducible refine (impl_wideOf.calls a1 t183 t184 t185 _ A3.out).mono ?_
   rintro e w8 ⟨rfl, hb⟩
   refine ⟨_, rfl, ?_⟩
   have n0_ := Aside0.mk (IsF36.below (by repeat (first | (with_reducible first | exact HI0.out | apply IsF36.alloc | apply IsF36.drewN | apply IsF36.drew | apply IsF36.set_0 | refine IsF36.far ?_ NB0_182.out _ | refine IsF36.far ?_ NB0_189.out _) | exact HI0.out)) hb)
   have n1_ := bb BK182 hb
   have n2_ := bb BK189 hb
   have n3_ := Aside0.mk (KeepBut.trans (by repeat (first | (with_reducible first | exact HK.out | apply KeepBut.set_ | apply keep_drewN | apply keep_drew | apply keep_alloc | refine keep_far ?_ GW182.out _ | refine keep_far ?_ GW189.out _) | exact HK.out)) (KeepBut.of_below hb g none) (.inl rfl))
   have n4_ := Aside0.mk (below_step (by repeat (first | (with_reducible first | exact HB.out | apply below_alloc | apply pw_below_drewN | apply below_drew1 | refine below_set ?_ (IsF36.ge HI0.out) | refine below_set ?_ GE182.out | refine below_set ?_ GE189.out) | exact HB.out)) hb)
   clear HI0 BK182 BK189 HK HB
   have HI0 := n0_
   have BK182 := n1_
   have BK189 := n2_
   have HK := n3_
   have HB := n4_
   clear n0_ n1_ n2_ n3_ n4_
   (try clear hb)
   (try clear hb2)
   (try clear hk)
   (try clear hi)
   refine hK.out _ _ ((show World.cell? _ ⟨g, 0, none⟩ = some (.int .i64 s0_0) from by obtain ⟨hq_, _⟩ := HI0.out; exact (blk_cell hq_ 0).trans rfl)) (fun hHeld => ?_)
   clear hK K
   refine norm_ (a' := ?_) ?_ ?_
   rotate_left
   ·show Act.put _ (some 9) _ = _
    simp only [Act.put, List.setIfInBounds_toArray, List.set_cons_zero, List.set_cons_succ, i64_w, i32_w]
    rfl
   refine one_ (i := 6) (N := some 14) #[tT, tT, tT, tT, tT, tT, tT, fF, fF, fF, tT, fF, fF] rfl rfl (one_of HT_.out kf) (by decide) (fun K hK => ?_)
   refine goes_ Try.func131 kf rfl #[.agg #[.bool t183, .int .u64 t184, .int .u64 t185], .int .i64 s0_0] (by rfl) rfl rfl sm ?_
   with_reducible refine (impl_wide_fit.calls k t183 t184 t185 s0_0 t186 t187 t188 _ A4.out).mono ?_
   rintro e w9 ⟨rfl, hb⟩
   refine ⟨_, rfl, ?_⟩
   have n0_ := Aside0.mk (IsF36.below (by repeat (first | (with_reducible first | exact HI0.out | apply IsF36.alloc | apply IsF36.drewN | apply IsF36.drew | apply IsF36.set_0 | refine IsF36.far ?_ NB0_182.out _ | refine IsF36.far ?_ NB0_189.out _) | exact HI0.out)) hb)
   have n1_ := bb BK182 hb
   have n2_ := bb BK189 hb
   have n3_ := Aside0.mk (KeepBut.trans (by repeat (first | (with_reducible first | exact HK.out | apply KeepBut.set_ | apply keep_drewN | apply keep_drew | apply keep_alloc | refine keep_far ?_ GW182.out _ | refine keep_far ?_ GW189.out _) | exact HK.out)) (KeepBut.of_below hb g none) (.inl rfl))
   have n4_ := Aside0.mk (below_step (by repeat (first | (with_reducible first | exact HB.out | apply below_alloc | apply pw_below_drewN | apply below_drew1 | refine below_set ?_ (IsF36.ge HI0.out) | refine below_set ?_ GE182.out | refine below_set ?_ GE189.out) | exact HB.out)) hb)
   clear HI0 BK182 BK189 HK HB
   have HI0 := n0_
   have BK182 := n1_
   have BK189 := n2_
   have HK := n3_
   have HB := n4_
   clear n0_ n1_ n2_ n3_ n4_
   (try clear hb)
   (try clear hb2)
   (try clear hk)
   (try clear hi)
   refine hK.out _ _ ((show World.cell? _ ⟨g, 0, none⟩ = some (.int .i64 s0_0) from by obtain ⟨hq_, _⟩ := HI0.out; exact (blk_cell hq_ 0).trans rfl)) (fun hHeld => ?_)
   clear hK K
   refine norm_ (a' := ?_) ?_ ?_
   rotate_left
   ·show Act.put _ (some 14) _ = _
    simp only [Act.put, List.setIfInBounds_toArray, List.set_cons_zero, List.set_cons_succ, i64_w, i32_w]
    rfl
   refine pq (i := 7) (N := some 7) #[tT, tT, tT, tT, tT, tT, tT, tT, fF, fF, tT, fF, fF] rfl rfl HT_.out ?_
   refine pq (i := 8) (N := some 15) #[tT, tT, tT, tT, tT, tT, tT, tT, tT, fF, tT, fF, fF] rfl rfl HT_.out ?_
   refine pq (i := 9) (N := some 16) #[tT, tT, tT, tT, tT, tT, tT, tT, tT, tT, tT, fF, fF] rfl rfl HT_.out ?_
   exact norm_ (by simp only [putAll, Act.put, List.setIfInBounds_toArray, List.set_cons_zero, List.set_cons_succ]) (hCont (gb189) _ ⟨hHeld, (bk BK182), (bk BK189), GW189.out, GE189.out, NB0_189.out, NB189_0.out, NB182_189.out, NB189_182.out, (by repeat (first | (with_reducible first | exact HI0.out | apply IsF36.alloc | apply IsF36.drewN | apply IsF36.drew | apply IsF36.set_0 | refine IsF36.far ?_ NB0_182.out _ | refine IsF36.far ?_ NB0_189.out _) | exact HI0.out)), (by repeat (first | (with_reducible first | exact HK.out | apply KeepBut.set_ | apply keep_drewN | apply keep_drew | apply keep_alloc | refine keep_far ?_ GW182.out _ | refine keep_far ?_ GW189.out _) | exact HK.out)), (by repeat (first | (with_reducible first | exact HB.out | apply below_alloc | apply pw_below_drewN | apply below_drew1 | refine below_set ?_ (IsF36.ge HI0.out) | refine below_set ?_ GE182.out | refine below_set ?_ GE189.out) | exact HB.out))⟩)
 rintro gb189 w10 ⟨hS_, h0_, h1_, h2_, h3_, h4_, h5_, h6_, h7_, h8_, h9_, h10_⟩
 have n0_ : Aside0 (w10.heap[gb182]? = some (.cells #[.int .i64 0, .int .i64 0] 44 (0, 0))) := ⟨h0_⟩
 have n1_ : Aside0 (w10.heap[gb189]? = some (.cells #[.int .i64 0, .int .i64 0] 44 (0, 0))) := ⟨h1_⟩
 have n2_ : Aside0 (w.heap.size ≤ gb189) := ⟨h2_⟩
 have n3_ : Aside0 (w0.heap.size ≤ gb189) := ⟨h3_⟩
 have n4_ : Aside0 (g ≠ gb189) := ⟨h4_⟩
 have n5_ : Aside0 (gb189 ≠ g) := ⟨h5_⟩
 have n6_ : Aside0 (gb182 ≠ gb189) := ⟨h6_⟩
 have n7_ : Aside0 (gb189 ≠ gb182) := ⟨h7_⟩
 have n8_ : Aside0 (IsF36 B1_ b1_ B2_ b2_ w0 w10 g s0_0 s0_1 s0_2) := ⟨h8_⟩
 have n9_ : Aside0 (KeepBut w w10 g none) := ⟨h9_⟩
 have n10_ : Aside0 (Below w0.heap.size w0 w10) := ⟨h10_⟩
 clear BK182 HI0 HK HB h0_ h1_ h2_ h3_ h4_ h5_ h6_ h7_ h8_ h9_ h10_
 have BK182 := n0_
 have BK189 := n1_
 have GW189 := n2_
 have GE189 := n3_
 have NB0_189 := n4_
 have NB189_0 := n5_
 have NB182_189 := n6_
 have NB189_182 := n7_
 have HI0 := n8_
 have HK := n9_
 have HB := n10_
 clear n0_ n1_ n2_ n3_ n4_ n5_ n6_ n7_ n8_ n9_ n10_
 have hHeld : w10.cell? ⟨g, 0, none⟩ = some (.int .i64 s0_0) := hS_
 refine norm_ (a' := ?_) ?_ ?_
 rotate_left
 ·simp only [putAll, Act.put, List.setIfInBounds_toArray, List.set_cons_zero, List.set_cons_succ]
  rfl
 refine one_ (i := 11) (N := none) #[tT, tT, tT, tT, tT, tT, tT, tT, tT, tT, tT, tT, fF] rfl rfl (one_of HT_.out kf) (by decide) (fun K hK => ?_)
 have hs11 : w10.cell? ⟨gb189, 0, none⟩ = some (.int .i64 0) := (blk_cell BK189.out 0).trans rfl
 have hfs11 := blk_frozen BK189.out 0
 have hns11_0 := NB182_189.out
 have hms11_0 := NB189_182.out
 have hs12 : w10.cell? ⟨gb189, 1, none⟩ = some (.int .i64 0) := (blk_cell BK189.out 1).trans rfl
 have hfs12 := blk_frozen BK189.out 1
 have hns12_0 := NB182_189.out
 have hms12_0 := NB189_182.out
 refine skip_ (w1 := ?_) (by rfl) rfl ?_ ?_
 rotate_left
 ·go_simp
  rfl
 refine hK.out _ _ (((cell_far (p := ⟨gb189, _, none⟩) NB0_189.out _).trans (((cell_far (p := ⟨gb189, _, none⟩) NB0_189.out _).trans (hHeld))))) (fun hHeld => ?_)
 clear hK K
 refine pq (i := 12) (N := some 6) #[tT, tT, tT, tT, tT, tT, tT, tT, tT, tT, tT, tT, tT] rfl rfl HT_.out ?_
 refine done_ (done_of HT_.out kf) ?_
 have hnb13 := NB189_182.out
 have hnc13 := NB182_189.out
 have hnb14 := NB189_0.out
 have hnc14 := NB0_189.out
 have hcz15_0 : w10.cell? ⟨gb189, 0, none⟩ = some (.int .i64 0) := (blk_cell BK189.out 0).trans rfl
 have hcz15_1 : w10.cell? ⟨gb189, 1, none⟩ = some (.int .i64 0) := (blk_cell BK189.out 1).trans rfl
 have hfz15_0 := blk_frozen BK189.out 0
 have hfz15_1 := blk_frozen BK189.out 1
 have hnb16 := NB182_0.out
 have hnc16 := NB0_182.out
 have hcz17_0 : w10.cell? ⟨gb182, 0, none⟩ = some (.int .i64 0) := (blk_cell BK182.out 0).trans rfl
 have hcz17_1 : w10.cell? ⟨gb182, 1, none⟩ = some (.int .i64 0) := (blk_cell BK182.out 1).trans rfl
 have hfz17_0 := blk_frozen BK182.out 0
 have hfz17_1 := blk_frozen BK182.out 1
 try go_wp2
 refine bodyPost_ret (results_cell_row rfl _ _ gb182 44 #[.int .i64 t186, .int .i64 t187] (0, 0) _ rfl (by (with_reducible repeat (first | refine blk_drewN ?_ _ | refine blk_drew ?_ | refine blk_alloc ?_ _)); refine blk_put (cs := #[.int .i64 t186, .int .i64 0]) ?_ 1 _ rfl; (with_reducible repeat (first | refine blk_drewN ?_ _ | refine blk_drew ?_ | refine blk_alloc ?_ _)); refine blk_put (cs := #[.int .i64 0, .int .i64 0]) ?_ 0 _ rfl; (with_reducible repeat (first | refine blk_drewN ?_ _ | refine blk_drew ?_ | refine blk_alloc ?_ _)); refine blk_far ?_ NB182_189.out _; (with_reducible repeat (first | refine blk_drewN ?_ _ | refine blk_drew ?_ | refine blk_alloc ?_ _)); refine blk_far ?_ NB182_189.out _; (with_reducible repeat (first | refine blk_drewN ?_ _ | refine blk_drew ?_ | refine blk_alloc ?_ _)); exact BK182.out) Try.underlying44 rfl kf) rfl ?_
 exact ⟨er, by repeat (first | (with_reducible first | exact HI0.out | apply IsF36.alloc | apply IsF36.drewN | apply IsF36.drew | apply IsF36.set_0 | refine IsF36.far ?_ NB0_182.out _ | refine IsF36.far ?_ NB0_189.out _) | exact HI0.out), by repeat (first | (with_reducible first | exact HB.out | apply below_alloc | apply pw_below_drewN | apply below_drew1 | refine below_set ?_ (IsF36.ge HI0.out) | refine below_set ?_ GE182.out | refine below_set ?_ GE189.out) | exact HB.out), by repeat (first | (with_reducible first | exact HK.out | apply KeepBut.set_ | apply keep_drewN | apply keep_drew | apply keep_alloc | refine keep_far ?_ GW182.out _ | refine keep_far ?_ GW189.out _) | exact HK.out)⟩
theorem impl_Box_dyadic.callsB (k : Nat) (g : Nat) (B1_ : Option Addr) (b1_ : Nat) (B2_ : Option Addr) (b2_ : Nat) (s0_0 : Int) (s0_1 : List Int) (s0_2 : List Int) (a1 : Int) (r1 : Int) (r2 : Int) (r3 : Int) (w0 w : World) (hI : IsF36 B1_ b1_ B2_ b2_ w0 w g s0_0 s0_1 s0_2) (hB : Below w0.heap.size w0 w) (h : impl_Box_dyadic.f k s0_0 s0_1 s0_2 a1 = some (r1, r2, r3)) :
 Calls Try.prog 114 #[.pointer (some ⟨g, 0, none⟩), .int .i64 a1] w fun e w' => e = .returned (.agg #[.int .i64 r1, .int .i64 r2]) ∧ Below w.heap.size w w' := by
 refine (impl_Box_dyadic.callsF k g B1_ b1_ B2_ b2_ s0_0 s0_1 s0_2 a1 r1 r2 r3 w0 w hI hB h).mono ?_
 rintro e w' ⟨h0, i1_, i2_, i3_⟩
 refine ⟨h0, i2_.os.trans hB.os.symm, i2_.tape.trans hB.tape.symm, i2_.output.trans hB.output.symm, i3_.1, fun i hi => ?_⟩
 by_cases hg : i = g
 ·rw [hg]; exact i1_.1.trans hI.1.symm
 ·exact i3_.2 i hi hg (by simp)
theorem impl_Box_side.elem {w0 w : World} {ad : Addr} {l : List Int} {x : Int} (hr : Kd.C (Kd.int .i64) w0 (some ad) l.length l) (hB : Below w0.heap.size w0 w) (h0 : 0 ≤ x) (h1 : x < (l.length : Int)) : w.cell? (ad.add x.toNat) = some (.int .i64 (rd l x)) := by
 obtain ⟨ad', e', hx⟩ := Kd.at_int (Kd.C_below hr hB) x h0 h1
 injection e' with e'
 subst e'
 exact hx
def impl_Box_side.f (k : Nat) (s0_0 : Int) (s0_1 : List Int) (s0_2 : List Int) (a1 : Int) : Option (Int × Int × Int × Int × Int) := if 0 ≤ a1 then (if a1 < (s0_1.length : Int) then (if a1 < (s0_2.length : Int) then ((impl_Box_dyadic.f k s0_0 s0_1 s0_2 (rd s0_1 a1)).bind fun bt1 => ((impl_Box_dyadic.f k s0_0 s0_1 s0_2 (rd s0_2 a1)).bind fun bt2 => (some (bt1.1, bt1.2.1, bt2.1, bt2.2.1, s0_0)))) else none) else none) else none
set_option maxHeartbeats 8000000 in
set_option maxRecDepth 100000 in
theorem impl_Box_side.callsF (k : Nat) (g : Nat) (B1_ : Option Addr) (b1_ : Nat) (B2_ : Option Addr) (b2_ : Nat) (s0_0 : Int) (s0_1 : List Int) (s0_2 : List Int) (a1 : Int) (r1 : Int) (r2 : Int) (r3 : Int) (r4 : Int) (r5 : Int) (w0 w : World) (hI : IsF36 B1_ b1_ B2_ b2_ w0 w g s0_0 s0_1 s0_2) (hB : Below w0.heap.size w0 w) (h : impl_Box_side.f k s0_0 s0_1 s0_2 a1 = some (r1, r2, r3, r4, r5)) :
 Calls Try.prog 74 #[.pointer (some ⟨g, 0, none⟩), .int .i64 a1] w fun e w' => e = .returned (.tuple #[.agg #[.int .i64 r1, .int .i64 r2], .agg #[.int .i64 r3, .int .i64 r4]]) ∧ IsF36 B1_ b1_ B2_ b2_ w0 w' g s0_0 s0_1 s0_2 ∧ Below w0.heap.size w0 w' ∧ KeepBut w w' g none := by
 have hu44 := Try.underlying44
 obtain ⟨hb0, hg0, hr1, hr2⟩ := hI
 unfold impl_Box_side.f at h
 by_cases c1 : 0 ≤ a1
 rotate_left
 ·rw [if_neg c1] at h; cases h
 rw [if_pos c1] at h
 by_cases c2 : a1 < (s0_1.length : Int)
 rotate_left
 ·rw [if_neg c2] at h; cases h
 rw [if_pos c2] at h
 by_cases c3 : a1 < (s0_2.length : Int)
 rotate_left
 ·rw [if_neg c3] at h; cases h
 rw [if_pos c3] at h
 obtain ⟨⟨t1, t2, t3⟩, A10, h⟩ := Option.bind_eq_some_iff.mp h
 have A1 := Aside0.mk A10
 obtain ⟨⟨t4, t5, t6⟩, A20, h⟩ := Option.bind_eq_some_iff.mp h
 have A2 := Aside0.mk A20
 simp only [Option.some.injEq, Prod.mk.injEq] at h
 obtain ⟨rfl, rfl, rfl, rfl, rfl⟩ := h
 obtain ⟨ad1, e1, _⟩ := Kd.at_int hr1 a1 c1 c2
 obtain ⟨ad2, e2, _⟩ := Kd.at_int hr2 a1 c1 c3
 subst e1; subst e2
 have HI0 := Aside0.mk (⟨hb0, hg0, hr1, hr2⟩ : IsF36 (some ad1) b1_ (some ad2) b2_ w0 w g s0_0 s0_1 s0_2)
 have HR1 := Aside0.mk hr1
 have HR2 := Aside0.mk hr2
 have HK := Aside0.mk (KeepBut.refl w g none)
 have HW0 := Aside0.mk hB.size
 have HB := Aside0.mk hB
 have C1 := Aside0.mk c1
 have C2 := Aside0.mk c2
 have C3 := Aside0.mk c3
 have p1 := eq_true c1
 have p2 := eq_true c2
 have p3 := eq_true c3
 clear hb0 hg0 hr1 hr2 hB c1 c2 c3 A10 A20
 go_enter Try.func74, Try.ntmps74
 try go_wp2_with (first | ((with_reducible refine gate_dst (N := 4) rfl ?_); refine bv (N := 4) (cs := #[.int .i64 0, .int .i64 0]) (t := 44) ?_; intro ga hg w4 hbox hb; have n0_ := Aside0.mk (IsF36.below (by repeat (first | (with_reducible first | exact HI0.out | apply IsF36.alloc | apply IsF36.drewN | apply IsF36.drew) | exact HI0.out)) hb); have n1_ := Aside0.mk (KeepBut.trans (by repeat (first | (with_reducible first | exact HK.out | apply keep_drewN | apply keep_drew | apply keep_alloc) | exact HK.out)) (KeepBut.of_below hb g none) (.inl rfl)); have n2_ := Aside0.mk (below_step bz hb); have n3_ := Aside0.mk (hbox); have n4_ := Aside0.mk ((by rw [hg]; exact (keep_size (w := w) (g := g) (row := none) (by repeat (first | (with_reducible first | exact HK.out | apply keep_drewN | apply keep_drew | apply keep_alloc) | exact HK.out)))) : w.heap.size ≤ ga); have n5_ := Aside0.mk ((Nat.le_trans HW0.out n4_.out) : w0.heap.size ≤ ga); have n6_ := Aside0.mk ((by rw [hg]; exact Nat.ne_of_lt (IsF36.lt (show IsF36 (some ad1) b1_ (some ad2) b2_ w0 _ g s0_0 s0_1 s0_2 from (by repeat (first | (with_reducible first | exact HI0.out | apply IsF36.alloc | apply IsF36.drewN | apply IsF36.drew) | exact HI0.out))))) : g ≠ ga); clear HI0 HK HB; have HI0 := n0_; have HK := n1_; have HB := n2_; have BK4 := n3_; have GW4 := n4_; have GE4 := n5_; have NG4 := n6_; clear n0_ n1_ n2_ n3_ n4_ n5_ n6_ hb hbox hg) | ((with_reducible refine gate_dst (N := 5) rfl ?_); refine bv (N := 5) (cs := #[.int .i64 0, .int .i64 0]) (t := 44) ?_; intro gb hg w5 hbox hb; have n0_ := Aside0.mk (IsF36.below (by repeat (first | (with_reducible first | exact HI0.out | apply IsF36.alloc | apply IsF36.drewN | apply IsF36.drew) | exact HI0.out)) hb); have n1_ := Aside0.mk (KeepBut.trans (by repeat (first | (with_reducible first | exact HK.out | apply keep_drewN | apply keep_drew | apply keep_alloc) | exact HK.out)) (KeepBut.of_below hb g none) (.inl rfl)); have n2_ := Aside0.mk (below_step bz hb); have n3_ := Aside0.mk (hbox); have n4_ := Aside0.mk ((by rw [hg]; exact (keep_size (w := w) (g := g) (row := none) (by repeat (first | (with_reducible first | exact HK.out | apply keep_drewN | apply keep_drew | apply keep_alloc) | exact HK.out)))) : w.heap.size ≤ gb); have n5_ := Aside0.mk ((Nat.le_trans HW0.out n4_.out) : w0.heap.size ≤ gb); have n6_ := Aside0.mk ((by rw [hg]; exact Nat.ne_of_lt (IsF36.lt (show IsF36 (some ad1) b1_ (some ad2) b2_ w0 _ g s0_0 s0_1 s0_2 from (by repeat (first | (with_reducible first | exact HI0.out | apply IsF36.alloc | apply IsF36.drewN | apply IsF36.drew) | exact HI0.out))))) : g ≠ gb); have n7_ := bb BK4 hb; have n8_ := Aside0.mk ((by rw [hg]; exact Nat.ne_of_lt (blk_lt (g := ga) (o := .cells #[.int .i64 0, .int .i64 0] 44 (0, 0)) (bk BK4))) : ga ≠ gb); clear HI0 HK HB; clear BK4; have HI0 := n0_; have HK := n1_; have HB := n2_; have BK5 := n3_; have GW5 := n4_; have GE5 := n5_; have NG5 := n6_; have BK4 := n7_; have NB := n8_; clear n7_ n8_; clear n0_ n1_ n2_ n3_ n4_ n5_ n6_ hb hbox hg))
 have n0_ := Aside0.mk (blk_drew BK4.out); have n1_ := Aside0.mk (blk_drew BK5.out); have n2_ := Aside0.mk (IsF36.drew HI0.out); have n3_ := Aside0.mk (keep_drew HK.out); have n4_ := Aside0.mk (below_drew1 HB.out)
 clear BK4 BK5 HI0 HK HB
 have BK4 := n0_; have BK5 := n1_; have HI0 := n2_; have HK := n3_; have HB := n4_
 clear n0_ n1_ n2_ n3_ n4_
 refine start_ (n := 20) (S := fun w' => w'.cell? ⟨g, 1, none⟩ = some (.slice (some ad1) s0_1.length b1_) ∧ w'.cell? ⟨g, 2, none⟩ = some (.slice (some ad2) s0_2.length b2_) ∧ w'.cell? (ad1.add a1.toNat) = some (.int .i64 (rd s0_1 a1)) ∧ w'.cell? (ad2.add a1.toNat) = some (.int .i64 (rd s0_2 a1))) (ds := [18, 19]) #[fF, fF, fF, fF, fF, fF, fF, fF, fF, fF, fF, fF, fF, fF, fF, fF, fF, fF, fF, fF] kf rfl rfl ⟨((blk_cell HI0.out.1 1).trans rfl), ((blk_cell HI0.out.1 2).trans rfl), (impl_Box_side.elem HR1.out HB.out C1.out C2.out), (impl_Box_side.elem HR2.out HB.out C1.out C3.out)⟩ (fun hHeld => ?_)
 refine pure_ (i := 0) (N := some 6) (v := ?_) (a' := ?_) #[tT, fF, fF, fF, fF, fF, fF, fF, fF, fF, fF, fF, fF, fF, fF, fF, fF, fF, fF, fF] rfl rfl kf (fun _ _ _ h => h) (Or.inl ⟨by rfl, ?_⟩) ?_ ?_
 rotate_left
 ·intro w'
  go_simp
  with_reducible rfl
 rotate_left
 ·simp only [Act.put, List.setIfInBounds_toArray, List.set_cons_zero, List.set_cons_succ, i64_w, i32_w]
  rfl
 refine pure_ (i := 1) (N := some 7) (v := ?_) (a' := ?_) #[tT, tT, fF, fF, fF, fF, fF, fF, fF, fF, fF, fF, fF, fF, fF, fF, fF, fF, fF, fF] rfl rfl kf (fun _ _ _ h => h) (Or.inl ⟨by rfl, ?_⟩) ?_ ?_
 rotate_left
 ·intro w'
  go_simp
  with_reducible rfl
 rotate_left
 ·simp only [Act.put, List.setIfInBounds_toArray, List.set_cons_zero, List.set_cons_succ, i64_w, i32_w]
  rfl
 refine pure_ (i := 2) (N := some 8) (v := ?_) (a' := ?_) #[tT, tT, tT, fF, fF, fF, fF, fF, fF, fF, fF, fF, fF, fF, fF, fF, fF, fF, fF, fF] rfl rfl kf (fun _ _ _ h => h) (Or.inl ⟨by rfl, ?_⟩) ?_ ?_
 rotate_left
 ·intro w'
  go_simp
  with_reducible rfl
 rotate_left
 ·simp only [Act.put, List.setIfInBounds_toArray, List.set_cons_zero, List.set_cons_succ, i64_w, i32_w]
  rfl
 refine pure_ (i := 3) (N := some 9) (v := ?_) (a' := ?_) #[tT, tT, tT, tT, fF, fF, fF, fF, fF, fF, fF, fF, fF, fF, fF, fF, fF, fF, fF, fF] rfl rfl kf (fun _ _ _ h => h) (Or.inl ⟨by rfl, ?_⟩) ?_ ?_
 rotate_left
 ·intro w'
  go_simp
  with_reducible rfl
 rotate_left
 ·simp only [Act.put, List.setIfInBounds_toArray, List.set_cons_zero, List.set_cons_succ, i64_w, i32_w]
  rfl
 refine pure_ (i := 5) (N := some 11) (v := ?_) (a' := ?_) #[tT, tT, tT, tT, fF, tT, fF, fF, fF, fF, fF, fF, fF, fF, fF, fF, fF, fF, fF, fF] rfl rfl kf (fun _ _ _ h => h) (Or.inl ⟨by rfl, ?_⟩) ?_ ?_
 rotate_left
 ·intro w'
  go_simp
  with_reducible rfl
 rotate_left
 ·simp only [Act.put, List.setIfInBounds_toArray, List.set_cons_zero, List.set_cons_succ, i64_w, i32_w]
  rfl
 refine pure_ (i := 9) (N := some 15) (v := ?_) (a' := ?_) #[tT, tT, tT, tT, fF, tT, fF, fF, fF, tT, fF, fF, fF, fF, fF, fF, fF, fF, fF, fF] rfl rfl kf (fun _ _ _ h => h) (Or.inl ⟨by rfl, ?_⟩) ?_ ?_
 rotate_left
 ·intro w'
  go_simp
  with_reducible rfl
 rotate_left
 ·simp only [Act.put, List.setIfInBounds_toArray, List.set_cons_zero, List.set_cons_succ, i64_w, i32_w]
  rfl
 refine pure_ (i := 10) (N := some 16) (v := ?_) (a' := ?_) #[tT, tT, tT, tT, fF, tT, fF, fF, fF, tT, tT, fF, fF, fF, fF, fF, fF, fF, fF, fF] rfl rfl kf (fun _ _ _ h => h) (Or.inl ⟨by rfl, ?_⟩) ?_ ?_
 rotate_left
 ·intro w'
  go_simp
  with_reducible rfl
 rotate_left
 ·simp only [Act.put, List.setIfInBounds_toArray, List.set_cons_zero, List.set_cons_succ, i64_w, i32_w]
  rfl
 refine pure_ (i := 11) (N := some 17) (v := ?_) (a' := ?_) #[tT, tT, tT, tT, fF, tT, fF, fF, fF, tT, tT, tT, fF, fF, fF, fF, fF, fF, fF, fF] rfl rfl kf (fun _ _ _ h => h) (Or.inl ⟨by rfl, ?_⟩) ?_ ?_
 rotate_left
 ·intro w'
  go_simp
  with_reducible rfl
 rotate_left
 ·simp only [Act.put, List.setIfInBounds_toArray, List.set_cons_zero, List.set_cons_succ, i64_w, i32_w]
  rfl
 refine pure_ (i := 12) (N := some 18) (v := ?_) (a' := ?_) #[tT, tT, tT, tT, fF, tT, fF, fF, fF, tT, tT, tT, tT, fF, fF, fF, fF, fF, fF, fF] rfl rfl kf (fun _ _ _ h => h) (Or.inl ⟨by rfl, ?_⟩) ?_ ?_
 rotate_left
 ·intro w'
  go_simp
  with_reducible rfl
 rotate_left
 ·simp only [Act.put, List.setIfInBounds_toArray, List.set_cons_zero, List.set_cons_succ, i64_w, i32_w]
  rfl
 refine pure_ (i := 14) (N := some 20) (v := ?_) (a' := ?_) #[tT, tT, tT, tT, fF, tT, fF, fF, fF, tT, tT, tT, tT, fF, tT, fF, fF, fF, fF, fF] rfl rfl kf (fun _ _ _ h => h) (Or.inl ⟨by rfl, ?_⟩) ?_ ?_
 rotate_left
 ·intro w'
  go_simp
  with_reducible rfl
 rotate_left
 ·simp only [Act.put, List.setIfInBounds_toArray, List.set_cons_zero, List.set_cons_succ, i64_w, i32_w]
  rfl
 refine take_ (i := 4) (N := some 10) (v := ?_) (a' := ?_) #[tT, tT, tT, tT, tT, tT, fF, fF, fF, tT, tT, tT, tT, fF, tT, fF, fF, fF, fF, fF] rfl rfl kf (fun _ _ _ h => h) (Or.inl ⟨by rfl, ?_⟩) hHeld ?_ ?_
 rotate_left
 ·rintro w' ⟨s0, s1, s2, s3⟩
  go_simp
  with_reducible rfl
 rotate_left
 ·simp only [Act.put, List.setIfInBounds_toArray, List.set_cons_zero, List.set_cons_succ, i64_w, i32_w]
  rfl
 refine pure_ (i := 6) (N := some 12) (v := ?_) (a' := ?_) #[tT, tT, tT, tT, tT, tT, tT, fF, fF, tT, tT, tT, tT, fF, tT, fF, fF, fF, fF, fF] rfl rfl kf (fun _ _ _ h => h) (Or.inl ⟨by rfl, ?_⟩) ?_ ?_
 rotate_left
 ·intro w'
  go_simp
  with_reducible rfl
 rotate_left
 ·simp only [Act.put, List.setIfInBounds_toArray, List.set_cons_zero, List.set_cons_succ, i64_w, i32_w]
  rfl
 refine take_ (i := 7) (N := some 13) (v := ?_) (a' := ?_) #[tT, tT, tT, tT, tT, tT, tT, tT, fF, tT, tT, tT, tT, fF, tT, fF, fF, fF, fF, fF] rfl rfl kf (fun _ _ _ h => h) (Or.inl ⟨by rfl, ?_⟩) hHeld ?_ ?_
 rotate_left
 ·rintro w' ⟨s0, s1, s2, s3⟩
  go_simp
  with_reducible rfl
 rotate_left
 ·simp only [Act.put, List.setIfInBounds_toArray, List.set_cons_zero, List.set_cons_succ, i64_w, i32_w]
  rfl
 refine take_ (i := 13) (N := some 19) (v := ?_) (a' := ?_) #[tT, tT, tT, tT, tT, tT, tT, tT, fF, tT, tT, tT, tT, tT, tT, fF, fF, fF, fF, fF] rfl rfl kf (fun _ _ _ h => h) (Or.inl ⟨by rfl, ?_⟩) hHeld ?_ ?_
 rotate_left
 ·rintro w' ⟨s0, s1, s2, s3⟩
  go_simp
  with_reducible rfl
 rotate_left
 ·simp only [Act.put, List.setIfInBounds_toArray, List.set_cons_zero, List.set_cons_succ, i64_w, i32_w]
  rfl
 refine pure_ (i := 15) (N := some 21) (v := ?_) (a' := ?_) #[tT, tT, tT, tT, tT, tT, tT, tT, fF, tT, tT, tT, tT, tT, tT, tT, fF, fF, fF, fF] rfl rfl kf (fun _ _ _ h => h) (Or.inl ⟨by rfl, ?_⟩) ?_ ?_
 rotate_left
 ·intro w'
  go_simp
  with_reducible rfl
 rotate_left
 ·simp only [Act.put, List.setIfInBounds_toArray, List.set_cons_zero, List.set_cons_succ, i64_w, i32_w]
  rfl
 refine take_ (i := 16) (N := some 22) (v := ?_) (a' := ?_) #[tT, tT, tT, tT, tT, tT, tT, tT, fF, tT, tT, tT, tT, tT, tT, tT, tT, fF, fF, fF] rfl rfl kf (fun _ _ _ h => h) (Or.inl ⟨by rfl, ?_⟩) hHeld ?_ ?_
 rotate_left
 ·rintro w' ⟨s0, s1, s2, s3⟩
  go_simp
  with_reducible rfl
 rotate_left
 ·simp only [Act.put, List.setIfInBounds_toArray, List.set_cons_zero, List.set_cons_succ, i64_w, i32_w]
  rfl
 refine one_ (i := 8) (N := some 14) #[tT, tT, tT, tT, tT, tT, tT, tT, tT, tT, tT, tT, tT, tT, tT, tT, tT, fF, fF, fF] rfl rfl kf (by decide) (fun K hK => ?_)
 refine goes_ Try.func114 kf rfl #[.pointer (some ⟨g, 0, none⟩), .int .i64 (rd s0_1 a1)] (by rfl) rfl rfl (by (try simp only [List.map_toArray, List.map_cons, List.map_nil]); first | done | rfl) ?_
 with_reducible refine (impl_Box_dyadic.callsB k g (some ad1) b1_ (some ad2) b2_ s0_0 s0_1 s0_2 (rd s0_1 a1) t1 t2 t3 w0 _ HI0.out HB.out A1.out).mono ?_
 rintro e w8 ⟨rfl, hb⟩
 refine ⟨_, rfl, ?_⟩
 have n0_ := Aside0.mk (blk_below BK4.out hb); have n1_ := Aside0.mk (blk_below BK5.out hb); have n2_ := Aside0.mk (IsF36.below HI0.out hb); have n3_ := Aside0.mk (KeepBut.trans HK.out (KeepBut.of_below hb g none) (.inl rfl)); have n4_ := Aside0.mk (below_step HB.out hb)
 clear BK4 BK5 HI0 HK HB hb
 have BK4 := n0_; have BK5 := n1_; have HI0 := n2_; have HK := n3_; have HB := n4_
 clear n0_ n1_ n2_ n3_ n4_
 refine hK.out _ _ ⟨((blk_cell HI0.out.1 1).trans rfl), ((blk_cell HI0.out.1 2).trans rfl), (impl_Box_side.elem HR1.out HB.out C1.out C2.out), (impl_Box_side.elem HR2.out HB.out C1.out C3.out)⟩ (fun hHeld => ?_)
 clear hK K
 refine norm_ (a' := ?_) ?_ ?_
 rotate_left
 ·show Act.put _ (some 14) _ = _
  simp only [Act.put, List.setIfInBounds_toArray, List.set_cons_zero, List.set_cons_succ, i64_w, i32_w]
  rfl
 refine one_ (i := 17) (N := some 23) #[tT, tT, tT, tT, tT, tT, tT, tT, tT, tT, tT, tT, tT, tT, tT, tT, tT, tT, fF, fF] rfl rfl kf (by decide) (fun K hK => ?_)
 refine goes_ Try.func114 kf rfl #[.pointer (some ⟨g, 0, none⟩), .int .i64 (rd s0_2 a1)] (by rfl) rfl rfl (by (try simp only [List.map_toArray, List.map_cons, List.map_nil]); first | done | rfl) ?_
 with_reducible refine (impl_Box_dyadic.callsB k g (some ad1) b1_ (some ad2) b2_ s0_0 s0_1 s0_2 (rd s0_2 a1) t4 t5 t6 w0 _ HI0.out HB.out A2.out).mono ?_
 rintro e w9 ⟨rfl, hb⟩
 refine ⟨_, rfl, ?_⟩
 have n0_ := Aside0.mk (blk_below BK4.out hb); have n1_ := Aside0.mk (blk_below BK5.out hb); have n2_ := Aside0.mk (IsF36.below HI0.out hb); have n3_ := Aside0.mk (KeepBut.trans HK.out (KeepBut.of_below hb g none) (.inl rfl)); have n4_ := Aside0.mk (below_step HB.out hb)
 clear BK4 BK5 HI0 HK HB hb
 have BK4 := n0_; have BK5 := n1_; have HI0 := n2_; have HK := n3_; have HB := n4_
 clear n0_ n1_ n2_ n3_ n4_
 refine hK.out _ _ ⟨((blk_cell HI0.out.1 1).trans rfl), ((blk_cell HI0.out.1 2).trans rfl), (impl_Box_side.elem HR1.out HB.out C1.out C2.out), (impl_Box_side.elem HR2.out HB.out C1.out C3.out)⟩ (fun hHeld => ?_)
 clear hK K
 refine norm_ (a' := ?_) ?_ ?_
 rotate_left
 ·show Act.put _ (some 23) _ = _
  simp only [Act.put, List.setIfInBounds_toArray, List.set_cons_zero, List.set_cons_succ, i64_w, i32_w]
  rfl
 refine last_ (i := 18) (N := none) #[tT, tT, tT, tT, tT, tT, tT, tT, tT, tT, tT, tT, tT, tT, tT, tT, tT, tT, tT, fF] rfl rfl kf (by decide) (fun K hK => ?_)
 have hs4_0 : w9.cell? ⟨ga, 0, none⟩ = some (.int .i64 0) := (blk_cell BK4.out 0).trans rfl
 have hs4_1 : w9.cell? ⟨ga, 1, none⟩ = some (.int .i64 0) := (blk_cell BK4.out 1).trans rfl
 have hf4_0 := blk_frozen BK4.out 0
 have hf4_1 := blk_frozen BK4.out 1
 have hs5_0 : w9.cell? ⟨gb, 0, none⟩ = some (.int .i64 0) := (blk_cell BK5.out 0).trans rfl
 have hs5_1 : w9.cell? ⟨gb, 1, none⟩ = some (.int .i64 0) := (blk_cell BK5.out 1).trans rfl
 have hf5_0 := blk_frozen BK5.out 0
 have hf5_1 := blk_frozen BK5.out 1
 have hne_ := NB.out
 have hne2_ := Ne.symm NB.out
 refine skip_ (w1 := ?_) (by rfl) rfl ?_ ?_
 rotate_left
 ·go_simp
  rfl
 refine hK.out _ _ ?_
 clear hK K
 refine last_ (i := 19) (N := none) #[tT, tT, tT, tT, tT, tT, tT, tT, tT, tT, tT, tT, tT, tT, tT, tT, tT, tT, tT, tT] rfl rfl kf (by decide) (fun K hK => ?_)
 refine skip_ (w1 := ?_) (by rfl) rfl ?_ ?_
 rotate_left
 ·go_simp
  rfl
 refine hK.out _ _ ?_
 clear hK K
 refine done_ kf ?_
 try go_wp2
 refine bodyPost_ret (results_cc rfl _ _ ga gb 44 44 #[.int .i64 t1, .int .i64 t2] #[.int .i64 t4, .int .i64 t5] (0, 0) (0, 0) _ _ rfl (by refine blk_far ?_ NB.out _; refine blk_far ?_ NB.out _; refine blk_put (cs := #[.int .i64 t1, .int .i64 0]) ?_ 1 _ rfl; refine blk_put (cs := #[.int .i64 0, .int .i64 0]) ?_ 0 _ rfl; exact BK4.out) Try.underlying44 rfl kf rfl (by refine blk_put (cs := #[.int .i64 t4, .int .i64 0]) ?_ 1 _ rfl; refine blk_put (cs := #[.int .i64 0, .int .i64 0]) ?_ 0 _ rfl; refine blk_far ?_ (Ne.symm NB.out) _; refine blk_far ?_ (Ne.symm NB.out) _; exact BK5.out) Try.underlying44 rfl kf) rfl ?_
 have hF : IsF36 (some ad1) b1_ (some ad2) b2_ w0 (w9.setCell ⟨ga, 0, none⟩ (.int .i64 t1) |>.setCell ⟨ga, 1, none⟩ (.int .i64 t2) |>.setCell ⟨gb, 0, none⟩ (.int .i64 t4) |>.setCell ⟨gb, 1, none⟩ (.int .i64 t5)) g s0_0 s0_1 s0_2 := (((HI0.out.far (p := ⟨ga, 0, none⟩) NG4.out _).far (p := ⟨ga, 1, none⟩) NG4.out _).far (p := ⟨gb, 0, none⟩) NG5.out _).far (p := ⟨gb, 1, none⟩) NG5.out _
 refine ⟨rfl, hF, ?_, ?_⟩
 ·refine below_set (below_set (below_set (below_set HB.out GE4.out) GE4.out) GE5.out) GE5.out
 ·refine keep_far (keep_far (keep_far (keep_far HK.out (p := ⟨ga, 0, none⟩) GW4.out _) (p := ⟨ga, 1, none⟩) GW4.out _) (p := ⟨gb, 0, none⟩) GW5.out _) (p := ⟨gb, 1, none⟩) GW5.out _
theorem impl_Box_side.callsB (k : Nat) (g : Nat) (B1_ : Option Addr) (b1_ : Nat) (B2_ : Option Addr) (b2_ : Nat) (s0_0 : Int) (s0_1 : List Int) (s0_2 : List Int) (a1 : Int) (r1 : Int) (r2 : Int) (r3 : Int) (r4 : Int) (r5 : Int) (w0 w : World) (hI : IsF36 B1_ b1_ B2_ b2_ w0 w g s0_0 s0_1 s0_2) (hB : Below w0.heap.size w0 w) (h : impl_Box_side.f k s0_0 s0_1 s0_2 a1 = some (r1, r2, r3, r4, r5)) :
 Calls Try.prog 74 #[.pointer (some ⟨g, 0, none⟩), .int .i64 a1] w fun e w' => e = .returned (.tuple #[.agg #[.int .i64 r1, .int .i64 r2], .agg #[.int .i64 r3, .int .i64 r4]]) ∧ Below w.heap.size w w' := by
 refine (impl_Box_side.callsF k g B1_ b1_ B2_ b2_ s0_0 s0_1 s0_2 a1 r1 r2 r3 r4 r5 w0 w hI hB h).mono ?_
 rintro e w' ⟨h0, i1_, i2_, i3_⟩
 refine ⟨h0, i2_.os.trans hB.os.symm, i2_.tape.trans hB.tape.symm, i2_.output.trans hB.output.symm, i3_.1, fun i hi => ?_⟩
 by_cases hg : i = g
 ·rw [hg]; exact i1_.1.trans hI.1.symm
 ·exact i3_.2 i hi hg (by simp)
def cmp_Or_int.l0 : Nat → Int → List Int → Int → Int → Option (Int)
 | 0, _, _, _, _ => none
 | k + 1, x3, x6, x7, x8 => if x8 < x7 then (if 0 ≤ x8 then (if x8 < (x6.length : Int) then (if (rd x6 x8) = x3 then (cmp_Or_int.l0 k x3 x6 x7 (wrap64 (x8 + 1))) else (some (rd x6 x8))) else (none)) else (none)) else (some x3)
def cmp_Or_int.f (k : Nat) (l0 : List Int) : Option (Int) := cmp_Or_int.l0 k 0 l0 (l0.length : Int) 0
set_option maxHeartbeats 8000000 in
set_option maxRecDepth 100000 in
theorem cmp_Or_int.calls (k : Nat) (A0 : Option Addr) (c0 : Nat) (l0 : List Int) (r : Int) (w : World) (hr0 : Kd.C (Kd.int .i64) w A0 l0.length l0) (hc0 : l0.length ≤ c0) (h : cmp_Or_int.f k l0 = some r) :
 Calls Try.prog 150 #[.slice A0 l0.length c0] w fun e w' => e = .returned (.int .i64 r) ∧ Drawn0 w w' := by
 have HR0 := Aside0.mk hr0
 have HC0 := Aside0.mk hc0
 clear hr0 hc0
 have H : (cmp_Or_int.l0 k 0 l0 (l0.length : Int) 0) = some r := h
 clear h
 have H' := Aside0.mk H
 clear H
 go_enter Try.func150, Try.ntmps150
 go_wp2
 go_loopg [8] k (fun kq v8 w' => ∃ (x8_1 : Int), v8 = .int .i64 x8_1 ∧ Aside0 (cmp_Or_int.l0 kq 0 l0 (l0.length : Int) x8_1 = some r) ∧ Aside0 (kq ≤ k) ∧ Drawn0 w w')
 case atStart => exact ⟨(0), sr, H', ⟨Nat.le_refl _⟩, dz⟩
 case round =>
  clear H'
  try clear c1
  obtain ⟨x8_1, rfl, HA, HK1, ⟨m1, rfl⟩⟩ := hrel
  cases gk with
  | zero => exact absurd HA.out (by simp [cmp_Or_int.l0])
  | succ k1 =>
   have H := HA.out
   clear HA
   simp only [cmp_Or_int.l0] at H
   by_cases c2 : x8_1 < (l0.length : Int)
   ·rw [if_pos c2] at H
    have c2b0 : decide (x8_1 < (l0.length : Int)) = true := decide_eq_true c2
    clear c2
    by_cases c3 : 0 ≤ x8_1
    ·rw [if_pos c3] at H
     have c3b0 : decide (0 ≤ x8_1) = true := decide_eq_true c3
     clear c3
     by_cases c4 : x8_1 < (l0.length : Int)
     ·rw [if_pos c4] at H
      have c4b0 : decide (x8_1 < (l0.length : Int)) = true := decide_eq_true c4
      clear c4
      by_cases c5 : (rd l0 x8_1) = 0
      ·rw [if_pos c5] at H
       have c5b0 : ((rd l0 x8_1) == 0) = true := beq_iff_eq.mpr c5
       have c5b1 : ((rd l0 x8_1) != 0) = false := bne_eq_false_iff_eq.mpr c5
       clear c5
       have H' := Aside0.mk H
       clear H
       have p190 : 0 ≤ (x8_1 : Int) := of_decide_eq_true am
       have q190 : x8_1 < (l0.length : Int) := of_decide_eq_true am
       obtain ⟨ad190, e190, hx190_0⟩ := Kd.at_int HR0.out x8_1 p190 q190
       cases e190
       replace p190 := eq_true p190
       replace q190 := eq_true q190
       go_wp2
       go_roundg k1
       case measure => have := HK1.out; omega
       case rel => exact ⟨(wrap64 (x8_1 + 1)), sr, H', ⟨by have := HK1.out; omega⟩, dz⟩
      ·rw [if_neg c5] at H
       have c5b0 : ((rd l0 x8_1) == 0) = false := beq_eq_false_iff_ne.mpr c5
       have c5b1 : ((rd l0 x8_1) != 0) = true := bne_iff_ne.mpr c5
       obtain rfl := Option.some.inj H
       have p190 : 0 ≤ (x8_1 : Int) := of_decide_eq_true am
       have q190 : x8_1 < (l0.length : Int) := of_decide_eq_true am
       obtain ⟨ad190, e190, hx190_0⟩ := Kd.at_int HR0.out x8_1 p190 q190
       cases e190
       replace p190 := eq_true p190
       replace q190 := eq_true q190
       go_wp2
       go_ret
       exact ⟨sr, dz⟩
     ·rw [if_neg c4] at H
      exact absurd H (by simp)
    ·rw [if_neg c3] at H
     exact absurd H (by simp)
   ·rw [if_neg c2] at H
    have c2b0 : decide (x8_1 < (l0.length : Int)) = false := decide_eq_false c2
    clear c2
    obtain rfl := Option.some.inj H
    go_wp2
    go_ret
    exact ⟨sr, dz⟩
def cmp_isNaN_uint64.f (a0 : Int) : Option (Bool) := some (a0 != a0)
set_option maxHeartbeats 8000000 in
set_option maxRecDepth 100000 in
theorem cmp_isNaN_uint64.calls (a0 : Int) (r : Bool) (w : World) (h : cmp_isNaN_uint64.f a0 = some r) :
 Calls Try.prog 152 #[.int .u64 a0] w fun e w' => e = .returned (.bool r) ∧ Drawn0 w w' := by
 have H : (some (a0 != a0)) = some r := h
 clear h
 obtain rfl := Option.some.inj H
 go_enter Try.func152, Try.ntmps152
 go_wp2
 go_ret
 exact ⟨sr, dz⟩
def cmp_Compare_uint64.f (a0 : Int) (a1 : Int) : Option (Int) := (cmp_isNaN_uint64.f a0).bind fun t191 => ((cmp_isNaN_uint64.f a1).bind fun t192 => (if t191 = true then (if t192 = true then (some 0) else (some (-1))) else (if t192 = true then (some 1) else (if a0 < a1 then (some (-1)) else (if a0 > a1 then (some 1) else (some 0))))))
set_option maxHeartbeats 8000000 in
set_option maxRecDepth 100000 in
theorem cmp_Compare_uint64.calls (a0 : Int) (a1 : Int) (r : Int) (w : World) (h : cmp_Compare_uint64.f a0 a1 = some r) :
 Calls Try.prog 151 #[.int .u64 a0, .int .u64 a1] w fun e w' => e = .returned (.int .i64 r) ∧ Drawn0 w w' := by
 have H : ((cmp_isNaN_uint64.f a0).bind fun t191 => ((cmp_isNaN_uint64.f a1).bind fun t192 => (if t191 = true then (if t192 = true then (some 0) else (some (-1))) else (if t192 = true then (some 1) else (if a0 < a1 then (some (-1)) else (if a0 > a1 then (some 1) else (some 0))))))) = some r := h
 clear h
 obtain ⟨t191, A3, H⟩ := bi H
 obtain ⟨t192, A4, H⟩ := bi H
 by_cases c5 : t191 = true
 ·subst c5
  rw [if_pos rfl] at H
  by_cases c6 : t192 = true
  ·subst c6
   rw [if_pos rfl] at H
   obtain rfl := Option.some.inj H
   go_enter Try.func151, Try.ntmps151
   go_wp2_with (first | ((with_reducible refine gate_callee (f := 152) rfl ?_); refine goesL_ (some 8) rfl rfl Try.func152 kf rfl #[.int .u64 a0] rfl sm ?_; (with_reducible refine (cmp_isNaN_uint64.calls a0 true _ A3.out).mono ?_); rintro e w' ⟨rfl, ⟨nd, rfl⟩⟩; refine ⟨_, rfl, ?_⟩) | ((with_reducible refine gate_callee (f := 152) rfl ?_); refine goesL_ (some 10) rfl rfl Try.func152 kf rfl #[.int .u64 a1] rfl sm ?_; (with_reducible refine (cmp_isNaN_uint64.calls a1 true _ A4.out).mono ?_); rintro e w' ⟨rfl, ⟨nd, rfl⟩⟩; refine ⟨_, rfl, ?_⟩))
   go_ret
   exact ⟨sr, dz⟩
  ·replace c6 := Bool.eq_false_iff.mpr c6
   subst c6
   rw [if_neg (show ¬ (false = true) by decide)] at H
   obtain rfl := Option.some.inj H
   go_enter Try.func151, Try.ntmps151
   go_wp2_with (first | ((with_reducible refine gate_callee (f := 152) rfl ?_); refine goesL_ (some 8) rfl rfl Try.func152 kf rfl #[.int .u64 a0] rfl sm ?_; (with_reducible refine (cmp_isNaN_uint64.calls a0 true _ A3.out).mono ?_); rintro e w' ⟨rfl, ⟨nd, rfl⟩⟩; refine ⟨_, rfl, ?_⟩) | ((with_reducible refine gate_callee (f := 152) rfl ?_); refine goesL_ (some 10) rfl rfl Try.func152 kf rfl #[.int .u64 a1] rfl sm ?_; (with_reducible refine (cmp_isNaN_uint64.calls a1 false _ A4.out).mono ?_); rintro e w' ⟨rfl, ⟨nd, rfl⟩⟩; refine ⟨_, rfl, ?_⟩))
   go_ret
   exact ⟨sr, dz⟩
 ·replace c5 := Bool.eq_false_iff.mpr c5
  subst c5
  rw [if_neg (show ¬ (false = true) by decide)] at H
  by_cases c7 : t192 = true
  ·subst c7
   rw [if_pos rfl] at H
   obtain rfl := Option.some.inj H
   go_enter Try.func151, Try.ntmps151
   go_wp2_with (first | ((with_reducible refine gate_callee (f := 152) rfl ?_); refine goesL_ (some 8) rfl rfl Try.func152 kf rfl #[.int .u64 a0] rfl sm ?_; (with_reducible refine (cmp_isNaN_uint64.calls a0 false _ A3.out).mono ?_); rintro e w' ⟨rfl, ⟨nd, rfl⟩⟩; refine ⟨_, rfl, ?_⟩) | ((with_reducible refine gate_callee (f := 152) rfl ?_); refine goesL_ (some 10) rfl rfl Try.func152 kf rfl #[.int .u64 a1] rfl sm ?_; (with_reducible refine (cmp_isNaN_uint64.calls a1 true _ A4.out).mono ?_); rintro e w' ⟨rfl, ⟨nd, rfl⟩⟩; refine ⟨_, rfl, ?_⟩))
   go_ret
   exact ⟨sr, dz⟩
  ·replace c7 := Bool.eq_false_iff.mpr c7
   subst c7
   rw [if_neg (show ¬ (false = true) by decide)] at H
   by_cases c8 : a0 < a1
   ·rw [if_pos c8] at H
    have c8b0 : decide (a0 < a1) = true := decide_eq_true c8
    clear c8
    obtain rfl := Option.some.inj H
    go_enter Try.func151, Try.ntmps151
    go_wp2_with (first | ((with_reducible refine gate_callee (f := 152) rfl ?_); refine goesL_ (some 8) rfl rfl Try.func152 kf rfl #[.int .u64 a0] rfl sm ?_; (with_reducible refine (cmp_isNaN_uint64.calls a0 false _ A3.out).mono ?_); rintro e w' ⟨rfl, ⟨nd, rfl⟩⟩; refine ⟨_, rfl, ?_⟩) | ((with_reducible refine gate_callee (f := 152) rfl ?_); refine goesL_ (some 10) rfl rfl Try.func152 kf rfl #[.int .u64 a1] rfl sm ?_; (with_reducible refine (cmp_isNaN_uint64.calls a1 false _ A4.out).mono ?_); rintro e w' ⟨rfl, ⟨nd, rfl⟩⟩; refine ⟨_, rfl, ?_⟩))
    go_ret
    exact ⟨sr, dz⟩
   ·rw [if_neg c8] at H
    have c8b0 : decide (a0 < a1) = false := decide_eq_false c8
    clear c8
    by_cases c9 : a0 > a1
    ·rw [if_pos c9] at H
     have c9b0 : decide (a1 < a0) = true := decide_eq_true c9
     clear c9
     obtain rfl := Option.some.inj H
     go_enter Try.func151, Try.ntmps151
     go_wp2_with (first | ((with_reducible refine gate_callee (f := 152) rfl ?_); refine goesL_ (some 8) rfl rfl Try.func152 kf rfl #[.int .u64 a0] rfl sm ?_; (with_reducible refine (cmp_isNaN_uint64.calls a0 false _ A3.out).mono ?_); rintro e w' ⟨rfl, ⟨nd, rfl⟩⟩; refine ⟨_, rfl, ?_⟩) | ((with_reducible refine gate_callee (f := 152) rfl ?_); refine goesL_ (some 10) rfl rfl Try.func152 kf rfl #[.int .u64 a1] rfl sm ?_; (with_reducible refine (cmp_isNaN_uint64.calls a1 false _ A4.out).mono ?_); rintro e w' ⟨rfl, ⟨nd, rfl⟩⟩; refine ⟨_, rfl, ?_⟩))
     go_ret
     exact ⟨sr, dz⟩
    ·rw [if_neg c9] at H
     have c9b0 : decide (a1 < a0) = false := decide_eq_false c9
     clear c9
     obtain rfl := Option.some.inj H
     go_enter Try.func151, Try.ntmps151
     go_wp2_with (first | ((with_reducible refine gate_callee (f := 152) rfl ?_); refine goesL_ (some 8) rfl rfl Try.func152 kf rfl #[.int .u64 a0] rfl sm ?_; (with_reducible refine (cmp_isNaN_uint64.calls a0 false _ A3.out).mono ?_); rintro e w' ⟨rfl, ⟨nd, rfl⟩⟩; refine ⟨_, rfl, ?_⟩) | ((with_reducible refine gate_callee (f := 152) rfl ?_); refine goesL_ (some 10) rfl rfl Try.func152 kf rfl #[.int .u64 a1] rfl sm ?_; (with_reducible refine (cmp_isNaN_uint64.calls a1 false _ A4.out).mono ?_); rintro e w' ⟨rfl, ⟨nd, rfl⟩⟩; refine ⟨_, rfl, ?_⟩))
     go_ret
     exact ⟨sr, dz⟩
def impl_compareSizes.f (k : Nat) (a0_0 : Bool) (a0_1 : Int) (a0_2 : Int) (a1_0 : Bool) (a1_1 : Int) (a1_2 : Int) : Option (Int) := (cmp_Compare_uint64.f a0_1 a1_1).bind fun t195 => ((cmp_Compare_uint64.f a0_2 a1_2).bind fun t196 => ((cmp_Or_int.f k (([t195, t196] : List Int))).bind fun t200 => (some t200)))
def impl_compareSizes.T1 : Bool × List (List Nat × List Nat) := (true, [([], []), ([0], [0]), ([], []), ([2], [2]), ([1, 3], [1, 3]), ([], []), ([5], [5]), ([], []), ([7], [7]), ([6, 8, 4], [6, 8]), ([4, 9], [4, 9]), ([10, 9], [10]), ([11, 11, 0, 1, 2, 3, 4, 5, 6, 7, 8, 9, 10, 11], [11])])
def impl_compareSizes.B1 : List Nat := [0, 1, 0, 4, 15, 0, 32, 0, 128, 511, 1023, 2047, 4095]
theorem impl_compareSizes.tab1 : rtab .any (opsOf Try.f144 1) = impl_compareSizes.T1 := by kernel_rfl
theorem impl_compareSizes.bits1 : waitsOk impl_compareSizes.T1.2 impl_compareSizes.B1 = true := by kernel_rfl
set_option maxHeartbeats 8000000 in
set_option maxRecDepth 100000 in
theorem impl_compareSizes.calls (k : Nat) (a0_0 : Bool) (a0_1 : Int) (a0_2 : Int) (a1_0 : Bool) (a1_1 : Int) (a1_2 : Int) (r : Int) (w : World) (h : impl_compareSizes.f k a0_0 a0_1 a0_2 a1_0 a1_1 a1_2 = some r) :
 Calls Try.prog 144 #[.agg #[.bool a0_0, .int .u64 a0_1, .int .u64 a0_2], .agg #[.bool a1_0, .int .u64 a1_1, .int .u64 a1_2]] w fun e w' => e = .returned (.int .i64 r) ∧ Below w.heap.size w w' := by
 have hu140 := Try.underlying140
 have HB := Aside0.mk (Below.refl w.heap.size w)
 have H : ((cmp_Compare_uint64.f a0_1 a1_1).bind fun t195 => ((cmp_Compare_uint64.f a0_2 a1_2).bind fun t196 => ((cmp_Or_int.f k (([t195, t196] : List Int))).bind fun t200 => (some t200)))) = some r := h
 clear h
 obtain ⟨t195, A3, H⟩ := bi H
 obtain ⟨t196, A4, H⟩ := bi H
 obtain ⟨y197, hy197⟩ : ∃ y_ : List Int, y_ = (([t195, t196] : List Int)) := ⟨_, rfl⟩
 replace H : ((cmp_Or_int.f k y197).bind fun t200 => (some t200)) = some r := by first | (rw [hy197]; with_reducible exact H) | (have H2_ := (Option.bind_some _ _).symm.trans H; rw [hy197]; with_reducible exact H2_) | (have H2_ := (Option.bind_some _ _).symm.trans H; with_reducible exact H2_) | with_reducible exact H | (rw [hy197]; exact H) | exact H
 have Ny197 := Aside0.mk hy197
 clear hy197
 obtain ⟨t200, A5, H⟩ := bi H
 obtain rfl := Option.some.inj H
 go_enter Try.func144, Try.ntmps144
 try go_wp2_with (first | ((with_reducible refine gate_dst (N := 2) rfl ?_); refine bv (N := 2) (cs := #[.bool a0_0, .int .u64 a0_1, .int .u64 a0_2]) (t := 140) ?_; intro gb193 hg w6 hbox hb; have n0_ := Aside0.mk (below_step bz hb); have n1_ := Aside0.mk (hbox); have n2_ := (gz hg : Aside0 (w.heap.size ≤ _)); have n3_ := (gz hg : Aside0 (w.heap.size ≤ _)); clear HB; have HB := n0_; have BK193 := n1_; have GW193 := n2_; have GE193 := n3_; clear n0_ n1_ n2_ n3_; clear hb hbox hg) | ((with_reducible refine gate_dst (N := 3) rfl ?_); refine bv (N := 3) (cs := #[.bool a1_0, .int .u64 a1_1, .int .u64 a1_2]) (t := 140) ?_; intro gb194 hg w7 hbox hb; have n0_ := bb BK193 hb; have n1_ := Aside0.mk (below_step (bz1 GE193) hb); have n2_ := Aside0.mk (hbox); have n3_ := Aside0.mk ((by rw [hg]; exact (below_size (bz1 GE193)) : w.heap.size ≤ gb194)); have n4_ := Aside0.mk ((by rw [hg]; exact (below_size (bz1 GE193)) : w.heap.size ≤ gb194)); have n5_ := Aside0.mk ((by rw [hg]; exact Nat.ne_of_lt (blk_lt (g := gb193) (o := .cells #[.bool a0_0, .int .u64 a0_1, .int .u64 a0_2] 140 (0, 0)) (bk BK193)) : gb193 ≠ gb194)); have n6_ := Aside0.mk ((by rw [hg]; exact Nat.ne_of_gt (blk_lt (g := gb193) (o := .cells #[.bool a0_0, .int .u64 a0_1, .int .u64 a0_2] 140 (0, 0)) (bk BK193)) : gb194 ≠ gb193)); clear BK193; clear HB; have BK193 := n0_; have HB := n1_; have BK194 := n2_; have GW194 := n3_; have GE194 := n4_; have NB193_194 := n5_; have NB194_193 := n6_; clear n0_ n1_ n2_ n3_ n4_ n5_ n6_; clear hb hbox hg))
 have n0_ := Aside0.mk (blk_drew BK193.out)
 have n1_ := Aside0.mk (blk_drew BK194.out)
 have n2_ := Aside0.mk (below_drew1 HB.out)
 clear BK193 BK194 HB
 have BK193 := n0_
 have BK194 := n1_
 have HB := n2_
 clear n0_ n1_ n2_
 refine start_ (n := 13) (S := fun w' => w'.cell? ⟨gb193, 0, none⟩ = some (.bool a0_0) ∧ w'.cell? ⟨gb193, 1, none⟩ = some (.int .u64 a0_1) ∧ w'.cell? ⟨gb193, 2, none⟩ = some (.int .u64 a0_2) ∧ w'.cell? ⟨gb194, 0, none⟩ = some (.bool a1_0) ∧ w'.cell? ⟨gb194, 1, none⟩ = some (.int .u64 a1_1) ∧ w'.cell? ⟨gb194, 2, none⟩ = some (.int .u64 a1_2)) (ds := []) #[fF, fF, fF, fF, fF, fF, fF, fF, fF, fF, fF, fF, fF] kf rfl rfl ⟨(blk_cell BK193.out 0).trans rfl, (blk_cell BK193.out 1).trans rfl, (blk_cell BK193.out 2).trans rfl, (blk_cell BK194.out 0).trans rfl, (blk_cell BK194.out 1).trans rfl, (blk_cell BK194.out 2).trans rfl⟩ (fun hHeld => ?_); refine with_tabW impl_compareSizes.tab1 impl_compareSizes.bits1 (fun HT_ HW_ => ?_)
 generalize w7.drew = w8 at BK193 BK194 HB hHeld ⊢
 refine pq (i := 0) (N := some 5) #[tT, fF, fF, fF, fF, fF, fF, fF, fF, fF, fF, fF, fF] rfl rfl HT_.out ?_
 refine pq (i := 2) (N := some 7) #[tT, fF, tT, fF, fF, fF, fF, fF, fF, fF, fF, fF, fF] rfl rfl HT_.out ?_
 refine pq (i := 5) (N := some 10) #[tT, fF, tT, fF, fF, tT, fF, fF, fF, fF, fF, fF, fF] rfl rfl HT_.out ?_
 refine pq (i := 7) (N := some 12) #[tT, fF, tT, fF, fF, tT, fF, tT, fF, fF, fF, fF, fF] rfl rfl HT_.out ?_
 refine tq6 (i := 1) (N := some 6) #[tT, tT, tT, fF, fF, tT, fF, tT, fF, fF, fF, fF, fF] rfl rfl HT_.out HW_.out hHeld ?_
 refine tq6 (i := 3) (N := some 8) #[tT, tT, tT, tT, fF, tT, fF, tT, fF, fF, fF, fF, fF] rfl rfl HT_.out HW_.out hHeld ?_
 refine tq6 (i := 6) (N := some 11) #[tT, tT, tT, tT, fF, tT, tT, tT, fF, fF, fF, fF, fF] rfl rfl HT_.out HW_.out hHeld ?_
 refine tq6 (i := 8) (N := some 13) #[tT, tT, tT, tT, fF, tT, tT, tT, tT, fF, fF, fF, fF] rfl rfl HT_.out HW_.out hHeld ?_
 refine one_ (i := 4) (N := some 9) #[tT, tT, tT, tT, tT, tT, tT, tT, tT, fF, fF, fF, fF] rfl rfl (one_of HT_.out kf) (by decide) (fun K hK => ?_)
 refine goes_ Try.func151 kf rfl #[.int .u64 a0_1, .int .u64 a1_1] (by rfl) rfl rfl sm ?_
 with_reducible refine (cmp_Compare_uint64.calls a0_1 a1_1 t195 _ A3.out).mono ?_
 rintro e w' ⟨rfl, ⟨nd, rfl⟩⟩
 refine ⟨_, rfl, ?_⟩
 refine hK.out _ _ ⟨(blk_cell BK193.out 0).trans rfl, (blk_cell BK193.out 1).trans rfl, (blk_cell BK193.out 2).trans rfl, (blk_cell BK194.out 0).trans rfl, (blk_cell BK194.out 1).trans rfl, (blk_cell BK194.out 2).trans rfl⟩ (fun hHeld => ?_)
 clear hK K
 refine norm_ (a' := ?_) ?_ ?_
 rotate_left
 ·show Act.put _ (some 9) _ = _
  simp only [Act.put, List.setIfInBounds_toArray, List.set_cons_zero, List.set_cons_succ, i64_w, i32_w]
  rfl
 refine one_ (i := 9) (N := some 14) #[tT, tT, tT, tT, tT, tT, tT, tT, tT, tT, fF, fF, fF] rfl rfl (one_of HT_.out kf) (by decide) (fun K hK => ?_)
 refine goes_ Try.func151 kf rfl #[.int .u64 a0_2, .int .u64 a1_2] (by rfl) rfl rfl sm ?_
 with_reducible refine (cmp_Compare_uint64.calls a0_2 a1_2 t196 _ A4.out).mono ?_
 rintro e w' ⟨rfl, ⟨nd, rfl⟩⟩
 refine ⟨_, rfl, ?_⟩
 refine hK.out _ _ ⟨(blk_cell BK193.out 0).trans rfl, (blk_cell BK193.out 1).trans rfl, (blk_cell BK193.out 2).trans rfl, (blk_cell BK194.out 0).trans rfl, (blk_cell BK194.out 1).trans rfl, (blk_cell BK194.out 2).trans rfl⟩ (fun hHeld => ?_)
 clear hK K
 refine norm_ (a' := ?_) ?_ ?_
 rotate_left
 ·show Act.put _ (some 14) _ = _
  simp only [Act.put, List.setIfInBounds_toArray, List.set_cons_zero, List.set_cons_succ, i64_w, i32_w]
  rfl
 refine one_ (i := 10) (N := some 15) #[tT, tT, tT, tT, tT, tT, tT, tT, tT, tT, tT, fF, fF] rfl rfl (one_of HT_.out kf) (by decide) (fun K hK => ?_)
 refine Kd.R_lit_step (Kd.int .i64) _ 3 ?hg (N := 15) ?hd (xs := ([t195, t196] : List Int)) (inner := [.int .i64 t195, .int .i64 t196]) (ok := fun _ => True) (okp := fun _ => True) ?hr ?hp (fun _ hk => hk) trivial (Below.refl _ _) (Nat.le_refl _) (by simp) ?_; (case hd => rfl); (case hg => rfl); (case hr => first | (go_simp; done) | (go_simp; rfl)); (case hp => exact (Reps.one (show Kd.M (Kd.int .i64) _ _ _ t195 [.int .i64 t195] from rfl) (Reps.one (show Kd.M (Kd.int .i64) _ _ _ t196 [.int .i64 t196] from rfl) (Reps.none _ _))))
 intro v198 w9 ho10 hb hg_ hnew_
 clear hg_ hnew_
 (first | rw [← Ny197.out] at ho10 | (simp only [Int.reduceToNat] at ho10; rw [← Ny197.out] at ho10))
 have n0_ := Aside0.mk (Kd.R_lower ho10 (below_size (bz2 GE193 GE194)))
 have n1_ := bb BK193 hb
 have n2_ := bb BK194 hb
 have n3_ := Aside0.mk (below_step (bz2 GE193 GE194) hb)
 clear BK193 BK194 HB
 have HO199 := n0_
 have BK193 := n1_
 have BK194 := n2_
 have HB := n3_
 clear n0_ n1_ n2_ n3_ hb ho10
 obtain ⟨Ao11, co11, eo11⟩ := Kd.R_slice HO199.out
 (first | subst eo11 | (injection eo11 with f1_ f2_ f3_; have f4_ := f1_.symm; have f5_ := f3_.symm; clear f1_ f2_ f3_; subst f4_; subst f5_))
 refine hK.out _ _ ⟨(blk_cell BK193.out 0).trans rfl, (blk_cell BK193.out 1).trans rfl, (blk_cell BK193.out 2).trans rfl, (blk_cell BK194.out 0).trans rfl, (blk_cell BK194.out 1).trans rfl, (blk_cell BK194.out 2).trans rfl⟩ (fun hHeld => ?_)
 clear hK K
 refine norm_ (a' := ?_) ?_ ?_
 rotate_left
 ·show Act.put _ (some 15) _ = _
  simp only [Act.put, List.setIfInBounds_toArray, List.set_cons_zero, List.set_cons_succ, i64_w, i32_w]
  rfl
 refine one_ (i := 11) (N := some 16) #[tT, tT, tT, tT, tT, tT, tT, tT, tT, tT, tT, tT, fF] rfl rfl (one_of HT_.out kf) (by decide) (fun K hK => ?_)
 refine goes_ Try.func150 kf rfl #[.slice Ao11 y197.length co11] (by rfl) rfl rfl sm ?_
 with_reducible refine (cmp_Or_int.calls k _ _ y197 t200 _ ?side1 ?side2 A5.out).mono ?_
 (case side1 => exact cr HO199)
 (case side2 => exact (Kd.R_reads' HO199.out).2.1)
 rintro e w' ⟨rfl, ⟨nd, rfl⟩⟩
 refine ⟨_, rfl, ?_⟩
 refine hK.out _ _ ⟨(blk_cell BK193.out 0).trans rfl, (blk_cell BK193.out 1).trans rfl, (blk_cell BK193.out 2).trans rfl, (blk_cell BK194.out 0).trans rfl, (blk_cell BK194.out 1).trans rfl, (blk_cell BK194.out 2).trans rfl⟩ (fun hHeld => ?_)
 clear hK K
 refine norm_ (a' := ?_) ?_ ?_
 rotate_left
 ·show Act.put _ (some 16) _ = _
  simp only [Act.put, List.setIfInBounds_toArray, List.set_cons_zero, List.set_cons_succ, i64_w, i32_w]
  rfl
 refine pq (i := 12) (N := some 4) #[tT, tT, tT, tT, tT, tT, tT, tT, tT, tT, tT, tT, tT] rfl rfl HT_.out ?_
 refine done_ (done_of HT_.out kf) ?_
 try go_wp2
 go_ret
 exact ⟨er, bz2 GE193 GE194⟩
def impl_compareWide.j0 : Nat → Bool → Bool → Int → Int → Bool → Int → Int → Option (Int)
 | 0, _, _, _, _, _, _, _ => none
 | k + 1, x5, x202000, x202001, x202002, x203000, x203001, x203002 => if x5 = true then (some 0) else (if (x202000 != x203000) = true then (if x202000 = true then (some (-1)) else (some 1)) else (if x202000 = true then ((impl_compareSizes.f k x203000 x203001 x203002 x202000 x202001 x202002).bind fun t205 => (some t205)) else ((impl_compareSizes.f k x202000 x202001 x202002 x203000 x203001 x203002).bind fun t206 => (some t206))))
def impl_compareWide.f (k : Nat) (a0_0 : Bool) (a0_1 : Int) (a0_2 : Int) (a1_0 : Bool) (a1_1 : Int) (a1_2 : Int) : Option (Int) := (impl_wide_isZero.f a0_0 a0_1 a0_2).bind fun t203 => (if t203 = true then ((impl_wide_isZero.f a1_0 a1_1 a1_2).bind fun t204 => (impl_compareWide.j0 k t204 a0_0 a0_1 a0_2 a1_0 a1_1 a1_2)) else (impl_compareWide.j0 k false a0_0 a0_1 a0_2 a1_0 a1_1 a1_2))
set_option maxHeartbeats 8000000 in
set_option maxRecDepth 100000 in
theorem impl_compareWide.calls (k : Nat) (a0_0 : Bool) (a0_1 : Int) (a0_2 : Int) (a1_0 : Bool) (a1_1 : Int) (a1_2 : Int) (r : Int) (w : World) (h : impl_compareWide.f k a0_0 a0_1 a0_2 a1_0 a1_1 a1_2 = some r) :
 Calls Try.prog 127 #[.agg #[.bool a0_0, .int .u64 a0_1, .int .u64 a0_2], .agg #[.bool a1_0, .int .u64 a1_1, .int .u64 a1_2]] w fun e w' => e = .returned (.int .i64 r) ∧ Below w.heap.size w w' := by
 have hu140 := Try.underlying140
 have HB := Aside0.mk (Below.refl w.heap.size w)
 have H : ((impl_wide_isZero.f a0_0 a0_1 a0_2).bind fun t203 => (if t203 = true then ((impl_wide_isZero.f a1_0 a1_1 a1_2).bind fun t204 => (impl_compareWide.j0 k t204 a0_0 a0_1 a0_2 a1_0 a1_1 a1_2)) else (impl_compareWide.j0 k false a0_0 a0_1 a0_2 a1_0 a1_1 a1_2))) = some r := h
 clear h
 have HC3 := Aside0.mk H
 clear H
 go_enter Try.func127, Try.ntmps127
 go_upto_region 1 with (first | ((with_reducible refine gate_dst (N := 2) rfl ?_); refine bv (N := 2) (cs := #[.bool a0_0, .int .u64 a0_1, .int .u64 a0_2]) (t := 140) ?_; intro gb201 hg w4 hbox hb; have n0_ := Aside0.mk (below_step bz hb); have n1_ := Aside0.mk (hbox); have n2_ := (gz hg : Aside0 (w.heap.size ≤ _)); have n3_ := (gz hg : Aside0 (w.heap.size ≤ _)); clear HB; have HB := n0_; have BK201 := n1_; have GW201 := n2_; have GE201 := n3_; clear n0_ n1_ n2_ n3_; clear hb hbox hg) | ((with_reducible refine gate_dst (N := 3) rfl ?_); refine bv (N := 3) (cs := #[.bool a1_0, .int .u64 a1_1, .int .u64 a1_2]) (t := 140) ?_; intro gb202 hg w5 hbox hb; have n0_ := bb BK201 hb; have n1_ := Aside0.mk (below_step (bz1 GE201) hb); have n2_ := Aside0.mk (hbox); have n3_ := Aside0.mk ((by rw [hg]; exact (below_size (bz1 GE201)) : w.heap.size ≤ gb202)); have n4_ := Aside0.mk ((by rw [hg]; exact (below_size (bz1 GE201)) : w.heap.size ≤ gb202)); have n5_ := Aside0.mk ((by rw [hg]; exact Nat.ne_of_lt (blk_lt (g := gb201) (o := .cells #[.bool a0_0, .int .u64 a0_1, .int .u64 a0_2] 140 (0, 0)) (bk BK201)) : gb201 ≠ gb202)); have n6_ := Aside0.mk ((by rw [hg]; exact Nat.ne_of_gt (blk_lt (g := gb201) (o := .cells #[.bool a0_0, .int .u64 a0_1, .int .u64 a0_2] 140 (0, 0)) (bk BK201)) : gb202 ≠ gb201)); clear BK201; clear HB; have BK201 := n0_; have HB := n1_; have BK202 := n2_; have GW202 := n3_; have GE202 := n4_; have NB201_202 := n5_; have NB202_201 := n6_; clear n0_ n1_ n2_ n3_ n4_ n5_ n6_; clear hb hbox hg))
 (try simp only [Act.put, List.setIfInBounds_toArray, List.set_cons_zero, List.set_cons_succ])
 go_cut [5] (fun v5 wc => ∃ (kq : Nat) (x5_2 : Bool), v5 = .bool x5_2 ∧ Aside0 (impl_compareWide.j0 kq x5_2 a0_0 a0_1 a0_2 a1_0 a1_1 a1_2 = some r) ∧ Aside0 (kq ≤ k) ∧ Aside0 (wc.heap[gb201]? = some (.cells #[.bool a0_0, .int .u64 a0_1, .int .u64 a0_2] 140 (0, 0))) ∧ Aside0 (wc.heap[gb202]? = some (.cells #[.bool a1_0, .int .u64 a1_1, .int .u64 a1_2] 140 (0, 0))) ∧ Aside0 (Below w.heap.size w wc))
 case first =>
  have H := HC3.out
  clear HC3
  obtain ⟨t203, A6, H⟩ := bi H
  by_cases c7 : t203 = true
  ·subst c7
   rw [if_pos rfl] at H
   obtain ⟨t204, A8, H⟩ := bi H
   have H' := Aside0.mk H
   clear H
   have hnb9 := NB201_202.out
   have hnc9 := NB202_201.out
   have hcz10_0 : w5.cell? ⟨gb201, 0, none⟩ = some (.bool a0_0) := (blk_cell BK201.out 0).trans rfl
   have hcz10_1 : w5.cell? ⟨gb201, 1, none⟩ = some (.int .u64 a0_1) := (blk_cell BK201.out 1).trans rfl
   have hcz10_2 : w5.cell? ⟨gb201, 2, none⟩ = some (.int .u64 a0_2) := (blk_cell BK201.out 2).trans rfl
   have hfz10_0 := blk_frozen BK201.out 0
   have hfz10_1 := blk_frozen BK201.out 1
   have hfz10_2 := blk_frozen BK201.out 2
   go_wp2_with (first | ((with_reducible refine gate_callee (f := 143) rfl ?_); refine goesL_ (some 7) rfl rfl Try.func143 kf rfl #[.agg #[.bool a0_0, .int .u64 a0_1, .int .u64 a0_2]] rfl sm ?_; (with_reducible refine (impl_wide_isZero.calls a0_0 a0_1 a0_2 true _ A6.out).mono ?_); rintro e w11 ⟨rfl, hb⟩; refine ⟨_, rfl, ?_⟩; have n0_ := bb BK201 hb; have n1_ := bb BK202 hb; have n2_ := Aside0.mk (below_step (bz2 GE201 GE202) hb); clear BK201; clear BK202; clear HB; have BK201 := n0_; have BK202 := n1_; have HB := n2_; clear n0_ n1_ n2_; (try clear hb); (try clear hb2); (try clear hk); (try clear hi); have hcz12_0 : w11.cell? ⟨gb202, 0, none⟩ = some (.bool a1_0) := (blk_cell BK202.out 0).trans rfl; have hcz12_1 : w11.cell? ⟨gb202, 1, none⟩ = some (.int .u64 a1_1) := (blk_cell BK202.out 1).trans rfl; have hcz12_2 : w11.cell? ⟨gb202, 2, none⟩ = some (.int .u64 a1_2) := (blk_cell BK202.out 2).trans rfl; have hfz12_0 := blk_frozen BK202.out 0; have hfz12_1 := blk_frozen BK202.out 1; have hfz12_2 := blk_frozen BK202.out 2) | (go_at_call 143; (with_reducible refine (impl_wide_isZero.calls a1_0 a1_1 a1_2 t204 _ A8.out).mono ?_); rintro e w13 ⟨rfl, hb⟩; have n0_ := bb BK201 hb; have n1_ := bb BK202 hb; have n2_ := Aside0.mk (below_step (bz2 GE201 GE202) hb); clear BK201; clear BK202; clear HB; have BK201 := n0_; have BK202 := n1_; have HB := n2_; clear n0_ n1_ n2_; (try clear hb); (try clear hb2); (try clear hk); (try clear hi)))
   go_meet
   case rel => exact ⟨_, (t204), sr, H', ⟨by first | omega | exact Nat.le_refl _⟩, ⟨bk BK201⟩, ⟨bk BK202⟩, ⟨bz2 GE201 GE202⟩⟩
  ·replace c7 := Bool.eq_false_iff.mpr c7
   subst c7
   rw [if_neg (show ¬ (false = true) by decide)] at H
   have H' := Aside0.mk H
   clear H
   have hnb14 := NB201_202.out
   have hnc14 := NB202_201.out
   have hcz15_0 : w5.cell? ⟨gb201, 0, none⟩ = some (.bool a0_0) := (blk_cell BK201.out 0).trans rfl
   have hcz15_1 : w5.cell? ⟨gb201, 1, none⟩ = some (.int .u64 a0_1) := (blk_cell BK201.out 1).trans rfl
   have hcz15_2 : w5.cell? ⟨gb201, 2, none⟩ = some (.int .u64 a0_2) := (blk_cell BK201.out 2).trans rfl
   have hfz15_0 := blk_frozen BK201.out 0
   have hfz15_1 := blk_frozen BK201.out 1
   have hfz15_2 := blk_frozen BK201.out 2
   go_wp2_with (first | ((with_reducible refine gate_callee (f := 143) rfl ?_); refine goesL_ (some 7) rfl rfl Try.func143 kf rfl #[.agg #[.bool a0_0, .int .u64 a0_1, .int .u64 a0_2]] rfl sm ?_; (with_reducible refine (impl_wide_isZero.calls a0_0 a0_1 a0_2 false _ A6.out).mono ?_); rintro e w16 ⟨rfl, hb⟩; refine ⟨_, rfl, ?_⟩; have n0_ := bb BK201 hb; have n1_ := bb BK202 hb; have n2_ := Aside0.mk (below_step (bz2 GE201 GE202) hb); clear BK201; clear BK202; clear HB; have BK201 := n0_; have BK202 := n1_; have HB := n2_; clear n0_ n1_ n2_; (try clear hb); (try clear hb2); (try clear hk); (try clear hi)))
   go_meet
   case rel => exact ⟨_, (false), sr, H', ⟨by first | omega | exact Nat.le_refl _⟩, ⟨bk BK201⟩, ⟨bk BK202⟩, ⟨bz2 GE201 GE202⟩⟩
 case rest =>
  clear HC3
  try clear c1; try clear p2; try clear c7; try clear c9; try clear c12; try clear c14; try clear hcz10_0; try clear hcz10_1; try clear hcz10_2; try clear hcz12_0; try clear hcz12_1; try clear hcz12_2; try clear hcz15_0; try clear hcz15_1; try clear hcz15_2; try clear hfz10_0; try clear hfz10_1; try clear hfz10_2; try clear hfz12_0; try clear hfz12_1; try clear hfz12_2; try clear hfz15_0; try clear hfz15_1; try clear hfz15_2
  obtain ⟨kq, x5_2, rfl, HA, HJ2, BK201, BK202, HB⟩ := hcut
  cases kq with
  | zero => exact absurd HA.out (by simp [impl_compareWide.j0])
  | succ kj2 =>
   have H := HA.out
   clear HA
   simp only [impl_compareWide.j0] at H
   by_cases c17 : x5_2 = true
   ·subst c17
    rw [if_pos rfl] at H
    obtain rfl := Option.some.inj H
    go_wp2
    go_ret
    exact ⟨er, bz2 GE201 GE202⟩
   ·replace c17 := Bool.eq_false_iff.mpr c17
    subst c17
    rw [if_neg (show ¬ (false = true) by decide)] at H
    by_cases c18 : (a0_0 != a1_0) = true
    ·rw [if_pos c18] at H
     have c18b0 : (a0_0 != a1_0) = true := c18
     (try (have c18b1 : decide (a0_0 = a1_0) = false := by simpa using c18))
     (try (have c18b2 : (a0_0 == a1_0) = false := by simpa using c18))
     (try (have c18b3 : ¬ (a0_0 = a1_0) := by simpa using c18))
     clear c18
     by_cases c19 : a0_0 = true
     ·subst c19
      rw [if_pos rfl] at H
      obtain rfl := Option.some.inj H
      have hnb20 := NB201_202.out
      have hnc20 := NB202_201.out
      have hcz21_0 : wc.cell? ⟨gb201, 0, none⟩ = some (.bool true) := (blk_cell BK201.out 0).trans rfl
      have hcz21_1 : wc.cell? ⟨gb201, 1, none⟩ = some (.int .u64 a0_1) := (blk_cell BK201.out 1).trans rfl
      have hcz21_2 : wc.cell? ⟨gb201, 2, none⟩ = some (.int .u64 a0_2) := (blk_cell BK201.out 2).trans rfl
      have hfz21_0 := blk_frozen BK201.out 0
      have hfz21_1 := blk_frozen BK201.out 1
      have hfz21_2 := blk_frozen BK201.out 2
      have hcz22_0 : wc.cell? ⟨gb202, 0, none⟩ = some (.bool a1_0) := (blk_cell BK202.out 0).trans rfl
      have hcz22_1 : wc.cell? ⟨gb202, 1, none⟩ = some (.int .u64 a1_1) := (blk_cell BK202.out 1).trans rfl
      have hcz22_2 : wc.cell? ⟨gb202, 2, none⟩ = some (.int .u64 a1_2) := (blk_cell BK202.out 2).trans rfl
      have hfz22_0 := blk_frozen BK202.out 0
      have hfz22_1 := blk_frozen BK202.out 1
      have hfz22_2 := blk_frozen BK202.out 2
      go_wp2
      go_ret
      exact ⟨er, bz2 GE201 GE202⟩
     ·replace c19 := Bool.eq_false_iff.mpr c19
      subst c19
      rw [if_neg (show ¬ (false = true) by decide)] at H
      obtain rfl := Option.some.inj H
      have hnb23 := NB201_202.out
      have hnc23 := NB202_201.out
      have hcz24_0 : wc.cell? ⟨gb201, 0, none⟩ = some (.bool false) := (blk_cell BK201.out 0).trans rfl
      have hcz24_1 : wc.cell? ⟨gb201, 1, none⟩ = some (.int .u64 a0_1) := (blk_cell BK201.out 1).trans rfl
      have hcz24_2 : wc.cell? ⟨gb201, 2, none⟩ = some (.int .u64 a0_2) := (blk_cell BK201.out 2).trans rfl
      have hfz24_0 := blk_frozen BK201.out 0
      have hfz24_1 := blk_frozen BK201.out 1
      have hfz24_2 := blk_frozen BK201.out 2
      have hcz25_0 : wc.cell? ⟨gb202, 0, none⟩ = some (.bool a1_0) := (blk_cell BK202.out 0).trans rfl
      have hcz25_1 : wc.cell? ⟨gb202, 1, none⟩ = some (.int .u64 a1_1) := (blk_cell BK202.out 1).trans rfl
      have hcz25_2 : wc.cell? ⟨gb202, 2, none⟩ = some (.int .u64 a1_2) := (blk_cell BK202.out 2).trans rfl
      have hfz25_0 := blk_frozen BK202.out 0
      have hfz25_1 := blk_frozen BK202.out 1
      have hfz25_2 := blk_frozen BK202.out 2
      go_wp2
      go_ret
      exact ⟨er, bz2 GE201 GE202⟩
    ·rw [if_neg c18] at H
     have c18b0 : (a0_0 != a1_0) = false := by simpa using c18
     (try (have c18b1 : decide (a0_0 = a1_0) = true := by simpa using c18))
     (try (have c18b2 : (a0_0 == a1_0) = true := by simpa using c18))
     clear c18
     by_cases c26 : a0_0 = true
     ·subst c26
      rw [if_pos rfl] at H
      obtain ⟨t205, A27, H⟩ := bi H
      obtain rfl := Option.some.inj H
      have hnb28 := NB201_202.out
      have hnc28 := NB202_201.out
      have hcz29_0 : wc.cell? ⟨gb201, 0, none⟩ = some (.bool true) := (blk_cell BK201.out 0).trans rfl
      have hcz29_1 : wc.cell? ⟨gb201, 1, none⟩ = some (.int .u64 a0_1) := (blk_cell BK201.out 1).trans rfl
      have hcz29_2 : wc.cell? ⟨gb201, 2, none⟩ = some (.int .u64 a0_2) := (blk_cell BK201.out 2).trans rfl
      have hfz29_0 := blk_frozen BK201.out 0
      have hfz29_1 := blk_frozen BK201.out 1
      have hfz29_2 := blk_frozen BK201.out 2
      have hcz30_0 : wc.cell? ⟨gb202, 0, none⟩ = some (.bool a1_0) := (blk_cell BK202.out 0).trans rfl
      have hcz30_1 : wc.cell? ⟨gb202, 1, none⟩ = some (.int .u64 a1_1) := (blk_cell BK202.out 1).trans rfl
      have hcz30_2 : wc.cell? ⟨gb202, 2, none⟩ = some (.int .u64 a1_2) := (blk_cell BK202.out 2).trans rfl
      have hfz30_0 := blk_frozen BK202.out 0
      have hfz30_1 := blk_frozen BK202.out 1
      have hfz30_2 := blk_frozen BK202.out 2
      go_wp2_with (first | ((with_reducible refine gate_callee (f := 144) rfl ?_); refine goesL_ (some 25) rfl rfl Try.func144 kf rfl #[.agg #[.bool a1_0, .int .u64 a1_1, .int .u64 a1_2], .agg #[.bool true, .int .u64 a0_1, .int .u64 a0_2]] rfl sm ?_; (with_reducible refine (impl_compareSizes.calls kj2 a1_0 a1_1 a1_2 true a0_1 a0_2 t205 _ A27.out).mono ?_); rintro e w31 ⟨rfl, hb⟩; refine ⟨_, rfl, ?_⟩; have n0_ := bb BK201 hb; have n1_ := bb BK202 hb; have n2_ := Aside0.mk (below_step (bz2 GE201 GE202) hb); clear BK201; clear BK202; clear HB; have BK201 := n0_; have BK202 := n1_; have HB := n2_; clear n0_ n1_ n2_; (try clear hb); (try clear hb2); (try clear hk); (try clear hi)))
      go_ret
      exact ⟨er, bz2 GE201 GE202⟩
     ·replace c26 := Bool.eq_false_iff.mpr c26
      subst c26
      rw [if_neg (show ¬ (false = true) by decide)] at H
      obtain ⟨t206, A32, H⟩ := bi H
      obtain rfl := Option.some.inj H
      have hnb33 := NB201_202.out
      have hnc33 := NB202_201.out
      have hcz34_0 : wc.cell? ⟨gb201, 0, none⟩ = some (.bool false) := (blk_cell BK201.out 0).trans rfl
      have hcz34_1 : wc.cell? ⟨gb201, 1, none⟩ = some (.int .u64 a0_1) := (blk_cell BK201.out 1).trans rfl
      have hcz34_2 : wc.cell? ⟨gb201, 2, none⟩ = some (.int .u64 a0_2) := (blk_cell BK201.out 2).trans rfl
      have hfz34_0 := blk_frozen BK201.out 0
      have hfz34_1 := blk_frozen BK201.out 1
      have hfz34_2 := blk_frozen BK201.out 2
      have hcz35_0 : wc.cell? ⟨gb202, 0, none⟩ = some (.bool a1_0) := (blk_cell BK202.out 0).trans rfl
      have hcz35_1 : wc.cell? ⟨gb202, 1, none⟩ = some (.int .u64 a1_1) := (blk_cell BK202.out 1).trans rfl
      have hcz35_2 : wc.cell? ⟨gb202, 2, none⟩ = some (.int .u64 a1_2) := (blk_cell BK202.out 2).trans rfl
      have hfz35_0 := blk_frozen BK202.out 0
      have hfz35_1 := blk_frozen BK202.out 1
      have hfz35_2 := blk_frozen BK202.out 2
      go_wp2_with (first | ((with_reducible refine gate_callee (f := 144) rfl ?_); refine goesL_ (some 28) rfl rfl Try.func144 kf rfl #[.agg #[.bool false, .int .u64 a0_1, .int .u64 a0_2], .agg #[.bool a1_0, .int .u64 a1_1, .int .u64 a1_2]] rfl sm ?_; (with_reducible refine (impl_compareSizes.calls kj2 false a0_1 a0_2 a1_0 a1_1 a1_2 t206 _ A32.out).mono ?_); rintro e w36 ⟨rfl, hb⟩; refine ⟨_, rfl, ?_⟩; have n0_ := bb BK201 hb; have n1_ := bb BK202 hb; have n2_ := Aside0.mk (below_step (bz2 GE201 GE202) hb); clear BK201; clear BK202; clear HB; have BK201 := n0_; have BK202 := n1_; have HB := n2_; clear n0_ n1_ n2_; (try clear hb); (try clear hb2); (try clear hk); (try clear hi)))
      go_ret
      exact ⟨er, bz2 GE201 GE202⟩
end Go.Proofs.Ytalcohajbcijlaa.QHps
