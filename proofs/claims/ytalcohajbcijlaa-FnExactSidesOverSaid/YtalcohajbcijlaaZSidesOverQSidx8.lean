import Derived.Test.YtalcohajbcijlaaZSidesOverQSidx0
import Derived.Test.YtalcohajbcijlaaZSidesOverQSidx3
import Derived.Test.YtalcohajbcijlaaZSidesOverQSidx4
import Derived.Test.YtalcohajbcijlaaZSidesOverQSidx6
import Derived.Test.YtalcohajbcijlaaZSidesOverQSidx7
namespace Go.Proofs.Ytalcohajbcijlaa.QSid
open Go.RowKit Go.Proofs.YtalcohajbcijlaaW.PrintWords Go.Proofs.YtalcohajbcijlaaW.PrintLast Go.Proofs.YtalcohajbcijlaaW.PrintMore
attribute [local go_sem] max2_int min2_int max_two min_two max_three min_three max_four min_four   -- for this text's walks alone
set_option linter.unusedVariables false
set_option linter.unusedSimpArgs false
set_option maxHeartbeats 8000000 in
set_option maxRecDepth 100000 in
theorem impl_Box_dyadic.callsF (k : Nat) (g : Nat) (B1_ : Option Addr) (b1_ : Nat) (B2_ : Option Addr) (b2_ : Nat) (s0_0 : Int) (s0_1 : List Int) (s0_2 : List Int) (a1 : Int) (r1 : Int) (r2 : Int) (r3 : Int) (w0 w : World) (hI : IsF36 B1_ b1_ B2_ b2_ w0 w g s0_0 s0_1 s0_2) (hB : Below w0.heap.size w0 w) (h : impl_Box_dyadic.f k s0_0 s0_1 s0_2 a1 = some (r1, r2, r3)) :
    Calls Try.prog 114 #[.pointer (some ⟨g, 0, none⟩), .int .i64 a1] w fun e w' => e = .returned (.agg #[.int .i64 r1, .int .i64 r2]) ∧ IsF36 B1_ b1_ B2_ b2_ w0 w' g s0_0 s0_1 s0_2 ∧ Below w0.heap.size w0 w' ∧ KeepBut w w' g none := by
  have hu44 := Try.underlying44
  have HI0 := Aside0.mk hI
  have HK := Aside0.mk (KeepBut.refl w g none)
  have HL := Aside0.mk hB.size
  clear hI
  have HW0 := Aside0.mk hB.size
  have HB := Aside0.mk hB
  clear hB
  have H : ((impl_wideOf.f a1).bind fun bt156 => ((impl_wide_fit.f k bt156.1 bt156.2.1 bt156.2.2 s0_0).bind fun bt159 => (some (bt159.1, bt159.2.1, s0_0)))) = some (r1, r2, r3) := h
  clear h
  replace H := Option.bind_eq_some_iff.mp H
  obtain ⟨⟨t156, t157, t158⟩, A30, H⟩ := H
  replace H : ((impl_wide_fit.f k t156 t157 t158 s0_0).bind fun bt159 => (some (bt159.1, bt159.2.1, s0_0))) = some (r1, r2, r3) := H
  have A3 := Aside0.mk A30
  clear A30
  replace H := Option.bind_eq_some_iff.mp H
  obtain ⟨⟨t159, t160, t161⟩, A40, H⟩ := H
  replace H : (some (t159, t160, s0_0)) = some (r1, r2, r3) := H
  have A4 := Aside0.mk A40
  clear A40
  simp only [Option.some.injEq, Prod.mk.injEq] at H
  obtain ⟨rfl, rfl, rfl⟩ := H
  go_enter Try.func114, Try.ntmps114
  try go_wp2_with (first | ((with_reducible refine gate_dst (N := 4) rfl ?_); refine box_event ?hg (N := 4) ?hd (cs := #[.int .i64 0, .int .i64 0]) (t := 44) ?hr ?_; (case hd => rfl); (case hg => rfl); (case hr => first | (go_simp; done) | (go_simp; rfl)); intro gb155 hg w5 hbox hb; have n0_ := Aside0.mk (IsF36.below (by repeat (first | (with_reducible first | exact HI0.out | apply IsF36.alloc | apply IsF36.drewN | apply IsF36.drew | apply IsF36.set_0) | exact HI0.out)) hb); have n1_ := Aside0.mk (KeepBut.trans (by repeat (first | (with_reducible first | exact HK.out | apply KeepBut.set_ | apply keep_drewN | apply keep_drew | apply keep_alloc) | exact HK.out)) (KeepBut.of_below hb g none) (.inl rfl)); have n2_ := Aside0.mk (below_step (by repeat (first | (with_reducible first | exact HB.out | apply below_alloc | apply pw_below_drewN | apply below_drew1 | refine below_set ?_ (IsF36.ge HI0.out)) | exact HB.out)) hb); have n3_ := Aside0.mk (hbox); have n4_ := Aside0.mk ((by rw [hg]; exact (keep_size (w := w) (g := g) (row := none) (by repeat (first | (with_reducible first | exact HK.out | apply KeepBut.set_ | apply keep_drewN | apply keep_drew | apply keep_alloc) | exact HK.out))) : w.heap.size ≤ gb155)); have n5_ := Aside0.mk ((Nat.le_trans HW0.out (by rw [hg]; exact (keep_size (w := w) (g := g) (row := none) (by repeat (first | (with_reducible first | exact HK.out | apply KeepBut.set_ | apply keep_drewN | apply keep_drew | apply keep_alloc) | exact HK.out))) : w.heap.size ≤ gb155) : w0.heap.size ≤ gb155)); have n6_ := Aside0.mk ((by rw [hg]; exact Nat.ne_of_lt (IsF36.lt (show IsF36 B1_ b1_ B2_ b2_ w0 _ g s0_0 s0_1 s0_2 from by repeat (first | (with_reducible first | exact HI0.out | apply IsF36.alloc | apply IsF36.drewN | apply IsF36.drew | apply IsF36.set_0) | exact HI0.out))) : g ≠ gb155)); have n7_ := Aside0.mk ((by rw [hg]; exact Nat.ne_of_gt (IsF36.lt (show IsF36 B1_ b1_ B2_ b2_ w0 _ g s0_0 s0_1 s0_2 from by repeat (first | (with_reducible first | exact HI0.out | apply IsF36.alloc | apply IsF36.drewN | apply IsF36.drew | apply IsF36.set_0) | exact HI0.out))) : gb155 ≠ g)); clear HI0; clear HK; clear HB; have HI0 := n0_; have HK := n1_; have HB := n2_; have BK155 := n3_; have GW155 := n4_; have GE155 := n5_; have NB0_155 := n6_; have NB155_0 := n7_; clear n0_ n1_ n2_ n3_ n4_ n5_ n6_ n7_; clear hb hbox hg))
  have n0_ := Aside0.mk (blk_drew BK155.out)
  have n1_ := Aside0.mk (IsF36.drew HI0.out)
  have n2_ := Aside0.mk (keep_drew HK.out)
  have n3_ := Aside0.mk (below_drew1 HB.out)
  clear BK155
  clear HI0
  clear HK
  clear HB
  have BK155 := n0_
  have HI0 := n1_
  have HK := n2_
  have HB := n3_
  clear n0_ n1_ n2_ n3_
  refine start_ (n := 13) (S := fun w' => w'.cell? ⟨g, 0, none⟩ = some (.int .i64 s0_0)) (ds := []) #[false, false, false, false, false, false, false, false, false, false, false, false, false] (by kernel_rfl) rfl rfl ((show World.cell? _ ⟨g, 0, none⟩ = some (.int .i64 s0_0) from by obtain ⟨hq_, _⟩ := HI0.out; exact (blk_cell hq_ 0).trans rfl)) (fun hHeld => ?_); refine with_tabW impl_Box_dyadic.tab1 impl_Box_dyadic.bits1 (fun HT_ HW_ => ?_)
  generalize w5.drew = w6 at BK155 HI0 HK HB hHeld ⊢
  refine pure_ (i := 0) (N := some 8) (v := ?_) (a' := ?_) #[true, false, false, false, false, false, false, false, false, false, false, false, false] rfl rfl (any_of HT_.out (by kernel_rfl)) (fun _ _ _ h => h) (Or.inl ⟨by rfl, ?_⟩) ?_ ?_
  rotate_left
  · intro w'
    go_simp
    with_reducible rfl
  rotate_left
  · simp only [Act.put, List.setIfInBounds_toArray, List.set_cons_zero, List.set_cons_succ, i64_w, i32_w]
    rfl
  refine pure_ (i := 2) (N := some 10) (v := ?_) (a' := ?_) #[true, false, true, false, false, false, false, false, false, false, false, false, false] rfl rfl (any_of HT_.out (by kernel_rfl)) (fun _ _ _ h => h) (Or.inl ⟨by rfl, ?_⟩) ?_ ?_
  rotate_left
  · intro w'
    go_simp
    with_reducible rfl
  rotate_left
  · simp only [Act.put, List.setIfInBounds_toArray, List.set_cons_zero, List.set_cons_succ, i64_w, i32_w]
    rfl
  refine pure_ (i := 3) (N := some 11) (v := ?_) (a' := ?_) #[true, false, true, true, false, false, false, false, false, false, false, false, false] rfl rfl (any_of HT_.out (by kernel_rfl)) (fun _ _ _ h => h) (Or.inl ⟨by rfl, ?_⟩) ?_ ?_
  rotate_left
  · intro w'
    go_simp
    with_reducible rfl
  rotate_left
  · simp only [Act.put, List.setIfInBounds_toArray, List.set_cons_zero, List.set_cons_succ, i64_w, i32_w]
    rfl
  refine pure_ (i := 4) (N := some 12) (v := ?_) (a' := ?_) #[true, false, true, true, true, false, false, false, false, false, false, false, false] rfl rfl (any_of HT_.out (by kernel_rfl)) (fun _ _ _ h => h) (Or.inl ⟨by rfl, ?_⟩) ?_ ?_
  rotate_left
  · intro w'
    go_simp
    with_reducible rfl
  rotate_left
  · simp only [Act.put, List.setIfInBounds_toArray, List.set_cons_zero, List.set_cons_succ, i64_w, i32_w]
    rfl
  refine take_ (i := 5) (N := some 13) (v := ?_) (a' := ?_) #[true, false, true, true, true, true, false, false, false, false, false, false, false] rfl rfl (take_ofW HT_.out HW_.out (by kernel_rfl)) (fun _ _ _ h => h) (Or.inl ⟨by rfl, ?_⟩) hHeld ?_ ?_
  rotate_left
  · intro w' s0
    go_simp
    with_reducible rfl
  rotate_left
  · simp only [Act.put, List.setIfInBounds_toArray, List.set_cons_zero, List.set_cons_succ, i64_w, i32_w]
    rfl
  refine join_ (σ := Nat) 2 #[true, true, true, true, true, true, true, true, true, true, true, false, false] (fun s_ => [(9, .agg #[.bool t156, .int .u64 t157, .int .u64 t158]), (14, .tuple #[.agg #[.int .i64 t159, .int .i64 t160], .bool t161]), (5, .pointer (some ⟨s_, 0, none⟩)), (7, .tuple #[.agg #[.int .i64 t159, .int .i64 t160], .bool t161]), (15, .agg #[.int .i64 t159, .int .i64 t160]), (16, .bool t161)]) (fun s_ w' => (w'.cell? ⟨g, 0, none⟩ = some (.int .i64 s0_0)) ∧ (w'.heap[gb155]? = some (.cells #[.int .i64 0, .int .i64 0] 44 (0, 0))) ∧ (w'.heap[s_]? = some (.cells #[.int .i64 0, .int .i64 0] 44 (0, 0))) ∧ (w.heap.size ≤ s_) ∧ (w0.heap.size ≤ s_) ∧ (g ≠ s_) ∧ (s_ ≠ g) ∧ (gb155 ≠ s_) ∧ (s_ ≠ gb155) ∧ (IsF36 B1_ b1_ B2_ b2_ w0 w' g s0_0 s0_1 s0_2) ∧ (KeepBut w w' g none) ∧ (Below w0.heap.size w0 w')) ?_ ?_
  rotate_left
  · intro hCont
    refine two_ (i := 1) (j := 10) (Ni := some 9) (Nj := some 5) #[true, true, true, true, true, true, false, false, false, false, false, false, false] #[true, false, true, true, true, true, false, false, false, false, true, false, false] rfl rfl rfl rfl (two_of HT_.out (by kernel_rfl)) (by decide) (by decide) (fun K hK => ?_) (fun K hK => ?_)
    · skip
      refine goes_ Try.func128 (by kernel_rfl) rfl #[.int .i64 a1] (by rfl) rfl rfl (by (try simp only [List.map_toArray, List.map_cons, List.map_nil]); first | done | rfl | (simp only [List.length_drop, List.length_take]; rfl)) ?_
      with_reducible refine (impl_wideOf.calls a1 t156 t157 t158 _ A3.out).mono ?_
      rintro e w7 ⟨rfl, hb⟩
      refine ⟨_, rfl, ?_⟩
      have n0_ := Aside0.mk (IsF36.below (by repeat (first | (with_reducible first | exact HI0.out | apply IsF36.alloc | apply IsF36.drewN | apply IsF36.drew | apply IsF36.set_0 | refine IsF36.far ?_ NB0_155.out _) | exact HI0.out)) hb)
      have n1_ := Aside0.mk (blk_below (g := gb155) (o := .cells #[.int .i64 0, .int .i64 0] 44 (0, 0)) (by (with_reducible repeat (first | refine blk_drewN ?_ _ | refine blk_drew ?_ | refine blk_alloc ?_ _)); exact BK155.out) hb)
      have n2_ := Aside0.mk (KeepBut.trans (by repeat (first | (with_reducible first | exact HK.out | apply KeepBut.set_ | apply keep_drewN | apply keep_drew | apply keep_alloc | refine keep_far ?_ GW155.out _) | exact HK.out)) (KeepBut.of_below hb g none) (.inl rfl))
      have n3_ := Aside0.mk (below_step (by repeat (first | (with_reducible first | exact HB.out | apply below_alloc | apply pw_below_drewN | apply below_drew1 | refine below_set ?_ (IsF36.ge HI0.out) | refine below_set ?_ GE155.out) | exact HB.out)) hb)
      clear HI0
      clear BK155
      clear HK
      clear HB
      have HI0 := n0_
      have BK155 := n1_
      have HK := n2_
      have HB := n3_
      clear n0_ n1_ n2_ n3_
      (try clear hb)
      (try clear hb2)
      (try clear hk)
      (try clear hi)
      refine hK.out _ _ ((show World.cell? _ ⟨g, 0, none⟩ = some (.int .i64 s0_0) from by obtain ⟨hq_, _⟩ := HI0.out; exact (blk_cell hq_ 0).trans rfl)) (fun hHeld => ?_)
      clear hK K
      refine norm_ (a' := ?_) ?_ ?_
      rotate_left
      · show Act.put _ (some 9) _ = _
        simp only [Act.put, List.setIfInBounds_toArray, List.set_cons_zero, List.set_cons_succ, i64_w, i32_w]
        rfl
      refine two_ (i := 6) (j := 10) (Ni := some 14) (Nj := some 5) #[true, true, true, true, true, true, true, false, false, false, false, false, false] #[true, true, true, true, true, true, false, false, false, false, true, false, false] rfl rfl rfl rfl (two_of HT_.out (by kernel_rfl)) (by decide) (by decide) (fun K hK => ?_) (fun K hK => ?_)
      · skip
        refine goes_ Try.func131 (by kernel_rfl) rfl #[.agg #[.bool t156, .int .u64 t157, .int .u64 t158], .int .i64 s0_0] (by rfl) rfl rfl (by (try simp only [List.map_toArray, List.map_cons, List.map_nil]); first | done | rfl | (simp only [List.length_drop, List.length_take]; rfl)) ?_
        with_reducible refine (impl_wide_fit.calls k t156 t157 t158 s0_0 t159 t160 t161 _ A4.out).mono ?_
        rintro e w8 ⟨rfl, hb⟩
        refine ⟨_, rfl, ?_⟩
        have n0_ := Aside0.mk (IsF36.below (by repeat (first | (with_reducible first | exact HI0.out | apply IsF36.alloc | apply IsF36.drewN | apply IsF36.drew | apply IsF36.set_0 | refine IsF36.far ?_ NB0_155.out _) | exact HI0.out)) hb)
        have n1_ := Aside0.mk (blk_below (g := gb155) (o := .cells #[.int .i64 0, .int .i64 0] 44 (0, 0)) (by (with_reducible repeat (first | refine blk_drewN ?_ _ | refine blk_drew ?_ | refine blk_alloc ?_ _)); exact BK155.out) hb)
        have n2_ := Aside0.mk (KeepBut.trans (by repeat (first | (with_reducible first | exact HK.out | apply KeepBut.set_ | apply keep_drewN | apply keep_drew | apply keep_alloc | refine keep_far ?_ GW155.out _) | exact HK.out)) (KeepBut.of_below hb g none) (.inl rfl))
        have n3_ := Aside0.mk (below_step (by repeat (first | (with_reducible first | exact HB.out | apply below_alloc | apply pw_below_drewN | apply below_drew1 | refine below_set ?_ (IsF36.ge HI0.out) | refine below_set ?_ GE155.out) | exact HB.out)) hb)
        clear HI0
        clear BK155
        clear HK
        clear HB
        have HI0 := n0_
        have BK155 := n1_
        have HK := n2_
        have HB := n3_
        clear n0_ n1_ n2_ n3_
        (try clear hb)
        (try clear hb2)
        (try clear hk)
        (try clear hi)
        refine hK.out _ _ ((show World.cell? _ ⟨g, 0, none⟩ = some (.int .i64 s0_0) from by obtain ⟨hq_, _⟩ := HI0.out; exact (blk_cell hq_ 0).trans rfl)) (fun hHeld => ?_)
        clear hK K
        refine norm_ (a' := ?_) ?_ ?_
        rotate_left
        · show Act.put _ (some 14) _ = _
          simp only [Act.put, List.setIfInBounds_toArray, List.set_cons_zero, List.set_cons_succ, i64_w, i32_w]
          rfl
        refine pure_ (i := 7) (N := some 7) (v := ?_) (a' := ?_) #[true, true, true, true, true, true, true, true, false, false, false, false, false] rfl rfl (any_of HT_.out (by kernel_rfl)) (fun _ _ _ h => h) (Or.inl ⟨by rfl, ?_⟩) ?_ ?_
        rotate_left
        · intro w'
          go_simp
          with_reducible rfl
        rotate_left
        · simp only [Act.put, List.setIfInBounds_toArray, List.set_cons_zero, List.set_cons_succ, i64_w, i32_w]
          rfl
        refine pure_ (i := 8) (N := some 15) (v := ?_) (a' := ?_) #[true, true, true, true, true, true, true, true, true, false, false, false, false] rfl rfl (any_of HT_.out (by kernel_rfl)) (fun _ _ _ h => h) (Or.inl ⟨by rfl, ?_⟩) ?_ ?_
        rotate_left
        · intro w'
          go_simp
          with_reducible rfl
        rotate_left
        · simp only [Act.put, List.setIfInBounds_toArray, List.set_cons_zero, List.set_cons_succ, i64_w, i32_w]
          rfl
        refine pure_ (i := 9) (N := some 16) (v := ?_) (a' := ?_) #[true, true, true, true, true, true, true, true, true, true, false, false, false] rfl rfl (any_of HT_.out (by kernel_rfl)) (fun _ _ _ h => h) (Or.inl ⟨by rfl, ?_⟩) ?_ ?_
        rotate_left
        · intro w'
          go_simp
          with_reducible rfl
        rotate_left
        · simp only [Act.put, List.setIfInBounds_toArray, List.set_cons_zero, List.set_cons_succ, i64_w, i32_w]
          rfl
        refine one_ (i := 10) (N := some 5) #[true, true, true, true, true, true, true, true, true, true, true, false, false] rfl rfl (one_of HT_.out (by kernel_rfl)) (by decide) (fun K hK => ?_)
        refine box_step ?hg (N := 5) ?hd (cs := #[.int .i64 0, .int .i64 0]) (t := 44) ?hr ?_; (case hd => rfl); (case hg => rfl); (case hr => first | (go_simp; done) | (go_simp; rfl))
        intro gb162 hg w9 hbox hb
        have n0_ := Aside0.mk (IsF36.below (by repeat (first | (with_reducible first | exact HI0.out | apply IsF36.alloc | apply IsF36.drewN | apply IsF36.drew | apply IsF36.set_0 | refine IsF36.far ?_ NB0_155.out _) | exact HI0.out)) hb)
        have n1_ := Aside0.mk (blk_below (g := gb155) (o := .cells #[.int .i64 0, .int .i64 0] 44 (0, 0)) (by (with_reducible repeat (first | refine blk_drewN ?_ _ | refine blk_drew ?_ | refine blk_alloc ?_ _)); exact BK155.out) hb)
        have n2_ := Aside0.mk (KeepBut.trans (by repeat (first | (with_reducible first | exact HK.out | apply KeepBut.set_ | apply keep_drewN | apply keep_drew | apply keep_alloc | refine keep_far ?_ GW155.out _) | exact HK.out)) (KeepBut.of_below hb g none) (.inl rfl))
        have n3_ := Aside0.mk (below_step (by repeat (first | (with_reducible first | exact HB.out | apply below_alloc | apply pw_below_drewN | apply below_drew1 | refine below_set ?_ (IsF36.ge HI0.out) | refine below_set ?_ GE155.out) | exact HB.out)) hb)
        have n4_ := Aside0.mk (hbox)
        have n5_ := Aside0.mk ((by rw [hg]; exact (keep_size (w := w) (g := g) (row := none) (by repeat (first | (with_reducible first | exact HK.out | apply KeepBut.set_ | apply keep_drewN | apply keep_drew | apply keep_alloc | refine keep_far ?_ GW155.out _) | exact HK.out))) : w.heap.size ≤ gb162))
        have n6_ := Aside0.mk ((Nat.le_trans HW0.out (by rw [hg]; exact (keep_size (w := w) (g := g) (row := none) (by repeat (first | (with_reducible first | exact HK.out | apply KeepBut.set_ | apply keep_drewN | apply keep_drew | apply keep_alloc | refine keep_far ?_ GW155.out _) | exact HK.out))) : w.heap.size ≤ gb162) : w0.heap.size ≤ gb162))
        have n7_ := Aside0.mk ((by rw [hg]; exact Nat.ne_of_lt (blk_lt (g := gb155) (o := .cells #[.int .i64 0, .int .i64 0] 44 (0, 0)) (by (with_reducible repeat (first | refine blk_drewN ?_ _ | refine blk_drew ?_ | refine blk_alloc ?_ _)); exact BK155.out)) : gb155 ≠ gb162))
        have n8_ := Aside0.mk ((by rw [hg]; exact Nat.ne_of_gt (blk_lt (g := gb155) (o := .cells #[.int .i64 0, .int .i64 0] 44 (0, 0)) (by (with_reducible repeat (first | refine blk_drewN ?_ _ | refine blk_drew ?_ | refine blk_alloc ?_ _)); exact BK155.out)) : gb162 ≠ gb155))
        have n9_ := Aside0.mk ((by rw [hg]; exact Nat.ne_of_lt (IsF36.lt (show IsF36 B1_ b1_ B2_ b2_ w0 _ g s0_0 s0_1 s0_2 from by repeat (first | (with_reducible first | exact HI0.out | apply IsF36.alloc | apply IsF36.drewN | apply IsF36.drew | apply IsF36.set_0 | refine IsF36.far ?_ NB0_155.out _) | exact HI0.out))) : g ≠ gb162))
        have n10_ := Aside0.mk ((by rw [hg]; exact Nat.ne_of_gt (IsF36.lt (show IsF36 B1_ b1_ B2_ b2_ w0 _ g s0_0 s0_1 s0_2 from by repeat (first | (with_reducible first | exact HI0.out | apply IsF36.alloc | apply IsF36.drewN | apply IsF36.drew | apply IsF36.set_0 | refine IsF36.far ?_ NB0_155.out _) | exact HI0.out))) : gb162 ≠ g))
        clear HI0
        clear BK155
        clear HK
        clear HB
        have HI0 := n0_
        have BK155 := n1_
        have HK := n2_
        have HB := n3_
        have BK162 := n4_
        have GW162 := n5_
        have GE162 := n6_
        have NB155_162 := n7_
        have NB162_155 := n8_
        have NB0_162 := n9_
        have NB162_0 := n10_
        clear n0_ n1_ n2_ n3_ n4_ n5_ n6_ n7_ n8_ n9_ n10_
        clear hb hbox hg
        refine hK.out _ _ ((show World.cell? _ ⟨g, 0, none⟩ = some (.int .i64 s0_0) from by obtain ⟨hq_, _⟩ := HI0.out; exact (blk_cell hq_ 0).trans rfl)) (fun hHeld => ?_)
        clear hK K
        refine norm_ (a' := ?_) ?_ ?_
        rotate_left
        · show Act.put _ (some 5) _ = _
          simp only [Act.put, List.setIfInBounds_toArray, List.set_cons_zero, List.set_cons_succ, i64_w, i32_w]
          rfl
        exact norm_ (by simp only [putAll, Act.put, List.setIfInBounds_toArray, List.set_cons_zero, List.set_cons_succ]) (hCont (gb162) _ ⟨hHeld, (by (with_reducible repeat (first | refine blk_drewN ?_ _ | refine blk_drew ?_ | refine blk_alloc ?_ _)); exact BK155.out), (by (with_reducible repeat (first | refine blk_drewN ?_ _ | refine blk_drew ?_ | refine blk_alloc ?_ _)); exact BK162.out), GW162.out, GE162.out, NB0_162.out, NB162_0.out, NB155_162.out, NB162_155.out, (by repeat (first | (with_reducible first | exact HI0.out | apply IsF36.alloc | apply IsF36.drewN | apply IsF36.drew | apply IsF36.set_0 | refine IsF36.far ?_ NB0_155.out _ | refine IsF36.far ?_ NB0_162.out _) | exact HI0.out)), (by repeat (first | (with_reducible first | exact HK.out | apply KeepBut.set_ | apply keep_drewN | apply keep_drew | apply keep_alloc | refine keep_far ?_ GW155.out _ | refine keep_far ?_ GW162.out _) | exact HK.out)), (by repeat (first | (with_reducible first | exact HB.out | apply below_alloc | apply pw_below_drewN | apply below_drew1 | refine below_set ?_ (IsF36.ge HI0.out) | refine below_set ?_ GE155.out | refine below_set ?_ GE162.out) | exact HB.out))⟩)
      · skip
        refine box_step ?hg (N := 5) ?hd (cs := #[.int .i64 0, .int .i64 0]) (t := 44) ?hr ?_; (case hd => rfl); (case hg => rfl); (case hr => first | (go_simp; done) | (go_simp; rfl))
        intro gb162 hg w8 hbox hb
        have n0_ := Aside0.mk (IsF36.below (by repeat (first | (with_reducible first | exact HI0.out | apply IsF36.alloc | apply IsF36.drewN | apply IsF36.drew | apply IsF36.set_0 | refine IsF36.far ?_ NB0_155.out _) | exact HI0.out)) hb)
        have n1_ := Aside0.mk (blk_below (g := gb155) (o := .cells #[.int .i64 0, .int .i64 0] 44 (0, 0)) (by (with_reducible repeat (first | refine blk_drewN ?_ _ | refine blk_drew ?_ | refine blk_alloc ?_ _)); exact BK155.out) hb)
        have n2_ := Aside0.mk (KeepBut.trans (by repeat (first | (with_reducible first | exact HK.out | apply KeepBut.set_ | apply keep_drewN | apply keep_drew | apply keep_alloc | refine keep_far ?_ GW155.out _) | exact HK.out)) (KeepBut.of_below hb g none) (.inl rfl))
        have n3_ := Aside0.mk (below_step (by repeat (first | (with_reducible first | exact HB.out | apply below_alloc | apply pw_below_drewN | apply below_drew1 | refine below_set ?_ (IsF36.ge HI0.out) | refine below_set ?_ GE155.out) | exact HB.out)) hb)
        have n4_ := Aside0.mk (hbox)
        have n5_ := Aside0.mk ((by rw [hg]; exact (keep_size (w := w) (g := g) (row := none) (by repeat (first | (with_reducible first | exact HK.out | apply KeepBut.set_ | apply keep_drewN | apply keep_drew | apply keep_alloc | refine keep_far ?_ GW155.out _) | exact HK.out))) : w.heap.size ≤ gb162))
        have n6_ := Aside0.mk ((Nat.le_trans HW0.out (by rw [hg]; exact (keep_size (w := w) (g := g) (row := none) (by repeat (first | (with_reducible first | exact HK.out | apply KeepBut.set_ | apply keep_drewN | apply keep_drew | apply keep_alloc | refine keep_far ?_ GW155.out _) | exact HK.out))) : w.heap.size ≤ gb162) : w0.heap.size ≤ gb162))
        have n7_ := Aside0.mk ((by rw [hg]; exact Nat.ne_of_lt (blk_lt (g := gb155) (o := .cells #[.int .i64 0, .int .i64 0] 44 (0, 0)) (by (with_reducible repeat (first | refine blk_drewN ?_ _ | refine blk_drew ?_ | refine blk_alloc ?_ _)); exact BK155.out)) : gb155 ≠ gb162))
        have n8_ := Aside0.mk ((by rw [hg]; exact Nat.ne_of_gt (blk_lt (g := gb155) (o := .cells #[.int .i64 0, .int .i64 0] 44 (0, 0)) (by (with_reducible repeat (first | refine blk_drewN ?_ _ | refine blk_drew ?_ | refine blk_alloc ?_ _)); exact BK155.out)) : gb162 ≠ gb155))
        have n9_ := Aside0.mk ((by rw [hg]; exact Nat.ne_of_lt (IsF36.lt (show IsF36 B1_ b1_ B2_ b2_ w0 _ g s0_0 s0_1 s0_2 from by repeat (first | (with_reducible first | exact HI0.out | apply IsF36.alloc | apply IsF36.drewN | apply IsF36.drew | apply IsF36.set_0 | refine IsF36.far ?_ NB0_155.out _) | exact HI0.out))) : g ≠ gb162))
        have n10_ := Aside0.mk ((by rw [hg]; exact Nat.ne_of_gt (IsF36.lt (show IsF36 B1_ b1_ B2_ b2_ w0 _ g s0_0 s0_1 s0_2 from by repeat (first | (with_reducible first | exact HI0.out | apply IsF36.alloc | apply IsF36.drewN | apply IsF36.drew | apply IsF36.set_0 | refine IsF36.far ?_ NB0_155.out _) | exact HI0.out))) : gb162 ≠ g))
        clear HI0
        clear BK155
        clear HK
        clear HB
        have HI0 := n0_
        have BK155 := n1_
        have HK := n2_
        have HB := n3_
        have BK162 := n4_
        have GW162 := n5_
        have GE162 := n6_
        have NB155_162 := n7_
        have NB162_155 := n8_
        have NB0_162 := n9_
        have NB162_0 := n10_
        clear n0_ n1_ n2_ n3_ n4_ n5_ n6_ n7_ n8_ n9_ n10_
        clear hb hbox hg
        refine hK.out _ _ ((show World.cell? _ ⟨g, 0, none⟩ = some (.int .i64 s0_0) from by obtain ⟨hq_, _⟩ := HI0.out; exact (blk_cell hq_ 0).trans rfl)) (fun hHeld => ?_)
        clear hK K
        refine norm_ (a' := ?_) ?_ ?_
        rotate_left
        · show Act.put _ (some 5) _ = _
          simp only [Act.put, List.setIfInBounds_toArray, List.set_cons_zero, List.set_cons_succ, i64_w, i32_w]
          rfl
        refine one_ (i := 6) (N := some 14) #[true, true, true, true, true, true, true, false, false, false, true, false, false] rfl rfl (one_of HT_.out (by kernel_rfl)) (by decide) (fun K hK => ?_)
        refine goes_ Try.func131 (by kernel_rfl) rfl #[.agg #[.bool t156, .int .u64 t157, .int .u64 t158], .int .i64 s0_0] (by rfl) rfl rfl (by (try simp only [List.map_toArray, List.map_cons, List.map_nil]); first | done | rfl | (simp only [List.length_drop, List.length_take]; rfl)) ?_
        with_reducible refine (impl_wide_fit.calls k t156 t157 t158 s0_0 t159 t160 t161 _ A4.out).mono ?_
        rintro e w9 ⟨rfl, hb⟩
        refine ⟨_, rfl, ?_⟩
        have n0_ := Aside0.mk (IsF36.below (by repeat (first | (with_reducible first | exact HI0.out | apply IsF36.alloc | apply IsF36.drewN | apply IsF36.drew | apply IsF36.set_0 | refine IsF36.far ?_ NB0_155.out _ | refine IsF36.far ?_ NB0_162.out _) | exact HI0.out)) hb)
        have n1_ := Aside0.mk (blk_below (g := gb155) (o := .cells #[.int .i64 0, .int .i64 0] 44 (0, 0)) (by (with_reducible repeat (first | refine blk_drewN ?_ _ | refine blk_drew ?_ | refine blk_alloc ?_ _)); exact BK155.out) hb)
        have n2_ := Aside0.mk (blk_below (g := gb162) (o := .cells #[.int .i64 0, .int .i64 0] 44 (0, 0)) (by (with_reducible repeat (first | refine blk_drewN ?_ _ | refine blk_drew ?_ | refine blk_alloc ?_ _)); exact BK162.out) hb)
        have n3_ := Aside0.mk (KeepBut.trans (by repeat (first | (with_reducible first | exact HK.out | apply KeepBut.set_ | apply keep_drewN | apply keep_drew | apply keep_alloc | refine keep_far ?_ GW155.out _ | refine keep_far ?_ GW162.out _) | exact HK.out)) (KeepBut.of_below hb g none) (.inl rfl))
        have n4_ := Aside0.mk (below_step (by repeat (first | (with_reducible first | exact HB.out | apply below_alloc | apply pw_below_drewN | apply below_drew1 | refine below_set ?_ (IsF36.ge HI0.out) | refine below_set ?_ GE155.out | refine below_set ?_ GE162.out) | exact HB.out)) hb)
        clear HI0
        clear BK155
        clear BK162
        clear HK
        clear HB
        have HI0 := n0_
        have BK155 := n1_
        have BK162 := n2_
        have HK := n3_
        have HB := n4_
        clear n0_ n1_ n2_ n3_ n4_
        (try clear hb)
        (try clear hb2)
        (try clear hk)
        (try clear hi)
        refine hK.out _ _ ((show World.cell? _ ⟨g, 0, none⟩ = some (.int .i64 s0_0) from by obtain ⟨hq_, _⟩ := HI0.out; exact (blk_cell hq_ 0).trans rfl)) (fun hHeld => ?_)
        clear hK K
        refine norm_ (a' := ?_) ?_ ?_
        rotate_left
        · show Act.put _ (some 14) _ = _
          simp only [Act.put, List.setIfInBounds_toArray, List.set_cons_zero, List.set_cons_succ, i64_w, i32_w]
          rfl
        refine pure_ (i := 7) (N := some 7) (v := ?_) (a' := ?_) #[true, true, true, true, true, true, true, true, false, false, true, false, false] rfl rfl (any_of HT_.out (by kernel_rfl)) (fun _ _ _ h => h) (Or.inl ⟨by rfl, ?_⟩) ?_ ?_
        rotate_left
        · intro w'
          go_simp
          with_reducible rfl
        rotate_left
        · simp only [Act.put, List.setIfInBounds_toArray, List.set_cons_zero, List.set_cons_succ, i64_w, i32_w]
          rfl
        refine pure_ (i := 8) (N := some 15) (v := ?_) (a' := ?_) #[true, true, true, true, true, true, true, true, true, false, true, false, false] rfl rfl (any_of HT_.out (by kernel_rfl)) (fun _ _ _ h => h) (Or.inl ⟨by rfl, ?_⟩) ?_ ?_
        rotate_left
        · intro w'
          go_simp
          with_reducible rfl
        rotate_left
        · simp only [Act.put, List.setIfInBounds_toArray, List.set_cons_zero, List.set_cons_succ, i64_w, i32_w]
          rfl
        refine pure_ (i := 9) (N := some 16) (v := ?_) (a' := ?_) #[true, true, true, true, true, true, true, true, true, true, true, false, false] rfl rfl (any_of HT_.out (by kernel_rfl)) (fun _ _ _ h => h) (Or.inl ⟨by rfl, ?_⟩) ?_ ?_
        rotate_left
        · intro w'
          go_simp
          with_reducible rfl
        rotate_left
        · simp only [Act.put, List.setIfInBounds_toArray, List.set_cons_zero, List.set_cons_succ, i64_w, i32_w]
          rfl
        exact norm_ (by simp only [putAll, Act.put, List.setIfInBounds_toArray, List.set_cons_zero, List.set_cons_succ]) (hCont (gb162) _ ⟨hHeld, (by (with_reducible repeat (first | refine blk_drewN ?_ _ | refine blk_drew ?_ | refine blk_alloc ?_ _)); exact BK155.out), (by (with_reducible repeat (first | refine blk_drewN ?_ _ | refine blk_drew ?_ | refine blk_alloc ?_ _)); exact BK162.out), GW162.out, GE162.out, NB0_162.out, NB162_0.out, NB155_162.out, NB162_155.out, (by repeat (first | (with_reducible first | exact HI0.out | apply IsF36.alloc | apply IsF36.drewN | apply IsF36.drew | apply IsF36.set_0 | refine IsF36.far ?_ NB0_155.out _ | refine IsF36.far ?_ NB0_162.out _) | exact HI0.out)), (by repeat (first | (with_reducible first | exact HK.out | apply KeepBut.set_ | apply keep_drewN | apply keep_drew | apply keep_alloc | refine keep_far ?_ GW155.out _ | refine keep_far ?_ GW162.out _) | exact HK.out)), (by repeat (first | (with_reducible first | exact HB.out | apply below_alloc | apply pw_below_drewN | apply below_drew1 | refine below_set ?_ (IsF36.ge HI0.out) | refine below_set ?_ GE155.out | refine below_set ?_ GE162.out) | exact HB.out))⟩)
    · skip
      refine box_step ?hg (N := 5) ?hd (cs := #[.int .i64 0, .int .i64 0]) (t := 44) ?hr ?_; (case hd => rfl); (case hg => rfl); (case hr => first | (go_simp; done) | (go_simp; rfl))
      intro gb162 hg w7 hbox hb
      have n0_ := Aside0.mk (IsF36.below (by repeat (first | (with_reducible first | exact HI0.out | apply IsF36.alloc | apply IsF36.drewN | apply IsF36.drew | apply IsF36.set_0 | refine IsF36.far ?_ NB0_155.out _) | exact HI0.out)) hb)
      have n1_ := Aside0.mk (blk_below (g := gb155) (o := .cells #[.int .i64 0, .int .i64 0] 44 (0, 0)) (by (with_reducible repeat (first | refine blk_drewN ?_ _ | refine blk_drew ?_ | refine blk_alloc ?_ _)); exact BK155.out) hb)
      have n2_ := Aside0.mk (KeepBut.trans (by repeat (first | (with_reducible first | exact HK.out | apply KeepBut.set_ | apply keep_drewN | apply keep_drew | apply keep_alloc | refine keep_far ?_ GW155.out _) | exact HK.out)) (KeepBut.of_below hb g none) (.inl rfl))
      have n3_ := Aside0.mk (below_step (by repeat (first | (with_reducible first | exact HB.out | apply below_alloc | apply pw_below_drewN | apply below_drew1 | refine below_set ?_ (IsF36.ge HI0.out) | refine below_set ?_ GE155.out) | exact HB.out)) hb)
      have n4_ := Aside0.mk (hbox)
      have n5_ := Aside0.mk ((by rw [hg]; exact (keep_size (w := w) (g := g) (row := none) (by repeat (first | (with_reducible first | exact HK.out | apply KeepBut.set_ | apply keep_drewN | apply keep_drew | apply keep_alloc | refine keep_far ?_ GW155.out _) | exact HK.out))) : w.heap.size ≤ gb162))
      have n6_ := Aside0.mk ((Nat.le_trans HW0.out (by rw [hg]; exact (keep_size (w := w) (g := g) (row := none) (by repeat (first | (with_reducible first | exact HK.out | apply KeepBut.set_ | apply keep_drewN | apply keep_drew | apply keep_alloc | refine keep_far ?_ GW155.out _) | exact HK.out))) : w.heap.size ≤ gb162) : w0.heap.size ≤ gb162))
      have n7_ := Aside0.mk ((by rw [hg]; exact Nat.ne_of_lt (blk_lt (g := gb155) (o := .cells #[.int .i64 0, .int .i64 0] 44 (0, 0)) (by (with_reducible repeat (first | refine blk_drewN ?_ _ | refine blk_drew ?_ | refine blk_alloc ?_ _)); exact BK155.out)) : gb155 ≠ gb162))
      have n8_ := Aside0.mk ((by rw [hg]; exact Nat.ne_of_gt (blk_lt (g := gb155) (o := .cells #[.int .i64 0, .int .i64 0] 44 (0, 0)) (by (with_reducible repeat (first | refine blk_drewN ?_ _ | refine blk_drew ?_ | refine blk_alloc ?_ _)); exact BK155.out)) : gb162 ≠ gb155))
      have n9_ := Aside0.mk ((by rw [hg]; exact Nat.ne_of_lt (IsF36.lt (show IsF36 B1_ b1_ B2_ b2_ w0 _ g s0_0 s0_1 s0_2 from by repeat (first | (with_reducible first | exact HI0.out | apply IsF36.alloc | apply IsF36.drewN | apply IsF36.drew | apply IsF36.set_0 | refine IsF36.far ?_ NB0_155.out _) | exact HI0.out))) : g ≠ gb162))
      have n10_ := Aside0.mk ((by rw [hg]; exact Nat.ne_of_gt (IsF36.lt (show IsF36 B1_ b1_ B2_ b2_ w0 _ g s0_0 s0_1 s0_2 from by repeat (first | (with_reducible first | exact HI0.out | apply IsF36.alloc | apply IsF36.drewN | apply IsF36.drew | apply IsF36.set_0 | refine IsF36.far ?_ NB0_155.out _) | exact HI0.out))) : gb162 ≠ g))
      clear HI0
      clear BK155
      clear HK
      clear HB
      have HI0 := n0_
      have BK155 := n1_
      have HK := n2_
      have HB := n3_
      have BK162 := n4_
      have GW162 := n5_
      have GE162 := n6_
      have NB155_162 := n7_
      have NB162_155 := n8_
      have NB0_162 := n9_
      have NB162_0 := n10_
      clear n0_ n1_ n2_ n3_ n4_ n5_ n6_ n7_ n8_ n9_ n10_
      clear hb hbox hg
      refine hK.out _ _ ((show World.cell? _ ⟨g, 0, none⟩ = some (.int .i64 s0_0) from by obtain ⟨hq_, _⟩ := HI0.out; exact (blk_cell hq_ 0).trans rfl)) (fun hHeld => ?_)
      clear hK K
      refine norm_ (a' := ?_) ?_ ?_
      rotate_left
      · show Act.put _ (some 5) _ = _
        simp only [Act.put, List.setIfInBounds_toArray, List.set_cons_zero, List.set_cons_succ, i64_w, i32_w]
        rfl
      refine one_ (i := 1) (N := some 9) #[true, true, true, true, true, true, false, false, false, false, true, false, false] rfl rfl (one_of HT_.out (by kernel_rfl)) (by decide) (fun K hK => ?_)
      refine goes_ Try.func128 (by kernel_rfl) rfl #[.int .i64 a1] (by rfl) rfl rfl (by (try simp only [List.map_toArray, List.map_cons, List.map_nil]); first | done | rfl | (simp only [List.length_drop, List.length_take]; rfl)) ?_
      with_reducible refine (impl_wideOf.calls a1 t156 t157 t158 _ A3.out).mono ?_
      rintro e w8 ⟨rfl, hb⟩
      refine ⟨_, rfl, ?_⟩
      have n0_ := Aside0.mk (IsF36.below (by repeat (first | (with_reducible first | exact HI0.out | apply IsF36.alloc | apply IsF36.drewN | apply IsF36.drew | apply IsF36.set_0 | refine IsF36.far ?_ NB0_155.out _ | refine IsF36.far ?_ NB0_162.out _) | exact HI0.out)) hb)
      have n1_ := Aside0.mk (blk_below (g := gb155) (o := .cells #[.int .i64 0, .int .i64 0] 44 (0, 0)) (by (with_reducible repeat (first | refine blk_drewN ?_ _ | refine blk_drew ?_ | refine blk_alloc ?_ _)); exact BK155.out) hb)
      have n2_ := Aside0.mk (blk_below (g := gb162) (o := .cells #[.int .i64 0, .int .i64 0] 44 (0, 0)) (by (with_reducible repeat (first | refine blk_drewN ?_ _ | refine blk_drew ?_ | refine blk_alloc ?_ _)); exact BK162.out) hb)
      have n3_ := Aside0.mk (KeepBut.trans (by repeat (first | (with_reducible first | exact HK.out | apply KeepBut.set_ | apply keep_drewN | apply keep_drew | apply keep_alloc | refine keep_far ?_ GW155.out _ | refine keep_far ?_ GW162.out _) | exact HK.out)) (KeepBut.of_below hb g none) (.inl rfl))
      have n4_ := Aside0.mk (below_step (by repeat (first | (with_reducible first | exact HB.out | apply below_alloc | apply pw_below_drewN | apply below_drew1 | refine below_set ?_ (IsF36.ge HI0.out) | refine below_set ?_ GE155.out | refine below_set ?_ GE162.out) | exact HB.out)) hb)
      clear HI0
      clear BK155
      clear BK162
      clear HK
      clear HB
      have HI0 := n0_
      have BK155 := n1_
      have BK162 := n2_
      have HK := n3_
      have HB := n4_
      clear n0_ n1_ n2_ n3_ n4_
      (try clear hb)
      (try clear hb2)
      (try clear hk)
      (try clear hi)
      refine hK.out _ _ ((show World.cell? _ ⟨g, 0, none⟩ = some (.int .i64 s0_0) from by obtain ⟨hq_, _⟩ := HI0.out; exact (blk_cell hq_ 0).trans rfl)) (fun hHeld => ?_)
      clear hK K
      refine norm_ (a' := ?_) ?_ ?_
      rotate_left
      · show Act.put _ (some 9) _ = _
        simp only [Act.put, List.setIfInBounds_toArray, List.set_cons_zero, List.set_cons_succ, i64_w, i32_w]
        rfl
      refine one_ (i := 6) (N := some 14) #[true, true, true, true, true, true, true, false, false, false, true, false, false] rfl rfl (one_of HT_.out (by kernel_rfl)) (by decide) (fun K hK => ?_)
      refine goes_ Try.func131 (by kernel_rfl) rfl #[.agg #[.bool t156, .int .u64 t157, .int .u64 t158], .int .i64 s0_0] (by rfl) rfl rfl (by (try simp only [List.map_toArray, List.map_cons, List.map_nil]); first | done | rfl | (simp only [List.length_drop, List.length_take]; rfl)) ?_
      with_reducible refine (impl_wide_fit.calls k t156 t157 t158 s0_0 t159 t160 t161 _ A4.out).mono ?_
      rintro e w9 ⟨rfl, hb⟩
      refine ⟨_, rfl, ?_⟩
      have n0_ := Aside0.mk (IsF36.below (by repeat (first | (with_reducible first | exact HI0.out | apply IsF36.alloc | apply IsF36.drewN | apply IsF36.drew | apply IsF36.set_0 | refine IsF36.far ?_ NB0_155.out _ | refine IsF36.far ?_ NB0_162.out _) | exact HI0.out)) hb)
      have n1_ := Aside0.mk (blk_below (g := gb155) (o := .cells #[.int .i64 0, .int .i64 0] 44 (0, 0)) (by (with_reducible repeat (first | refine blk_drewN ?_ _ | refine blk_drew ?_ | refine blk_alloc ?_ _)); exact BK155.out) hb)
      have n2_ := Aside0.mk (blk_below (g := gb162) (o := .cells #[.int .i64 0, .int .i64 0] 44 (0, 0)) (by (with_reducible repeat (first | refine blk_drewN ?_ _ | refine blk_drew ?_ | refine blk_alloc ?_ _)); exact BK162.out) hb)
      have n3_ := Aside0.mk (KeepBut.trans (by repeat (first | (with_reducible first | exact HK.out | apply KeepBut.set_ | apply keep_drewN | apply keep_drew | apply keep_alloc | refine keep_far ?_ GW155.out _ | refine keep_far ?_ GW162.out _) | exact HK.out)) (KeepBut.of_below hb g none) (.inl rfl))
      have n4_ := Aside0.mk (below_step (by repeat (first | (with_reducible first | exact HB.out | apply below_alloc | apply pw_below_drewN | apply below_drew1 | refine below_set ?_ (IsF36.ge HI0.out) | refine below_set ?_ GE155.out | refine below_set ?_ GE162.out) | exact HB.out)) hb)
      clear HI0
      clear BK155
      clear BK162
      clear HK
      clear HB
      have HI0 := n0_
      have BK155 := n1_
      have BK162 := n2_
      have HK := n3_
      have HB := n4_
      clear n0_ n1_ n2_ n3_ n4_
      (try clear hb)
      (try clear hb2)
      (try clear hk)
      (try clear hi)
      refine hK.out _ _ ((show World.cell? _ ⟨g, 0, none⟩ = some (.int .i64 s0_0) from by obtain ⟨hq_, _⟩ := HI0.out; exact (blk_cell hq_ 0).trans rfl)) (fun hHeld => ?_)
      clear hK K
      refine norm_ (a' := ?_) ?_ ?_
      rotate_left
      · show Act.put _ (some 14) _ = _
        simp only [Act.put, List.setIfInBounds_toArray, List.set_cons_zero, List.set_cons_succ, i64_w, i32_w]
        rfl
      refine pure_ (i := 7) (N := some 7) (v := ?_) (a' := ?_) #[true, true, true, true, true, true, true, true, false, false, true, false, false] rfl rfl (any_of HT_.out (by kernel_rfl)) (fun _ _ _ h => h) (Or.inl ⟨by rfl, ?_⟩) ?_ ?_
      rotate_left
      · intro w'
        go_simp
        with_reducible rfl
      rotate_left
      · simp only [Act.put, List.setIfInBounds_toArray, List.set_cons_zero, List.set_cons_succ, i64_w, i32_w]
        rfl
      refine pure_ (i := 8) (N := some 15) (v := ?_) (a' := ?_) #[true, true, true, true, true, true, true, true, true, false, true, false, false] rfl rfl (any_of HT_.out (by kernel_rfl)) (fun _ _ _ h => h) (Or.inl ⟨by rfl, ?_⟩) ?_ ?_
      rotate_left
      · intro w'
        go_simp
        with_reducible rfl
      rotate_left
      · simp only [Act.put, List.setIfInBounds_toArray, List.set_cons_zero, List.set_cons_succ, i64_w, i32_w]
        rfl
      refine pure_ (i := 9) (N := some 16) (v := ?_) (a' := ?_) #[true, true, true, true, true, true, true, true, true, true, true, false, false] rfl rfl (any_of HT_.out (by kernel_rfl)) (fun _ _ _ h => h) (Or.inl ⟨by rfl, ?_⟩) ?_ ?_
      rotate_left
      · intro w'
        go_simp
        with_reducible rfl
      rotate_left
      · simp only [Act.put, List.setIfInBounds_toArray, List.set_cons_zero, List.set_cons_succ, i64_w, i32_w]
        rfl
      exact norm_ (by simp only [putAll, Act.put, List.setIfInBounds_toArray, List.set_cons_zero, List.set_cons_succ]) (hCont (gb162) _ ⟨hHeld, (by (with_reducible repeat (first | refine blk_drewN ?_ _ | refine blk_drew ?_ | refine blk_alloc ?_ _)); exact BK155.out), (by (with_reducible repeat (first | refine blk_drewN ?_ _ | refine blk_drew ?_ | refine blk_alloc ?_ _)); exact BK162.out), GW162.out, GE162.out, NB0_162.out, NB162_0.out, NB155_162.out, NB162_155.out, (by repeat (first | (with_reducible first | exact HI0.out | apply IsF36.alloc | apply IsF36.drewN | apply IsF36.drew | apply IsF36.set_0 | refine IsF36.far ?_ NB0_155.out _ | refine IsF36.far ?_ NB0_162.out _) | exact HI0.out)), (by repeat (first | (with_reducible first | exact HK.out | apply KeepBut.set_ | apply keep_drewN | apply keep_drew | apply keep_alloc | refine keep_far ?_ GW155.out _ | refine keep_far ?_ GW162.out _) | exact HK.out)), (by repeat (first | (with_reducible first | exact HB.out | apply below_alloc | apply pw_below_drewN | apply below_drew1 | refine below_set ?_ (IsF36.ge HI0.out) | refine below_set ?_ GE155.out | refine below_set ?_ GE162.out) | exact HB.out))⟩)
  rintro gb162 w10 ⟨hS_, h0_, h1_, h2_, h3_, h4_, h5_, h6_, h7_, h8_, h9_, h10_⟩
  have n0_ : Aside0 (w10.heap[gb155]? = some (.cells #[.int .i64 0, .int .i64 0] 44 (0, 0))) := ⟨h0_⟩
  have n1_ : Aside0 (w10.heap[gb162]? = some (.cells #[.int .i64 0, .int .i64 0] 44 (0, 0))) := ⟨h1_⟩
  have n2_ : Aside0 (w.heap.size ≤ gb162) := ⟨h2_⟩
  have n3_ : Aside0 (w0.heap.size ≤ gb162) := ⟨h3_⟩
  have n4_ : Aside0 (g ≠ gb162) := ⟨h4_⟩
  have n5_ : Aside0 (gb162 ≠ g) := ⟨h5_⟩
  have n6_ : Aside0 (gb155 ≠ gb162) := ⟨h6_⟩
  have n7_ : Aside0 (gb162 ≠ gb155) := ⟨h7_⟩
  have n8_ : Aside0 (IsF36 B1_ b1_ B2_ b2_ w0 w10 g s0_0 s0_1 s0_2) := ⟨h8_⟩
  have n9_ : Aside0 (KeepBut w w10 g none) := ⟨h9_⟩
  have n10_ : Aside0 (Below w0.heap.size w0 w10) := ⟨h10_⟩
  clear BK155
  clear HI0
  clear HK
  clear HB
  clear h0_ h1_ h2_ h3_ h4_ h5_ h6_ h7_ h8_ h9_ h10_
  have BK155 := n0_
  have BK162 := n1_
  have GW162 := n2_
  have GE162 := n3_
  have NB0_162 := n4_
  have NB162_0 := n5_
  have NB155_162 := n6_
  have NB162_155 := n7_
  have HI0 := n8_
  have HK := n9_
  have HB := n10_
  clear n0_ n1_ n2_ n3_ n4_ n5_ n6_ n7_ n8_ n9_ n10_
  have hHeld : w10.cell? ⟨g, 0, none⟩ = some (.int .i64 s0_0) := hS_
  refine norm_ (a' := ?_) ?_ ?_
  rotate_left
  · simp only [putAll, Act.put, List.setIfInBounds_toArray, List.set_cons_zero, List.set_cons_succ]
    rfl
  refine one_ (i := 11) (N := none) #[true, true, true, true, true, true, true, true, true, true, true, true, false] rfl rfl (one_of HT_.out (by kernel_rfl)) (by decide) (fun K hK => ?_)
  have hs11 : w10.cell? ⟨gb162, 0, none⟩ = some (.int .i64 0) := (blk_cell BK162.out 0).trans rfl
  have hfs11 := blk_frozen BK162.out 0
  have hns11_0 := NB155_162.out
  have hms11_0 := NB162_155.out
  have hs12 : w10.cell? ⟨gb162, 1, none⟩ = some (.int .i64 0) := (blk_cell BK162.out 1).trans rfl
  have hfs12 := blk_frozen BK162.out 1
  have hns12_0 := NB155_162.out
  have hms12_0 := NB162_155.out
  refine skip_ (w1 := ?_) (by rfl) rfl ?_ ?_
  rotate_left
  · go_simp
    rfl
  refine hK.out _ _ (((cell_far (p := ⟨gb162, _, none⟩) NB0_162.out _).trans (((cell_far (p := ⟨gb162, _, none⟩) NB0_162.out _).trans (hHeld))))) (fun hHeld => ?_)
  clear hK K
  refine pure_ (i := 12) (N := some 6) (v := ?_) (a' := ?_) #[true, true, true, true, true, true, true, true, true, true, true, true, true] rfl rfl (any_of HT_.out (by kernel_rfl)) (fun _ _ _ h => h) (Or.inl ⟨by rfl, ?_⟩) ?_ ?_
  rotate_left
  · intro w'
    go_simp
    with_reducible rfl
  rotate_left
  · simp only [Act.put, List.setIfInBounds_toArray, List.set_cons_zero, List.set_cons_succ, i64_w, i32_w]
    rfl
  refine done_ (done_of HT_.out (by kernel_rfl)) ?_
  have hnb13 := NB162_155.out
  have hnc13 := NB155_162.out
  have hnb14 := NB162_0.out
  have hnc14 := NB0_162.out
  have hcz15_0 : w10.cell? ⟨gb162, 0, none⟩ = some (.int .i64 0) := (blk_cell BK162.out 0).trans rfl
  have hcz15_1 : w10.cell? ⟨gb162, 1, none⟩ = some (.int .i64 0) := (blk_cell BK162.out 1).trans rfl
  have hfz15_0 := blk_frozen BK162.out 0
  have hfz15_1 := blk_frozen BK162.out 1
  have hnb16 := NB155_0.out
  have hnc16 := NB0_155.out
  have hcz17_0 : w10.cell? ⟨gb155, 0, none⟩ = some (.int .i64 0) := (blk_cell BK155.out 0).trans rfl
  have hcz17_1 : w10.cell? ⟨gb155, 1, none⟩ = some (.int .i64 0) := (blk_cell BK155.out 1).trans rfl
  have hfz17_0 := blk_frozen BK155.out 0
  have hfz17_1 := blk_frozen BK155.out 1
  try go_wp2
  refine bodyPost_ret (results_cell_row rfl _ _ gb155 44 #[.int .i64 t159, .int .i64 t160] (0, 0) _ rfl (by (with_reducible repeat (first | refine blk_drewN ?_ _ | refine blk_drew ?_ | refine blk_alloc ?_ _)); refine blk_put (cs := #[.int .i64 t159, .int .i64 0]) ?_ 1 _ rfl; (with_reducible repeat (first | refine blk_drewN ?_ _ | refine blk_drew ?_ | refine blk_alloc ?_ _)); refine blk_put (cs := #[.int .i64 0, .int .i64 0]) ?_ 0 _ rfl; (with_reducible repeat (first | refine blk_drewN ?_ _ | refine blk_drew ?_ | refine blk_alloc ?_ _)); refine blk_far ?_ NB155_162.out _; (with_reducible repeat (first | refine blk_drewN ?_ _ | refine blk_drew ?_ | refine blk_alloc ?_ _)); refine blk_far ?_ NB155_162.out _; (with_reducible repeat (first | refine blk_drewN ?_ _ | refine blk_drew ?_ | refine blk_alloc ?_ _)); exact BK155.out) Try.underlying44 rfl (by kernel_rfl)) rfl ?_
  exact ⟨by first | rfl | (simp [errW_none, errW_some] <;> rfl) | (simp [*, errW_none, errW_some] <;> rfl), by repeat (first | (with_reducible first | exact HI0.out | apply IsF36.alloc | apply IsF36.drewN | apply IsF36.drew | apply IsF36.set_0 | refine IsF36.far ?_ NB0_155.out _ | refine IsF36.far ?_ NB0_162.out _) | exact HI0.out), by repeat (first | (with_reducible first | exact HB.out | apply below_alloc | apply pw_below_drewN | apply below_drew1 | refine below_set ?_ (IsF36.ge HI0.out) | refine below_set ?_ GE155.out | refine below_set ?_ GE162.out) | exact HB.out), by repeat (first | (with_reducible first | exact HK.out | apply KeepBut.set_ | apply keep_drewN | apply keep_drew | apply keep_alloc | refine keep_far ?_ GW155.out _ | refine keep_far ?_ GW162.out _) | exact HK.out)⟩
theorem impl_Box_dyadic.callsB (k : Nat) (g : Nat) (B1_ : Option Addr) (b1_ : Nat) (B2_ : Option Addr) (b2_ : Nat) (s0_0 : Int) (s0_1 : List Int) (s0_2 : List Int) (a1 : Int) (r1 : Int) (r2 : Int) (r3 : Int) (w0 w : World) (hI : IsF36 B1_ b1_ B2_ b2_ w0 w g s0_0 s0_1 s0_2) (hB : Below w0.heap.size w0 w) (h : impl_Box_dyadic.f k s0_0 s0_1 s0_2 a1 = some (r1, r2, r3)) :
    Calls Try.prog 114 #[.pointer (some ⟨g, 0, none⟩), .int .i64 a1] w fun e w' => e = .returned (.agg #[.int .i64 r1, .int .i64 r2]) ∧ Below w.heap.size w w' := by
  refine (impl_Box_dyadic.callsF k g B1_ b1_ B2_ b2_ s0_0 s0_1 s0_2 a1 r1 r2 r3 w0 w hI hB h).mono ?_
  rintro e w' ⟨h0, i1_, i2_, i3_⟩
  refine ⟨h0, i2_.os.trans hB.os.symm, i2_.tape.trans hB.tape.symm, i2_.output.trans hB.output.symm, i3_.1, fun i hi => ?_⟩
  by_cases hg : i = g
  · rw [hg]; exact i1_.1.trans hI.1.symm
  · exact i3_.2 i hi hg (by simp)
theorem impl_Box_side.elem {w0 w : World} {ad : Addr} {l : List Int} {x : Int} (hr : Kd.C (Kd.int .i64) w0 (some ad) l.length l) (hB : Below w0.heap.size w0 w) (h0 : 0 ≤ x) (h1 : x < (l.length : Int)) : w.cell? (ad.add x.toNat) = some (.int .i64 (rd l x)) := by
  obtain ⟨ad', e', hx⟩ := Kd.at_int (Kd.C_below hr hB) x h0 h1
  injection e' with e'
  subst e'
  exact hx
def impl_Box_side.f (k : Nat) (s0_0 : Int) (s0_1 : List Int) (s0_2 : List Int) (a1 : Int) : Option (Int × Int × Int × Int × Int) := if 0 ≤ a1 then (if a1 < (s0_1.length : Int) then (if a1 < (s0_2.length : Int) then ((impl_Box_dyadic.f k s0_0 s0_1 s0_2 (rd s0_1 a1)).bind fun bt1 => ((impl_Box_dyadic.f k s0_0 s0_1 s0_2 (rd s0_2 a1)).bind fun bt2 => (some (bt1.1, bt1.2.1, bt2.1, bt2.2.1, s0_0)))) else none) else none) else none
set_option maxHeartbeats 8000000 in
set_option maxRecDepth 100000 in
theorem impl_Box_side.callsF (k : Nat) (g : Nat) (B1_ : Option Addr) (b1_ : Nat) (B2_ : Option Addr) (b2_ : Nat) (s0_0 : Int) (s0_1 : List Int) (s0_2 : List Int) (a1 : Int) (r1 : Int) (r2 : Int) (r3 : Int) (r4 : Int) (r5 : Int) (w0 w : World) (hI : IsF36 B1_ b1_ B2_ b2_ w0 w g s0_0 s0_1 s0_2) (hB : Below w0.heap.size w0 w) (h : impl_Box_side.f k s0_0 s0_1 s0_2 a1 = some (r1, r2, r3, r4, r5)) :
    Calls Try.prog 74 #[.pointer (some ⟨g, 0, none⟩), .int .i64 a1] w fun e w' => e = .returned (.tuple #[.agg #[.int .i64 r1, .int .i64 r2], .agg #[.int .i64 r3, .int .i64 r4]]) ∧ IsF36 B1_ b1_ B2_ b2_ w0 w' g s0_0 s0_1 s0_2 ∧ Below w0.heap.size w0 w' ∧ KeepBut w w' g none := by
  have hu44 := Try.underlying44
  obtain ⟨hb0, hg0, hr1, hr2⟩ := hI
  unfold impl_Box_side.f at h
  by_cases c1 : 0 ≤ a1
  rotate_left
  · rw [if_neg c1] at h; cases h
  rw [if_pos c1] at h
  by_cases c2 : a1 < (s0_1.length : Int)
  rotate_left
  · rw [if_neg c2] at h; cases h
  rw [if_pos c2] at h
  by_cases c3 : a1 < (s0_2.length : Int)
  rotate_left
  · rw [if_neg c3] at h; cases h
  rw [if_pos c3] at h
  obtain ⟨⟨t1, t2, t3⟩, A10, h⟩ := Option.bind_eq_some_iff.mp h
  have A1 := Aside0.mk A10
  obtain ⟨⟨t4, t5, t6⟩, A20, h⟩ := Option.bind_eq_some_iff.mp h
  have A2 := Aside0.mk A20
  simp only [Option.some.injEq, Prod.mk.injEq] at h
  obtain ⟨rfl, rfl, rfl, rfl, rfl⟩ := h
  obtain ⟨ad1, e1, _⟩ := Kd.at_int hr1 a1 c1 c2
  obtain ⟨ad2, e2, _⟩ := Kd.at_int hr2 a1 c1 c3
  subst e1; subst e2
  have HI0 := Aside0.mk (⟨hb0, hg0, hr1, hr2⟩ : IsF36 (some ad1) b1_ (some ad2) b2_ w0 w g s0_0 s0_1 s0_2)
  have HR1 := Aside0.mk hr1
  have HR2 := Aside0.mk hr2
  have HK := Aside0.mk (KeepBut.refl w g none)
  have HW0 := Aside0.mk hB.size
  have HB := Aside0.mk hB
  have C1 := Aside0.mk c1
  have C2 := Aside0.mk c2
  have C3 := Aside0.mk c3
  have p1 := eq_true c1
  have p2 := eq_true c2
  have p3 := eq_true c3
  clear hb0 hg0 hr1 hr2 hB c1 c2 c3 A10 A20
  go_enter Try.func74, Try.ntmps74
  try go_wp2_with (first | ((with_reducible refine gate_dst (N := 4) rfl ?_); refine box_event ?hg (N := 4) ?hd (cs := #[.int .i64 0, .int .i64 0]) (t := 44) ?hr ?_; (case hd => rfl); (case hg => rfl); (case hr => first | (go_simp; done) | (go_simp; rfl)); intro ga hg w4 hbox hb; have n0_ := Aside0.mk (IsF36.below (by repeat (first | (with_reducible first | exact HI0.out | apply IsF36.alloc | apply IsF36.drewN | apply IsF36.drew) | exact HI0.out)) hb); have n1_ := Aside0.mk (KeepBut.trans (by repeat (first | (with_reducible first | exact HK.out | apply keep_drewN | apply keep_drew | apply keep_alloc) | exact HK.out)) (KeepBut.of_below hb g none) (.inl rfl)); have n2_ := Aside0.mk (below_step (by repeat (first | (with_reducible first | exact HB.out | apply below_alloc | apply pw_below_drewN | apply below_drew1) | exact HB.out)) hb); have n3_ := Aside0.mk (hbox); have n4_ := Aside0.mk ((by rw [hg]; exact (keep_size (w := w) (g := g) (row := none) (by repeat (first | (with_reducible first | exact HK.out | apply keep_drewN | apply keep_drew | apply keep_alloc) | exact HK.out)))) : w.heap.size ≤ ga); have n5_ := Aside0.mk ((Nat.le_trans HW0.out n4_.out) : w0.heap.size ≤ ga); have n6_ := Aside0.mk ((by rw [hg]; exact Nat.ne_of_lt (IsF36.lt (show IsF36 (some ad1) b1_ (some ad2) b2_ w0 _ g s0_0 s0_1 s0_2 from (by repeat (first | (with_reducible first | exact HI0.out | apply IsF36.alloc | apply IsF36.drewN | apply IsF36.drew) | exact HI0.out))))) : g ≠ ga); clear HI0 HK HB; have HI0 := n0_; have HK := n1_; have HB := n2_; have BK4 := n3_; have GW4 := n4_; have GE4 := n5_; have NG4 := n6_; clear n0_ n1_ n2_ n3_ n4_ n5_ n6_ hb hbox hg) | ((with_reducible refine gate_dst (N := 5) rfl ?_); refine box_event ?hg (N := 5) ?hd (cs := #[.int .i64 0, .int .i64 0]) (t := 44) ?hr ?_; (case hd => rfl); (case hg => rfl); (case hr => first | (go_simp; done) | (go_simp; rfl)); intro gb hg w5 hbox hb; have n0_ := Aside0.mk (IsF36.below (by repeat (first | (with_reducible first | exact HI0.out | apply IsF36.alloc | apply IsF36.drewN | apply IsF36.drew) | exact HI0.out)) hb); have n1_ := Aside0.mk (KeepBut.trans (by repeat (first | (with_reducible first | exact HK.out | apply keep_drewN | apply keep_drew | apply keep_alloc) | exact HK.out)) (KeepBut.of_below hb g none) (.inl rfl)); have n2_ := Aside0.mk (below_step (by repeat (first | (with_reducible first | exact HB.out | apply below_alloc | apply pw_below_drewN | apply below_drew1) | exact HB.out)) hb); have n3_ := Aside0.mk (hbox); have n4_ := Aside0.mk ((by rw [hg]; exact (keep_size (w := w) (g := g) (row := none) (by repeat (first | (with_reducible first | exact HK.out | apply keep_drewN | apply keep_drew | apply keep_alloc) | exact HK.out)))) : w.heap.size ≤ gb); have n5_ := Aside0.mk ((Nat.le_trans HW0.out n4_.out) : w0.heap.size ≤ gb); have n6_ := Aside0.mk ((by rw [hg]; exact Nat.ne_of_lt (IsF36.lt (show IsF36 (some ad1) b1_ (some ad2) b2_ w0 _ g s0_0 s0_1 s0_2 from (by repeat (first | (with_reducible first | exact HI0.out | apply IsF36.alloc | apply IsF36.drewN | apply IsF36.drew) | exact HI0.out))))) : g ≠ gb); have n7_ := Aside0.mk (blk_below (g := ga) (o := .cells #[.int .i64 0, .int .i64 0] 44 (0, 0)) (by (with_reducible repeat (first | refine blk_drewN ?_ _ | refine blk_drew ?_ | refine blk_alloc ?_ _)); exact BK4.out) hb); have n8_ := Aside0.mk ((by rw [hg]; exact Nat.ne_of_lt (blk_lt (g := ga) (o := .cells #[.int .i64 0, .int .i64 0] 44 (0, 0)) (by (with_reducible repeat (first | refine blk_drewN ?_ _ | refine blk_drew ?_ | refine blk_alloc ?_ _)); exact BK4.out))) : ga ≠ gb); clear HI0 HK HB; clear BK4; have HI0 := n0_; have HK := n1_; have HB := n2_; have BK5 := n3_; have GW5 := n4_; have GE5 := n5_; have NG5 := n6_; have BK4 := n7_; have NB := n8_; clear n7_ n8_; clear n0_ n1_ n2_ n3_ n4_ n5_ n6_ hb hbox hg))
  have n0_ := Aside0.mk (blk_drew BK4.out); have n1_ := Aside0.mk (blk_drew BK5.out); have n2_ := Aside0.mk (IsF36.drew HI0.out); have n3_ := Aside0.mk (keep_drew HK.out); have n4_ := Aside0.mk (below_drew1 HB.out)
  clear BK4 BK5 HI0 HK HB
  have BK4 := n0_; have BK5 := n1_; have HI0 := n2_; have HK := n3_; have HB := n4_
  clear n0_ n1_ n2_ n3_ n4_
  refine start_ (n := 20) (S := fun w' => w'.cell? ⟨g, 1, none⟩ = some (.slice (some ad1) s0_1.length b1_) ∧ w'.cell? ⟨g, 2, none⟩ = some (.slice (some ad2) s0_2.length b2_) ∧ w'.cell? (ad1.add a1.toNat) = some (.int .i64 (rd s0_1 a1)) ∧ w'.cell? (ad2.add a1.toNat) = some (.int .i64 (rd s0_2 a1))) (ds := [18, 19]) #[false, false, false, false, false, false, false, false, false, false, false, false, false, false, false, false, false, false, false, false] (by kernel_rfl) rfl rfl ⟨((blk_cell HI0.out.1 1).trans rfl), ((blk_cell HI0.out.1 2).trans rfl), (impl_Box_side.elem HR1.out HB.out C1.out C2.out), (impl_Box_side.elem HR2.out HB.out C1.out C3.out)⟩ (fun hHeld => ?_)
  refine pure_ (i := 0) (N := some 6) (v := ?_) (a' := ?_) #[true, false, false, false, false, false, false, false, false, false, false, false, false, false, false, false, false, false, false, false] rfl rfl (by kernel_rfl) (fun _ _ _ h => h) (Or.inl ⟨by rfl, ?_⟩) ?_ ?_
  rotate_left
  · intro w'
    go_simp
    with_reducible rfl
  rotate_left
  · simp only [Act.put, List.setIfInBounds_toArray, List.set_cons_zero, List.set_cons_succ, i64_w, i32_w]
    rfl
  refine pure_ (i := 1) (N := some 7) (v := ?_) (a' := ?_) #[true, true, false, false, false, false, false, false, false, false, false, false, false, false, false, false, false, false, false, false] rfl rfl (by kernel_rfl) (fun _ _ _ h => h) (Or.inl ⟨by rfl, ?_⟩) ?_ ?_
  rotate_left
  · intro w'
    go_simp
    with_reducible rfl
  rotate_left
  · simp only [Act.put, List.setIfInBounds_toArray, List.set_cons_zero, List.set_cons_succ, i64_w, i32_w]
    rfl
  refine pure_ (i := 2) (N := some 8) (v := ?_) (a' := ?_) #[true, true, true, false, false, false, false, false, false, false, false, false, false, false, false, false, false, false, false, false] rfl rfl (by kernel_rfl) (fun _ _ _ h => h) (Or.inl ⟨by rfl, ?_⟩) ?_ ?_
  rotate_left
  · intro w'
    go_simp
    with_reducible rfl
  rotate_left
  · simp only [Act.put, List.setIfInBounds_toArray, List.set_cons_zero, List.set_cons_succ, i64_w, i32_w]
    rfl
  refine pure_ (i := 3) (N := some 9) (v := ?_) (a' := ?_) #[true, true, true, true, false, false, false, false, false, false, false, false, false, false, false, false, false, false, false, false] rfl rfl (by kernel_rfl) (fun _ _ _ h => h) (Or.inl ⟨by rfl, ?_⟩) ?_ ?_
  rotate_left
  · intro w'
    go_simp
    with_reducible rfl
  rotate_left
  · simp only [Act.put, List.setIfInBounds_toArray, List.set_cons_zero, List.set_cons_succ, i64_w, i32_w]
    rfl
  refine pure_ (i := 5) (N := some 11) (v := ?_) (a' := ?_) #[true, true, true, true, false, true, false, false, false, false, false, false, false, false, false, false, false, false, false, false] rfl rfl (by kernel_rfl) (fun _ _ _ h => h) (Or.inl ⟨by rfl, ?_⟩) ?_ ?_
  rotate_left
  · intro w'
    go_simp
    with_reducible rfl
  rotate_left
  · simp only [Act.put, List.setIfInBounds_toArray, List.set_cons_zero, List.set_cons_succ, i64_w, i32_w]
    rfl
  refine pure_ (i := 9) (N := some 15) (v := ?_) (a' := ?_) #[true, true, true, true, false, true, false, false, false, true, false, false, false, false, false, false, false, false, false, false] rfl rfl (by kernel_rfl) (fun _ _ _ h => h) (Or.inl ⟨by rfl, ?_⟩) ?_ ?_
  rotate_left
  · intro w'
    go_simp
    with_reducible rfl
  rotate_left
  · simp only [Act.put, List.setIfInBounds_toArray, List.set_cons_zero, List.set_cons_succ, i64_w, i32_w]
    rfl
  refine pure_ (i := 10) (N := some 16) (v := ?_) (a' := ?_) #[true, true, true, true, false, true, false, false, false, true, true, false, false, false, false, false, false, false, false, false] rfl rfl (by kernel_rfl) (fun _ _ _ h => h) (Or.inl ⟨by rfl, ?_⟩) ?_ ?_
  rotate_left
  · intro w'
    go_simp
    with_reducible rfl
  rotate_left
  · simp only [Act.put, List.setIfInBounds_toArray, List.set_cons_zero, List.set_cons_succ, i64_w, i32_w]
    rfl
  refine pure_ (i := 11) (N := some 17) (v := ?_) (a' := ?_) #[true, true, true, true, false, true, false, false, false, true, true, true, false, false, false, false, false, false, false, false] rfl rfl (by kernel_rfl) (fun _ _ _ h => h) (Or.inl ⟨by rfl, ?_⟩) ?_ ?_
  rotate_left
  · intro w'
    go_simp
    with_reducible rfl
  rotate_left
  · simp only [Act.put, List.setIfInBounds_toArray, List.set_cons_zero, List.set_cons_succ, i64_w, i32_w]
    rfl
  refine pure_ (i := 12) (N := some 18) (v := ?_) (a' := ?_) #[true, true, true, true, false, true, false, false, false, true, true, true, true, false, false, false, false, false, false, false] rfl rfl (by kernel_rfl) (fun _ _ _ h => h) (Or.inl ⟨by rfl, ?_⟩) ?_ ?_
  rotate_left
  · intro w'
    go_simp
    with_reducible rfl
  rotate_left
  · simp only [Act.put, List.setIfInBounds_toArray, List.set_cons_zero, List.set_cons_succ, i64_w, i32_w]
    rfl
  refine pure_ (i := 14) (N := some 20) (v := ?_) (a' := ?_) #[true, true, true, true, false, true, false, false, false, true, true, true, true, false, true, false, false, false, false, false] rfl rfl (by kernel_rfl) (fun _ _ _ h => h) (Or.inl ⟨by rfl, ?_⟩) ?_ ?_
  rotate_left
  · intro w'
    go_simp
    with_reducible rfl
  rotate_left
  · simp only [Act.put, List.setIfInBounds_toArray, List.set_cons_zero, List.set_cons_succ, i64_w, i32_w]
    rfl
  refine take_ (i := 4) (N := some 10) (v := ?_) (a' := ?_) #[true, true, true, true, true, true, false, false, false, true, true, true, true, false, true, false, false, false, false, false] rfl rfl (by kernel_rfl) (fun _ _ _ h => h) (Or.inl ⟨by rfl, ?_⟩) hHeld ?_ ?_
  rotate_left
  · rintro w' ⟨s0, s1, s2, s3⟩
    go_simp
    with_reducible rfl
  rotate_left
  · simp only [Act.put, List.setIfInBounds_toArray, List.set_cons_zero, List.set_cons_succ, i64_w, i32_w]
    rfl
  refine pure_ (i := 6) (N := some 12) (v := ?_) (a' := ?_) #[true, true, true, true, true, true, true, false, false, true, true, true, true, false, true, false, false, false, false, false] rfl rfl (by kernel_rfl) (fun _ _ _ h => h) (Or.inl ⟨by rfl, ?_⟩) ?_ ?_
  rotate_left
  · intro w'
    go_simp
    with_reducible rfl
  rotate_left
  · simp only [Act.put, List.setIfInBounds_toArray, List.set_cons_zero, List.set_cons_succ, i64_w, i32_w]
    rfl
  refine take_ (i := 7) (N := some 13) (v := ?_) (a' := ?_) #[true, true, true, true, true, true, true, true, false, true, true, true, true, false, true, false, false, false, false, false] rfl rfl (by kernel_rfl) (fun _ _ _ h => h) (Or.inl ⟨by rfl, ?_⟩) hHeld ?_ ?_
  rotate_left
  · rintro w' ⟨s0, s1, s2, s3⟩
    go_simp
    with_reducible rfl
  rotate_left
  · simp only [Act.put, List.setIfInBounds_toArray, List.set_cons_zero, List.set_cons_succ, i64_w, i32_w]
    rfl
  refine take_ (i := 13) (N := some 19) (v := ?_) (a' := ?_) #[true, true, true, true, true, true, true, true, false, true, true, true, true, true, true, false, false, false, false, false] rfl rfl (by kernel_rfl) (fun _ _ _ h => h) (Or.inl ⟨by rfl, ?_⟩) hHeld ?_ ?_
  rotate_left
  · rintro w' ⟨s0, s1, s2, s3⟩
    go_simp
    with_reducible rfl
  rotate_left
  · simp only [Act.put, List.setIfInBounds_toArray, List.set_cons_zero, List.set_cons_succ, i64_w, i32_w]
    rfl
  refine pure_ (i := 15) (N := some 21) (v := ?_) (a' := ?_) #[true, true, true, true, true, true, true, true, false, true, true, true, true, true, true, true, false, false, false, false] rfl rfl (by kernel_rfl) (fun _ _ _ h => h) (Or.inl ⟨by rfl, ?_⟩) ?_ ?_
  rotate_left
  · intro w'
    go_simp
    with_reducible rfl
  rotate_left
  · simp only [Act.put, List.setIfInBounds_toArray, List.set_cons_zero, List.set_cons_succ, i64_w, i32_w]
    rfl
  refine take_ (i := 16) (N := some 22) (v := ?_) (a' := ?_) #[true, true, true, true, true, true, true, true, false, true, true, true, true, true, true, true, true, false, false, false] rfl rfl (by kernel_rfl) (fun _ _ _ h => h) (Or.inl ⟨by rfl, ?_⟩) hHeld ?_ ?_
  rotate_left
  · rintro w' ⟨s0, s1, s2, s3⟩
    go_simp
    with_reducible rfl
  rotate_left
  · simp only [Act.put, List.setIfInBounds_toArray, List.set_cons_zero, List.set_cons_succ, i64_w, i32_w]
    rfl
  refine one_ (i := 8) (N := some 14) #[true, true, true, true, true, true, true, true, true, true, true, true, true, true, true, true, true, false, false, false] rfl rfl (by kernel_rfl) (by decide) (fun K hK => ?_)
  refine goes_ Try.func114 (by kernel_rfl) rfl #[.pointer (some ⟨g, 0, none⟩), .int .i64 (rd s0_1 a1)] (by rfl) rfl rfl (by (try simp only [List.map_toArray, List.map_cons, List.map_nil]); first | done | rfl) ?_
  with_reducible refine (impl_Box_dyadic.callsB k g (some ad1) b1_ (some ad2) b2_ s0_0 s0_1 s0_2 (rd s0_1 a1) t1 t2 t3 w0 _ HI0.out HB.out A1.out).mono ?_
  rintro e w8 ⟨rfl, hb⟩
  refine ⟨_, rfl, ?_⟩
  have n0_ := Aside0.mk (blk_below BK4.out hb); have n1_ := Aside0.mk (blk_below BK5.out hb); have n2_ := Aside0.mk (IsF36.below HI0.out hb); have n3_ := Aside0.mk (KeepBut.trans HK.out (KeepBut.of_below hb g none) (.inl rfl)); have n4_ := Aside0.mk (below_step HB.out hb)
  clear BK4 BK5 HI0 HK HB hb
  have BK4 := n0_; have BK5 := n1_; have HI0 := n2_; have HK := n3_; have HB := n4_
  clear n0_ n1_ n2_ n3_ n4_
  refine hK.out _ _ ⟨((blk_cell HI0.out.1 1).trans rfl), ((blk_cell HI0.out.1 2).trans rfl), (impl_Box_side.elem HR1.out HB.out C1.out C2.out), (impl_Box_side.elem HR2.out HB.out C1.out C3.out)⟩ (fun hHeld => ?_)
  clear hK K
  refine norm_ (a' := ?_) ?_ ?_
  rotate_left
  · show Act.put _ (some 14) _ = _
    simp only [Act.put, List.setIfInBounds_toArray, List.set_cons_zero, List.set_cons_succ, i64_w, i32_w]
    rfl
  refine one_ (i := 17) (N := some 23) #[true, true, true, true, true, true, true, true, true, true, true, true, true, true, true, true, true, true, false, false] rfl rfl (by kernel_rfl) (by decide) (fun K hK => ?_)
  refine goes_ Try.func114 (by kernel_rfl) rfl #[.pointer (some ⟨g, 0, none⟩), .int .i64 (rd s0_2 a1)] (by rfl) rfl rfl (by (try simp only [List.map_toArray, List.map_cons, List.map_nil]); first | done | rfl) ?_
  with_reducible refine (impl_Box_dyadic.callsB k g (some ad1) b1_ (some ad2) b2_ s0_0 s0_1 s0_2 (rd s0_2 a1) t4 t5 t6 w0 _ HI0.out HB.out A2.out).mono ?_
  rintro e w9 ⟨rfl, hb⟩
  refine ⟨_, rfl, ?_⟩
  have n0_ := Aside0.mk (blk_below BK4.out hb); have n1_ := Aside0.mk (blk_below BK5.out hb); have n2_ := Aside0.mk (IsF36.below HI0.out hb); have n3_ := Aside0.mk (KeepBut.trans HK.out (KeepBut.of_below hb g none) (.inl rfl)); have n4_ := Aside0.mk (below_step HB.out hb)
  clear BK4 BK5 HI0 HK HB hb
  have BK4 := n0_; have BK5 := n1_; have HI0 := n2_; have HK := n3_; have HB := n4_
  clear n0_ n1_ n2_ n3_ n4_
  refine hK.out _ _ ⟨((blk_cell HI0.out.1 1).trans rfl), ((blk_cell HI0.out.1 2).trans rfl), (impl_Box_side.elem HR1.out HB.out C1.out C2.out), (impl_Box_side.elem HR2.out HB.out C1.out C3.out)⟩ (fun hHeld => ?_)
  clear hK K
  refine norm_ (a' := ?_) ?_ ?_
  rotate_left
  · show Act.put _ (some 23) _ = _
    simp only [Act.put, List.setIfInBounds_toArray, List.set_cons_zero, List.set_cons_succ, i64_w, i32_w]
    rfl
  refine last_ (i := 18) (N := none) #[true, true, true, true, true, true, true, true, true, true, true, true, true, true, true, true, true, true, true, false] rfl rfl (by kernel_rfl) (by decide) (fun K hK => ?_)
  have hs4_0 : w9.cell? ⟨ga, 0, none⟩ = some (.int .i64 0) := (blk_cell BK4.out 0).trans rfl
  have hs4_1 : w9.cell? ⟨ga, 1, none⟩ = some (.int .i64 0) := (blk_cell BK4.out 1).trans rfl
  have hf4_0 := blk_frozen BK4.out 0
  have hf4_1 := blk_frozen BK4.out 1
  have hs5_0 : w9.cell? ⟨gb, 0, none⟩ = some (.int .i64 0) := (blk_cell BK5.out 0).trans rfl
  have hs5_1 : w9.cell? ⟨gb, 1, none⟩ = some (.int .i64 0) := (blk_cell BK5.out 1).trans rfl
  have hf5_0 := blk_frozen BK5.out 0
  have hf5_1 := blk_frozen BK5.out 1
  have hne_ := NB.out
  have hne2_ := Ne.symm NB.out
  refine skip_ (w1 := ?_) (by rfl) rfl ?_ ?_
  rotate_left
  · go_simp
    rfl
  refine hK.out _ _ ?_
  clear hK K
  refine last_ (i := 19) (N := none) #[true, true, true, true, true, true, true, true, true, true, true, true, true, true, true, true, true, true, true, true] rfl rfl (by kernel_rfl) (by decide) (fun K hK => ?_)
  refine skip_ (w1 := ?_) (by rfl) rfl ?_ ?_
  rotate_left
  · go_simp
    rfl
  refine hK.out _ _ ?_
  clear hK K
  refine done_ (by kernel_rfl) ?_
  try go_wp2
  refine bodyPost_ret (results_cc rfl _ _ ga gb 44 44 #[.int .i64 t1, .int .i64 t2] #[.int .i64 t4, .int .i64 t5] (0, 0) (0, 0) _ _ rfl (by refine blk_far ?_ NB.out _; refine blk_far ?_ NB.out _; refine blk_put (cs := #[.int .i64 t1, .int .i64 0]) ?_ 1 _ rfl; refine blk_put (cs := #[.int .i64 0, .int .i64 0]) ?_ 0 _ rfl; exact BK4.out) Try.underlying44 rfl (by kernel_rfl) rfl (by refine blk_put (cs := #[.int .i64 t4, .int .i64 0]) ?_ 1 _ rfl; refine blk_put (cs := #[.int .i64 0, .int .i64 0]) ?_ 0 _ rfl; refine blk_far ?_ (Ne.symm NB.out) _; refine blk_far ?_ (Ne.symm NB.out) _; exact BK5.out) Try.underlying44 rfl (by kernel_rfl)) rfl ?_
  have hF : IsF36 (some ad1) b1_ (some ad2) b2_ w0 (w9.setCell ⟨ga, 0, none⟩ (.int .i64 t1) |>.setCell ⟨ga, 1, none⟩ (.int .i64 t2) |>.setCell ⟨gb, 0, none⟩ (.int .i64 t4) |>.setCell ⟨gb, 1, none⟩ (.int .i64 t5)) g s0_0 s0_1 s0_2 := (((HI0.out.far (p := ⟨ga, 0, none⟩) NG4.out _).far (p := ⟨ga, 1, none⟩) NG4.out _).far (p := ⟨gb, 0, none⟩) NG5.out _).far (p := ⟨gb, 1, none⟩) NG5.out _
  refine ⟨rfl, hF, ?_, ?_⟩
  · refine below_set (below_set (below_set (below_set HB.out GE4.out) GE4.out) GE5.out) GE5.out
  · refine keep_far (keep_far (keep_far (keep_far HK.out (p := ⟨ga, 0, none⟩) GW4.out _) (p := ⟨ga, 1, none⟩) GW4.out _) (p := ⟨gb, 0, none⟩) GW5.out _) (p := ⟨gb, 1, none⟩) GW5.out _
theorem impl_Box_side.last (k : Nat) (s0_0 : Int) (s0_1 : List Int) (s0_2 : List Int) (a1 : Int) (r1 : Int) (r2 : Int) (r3 : Int) (r4 : Int) (r5 : Int) (h : impl_Box_side.f k s0_0 s0_1 s0_2 a1 = some (r1, r2, r3, r4, r5)) : r5 = s0_0 := by
  unfold impl_Box_side.f at h
  by_cases c1 : 0 ≤ a1
  rotate_left
  · rw [if_neg c1] at h; cases h
  rw [if_pos c1] at h
  by_cases c2 : a1 < (s0_1.length : Int)
  rotate_left
  · rw [if_neg c2] at h; cases h
  rw [if_pos c2] at h
  by_cases c3 : a1 < (s0_2.length : Int)
  rotate_left
  · rw [if_neg c3] at h; cases h
  rw [if_pos c3] at h
  obtain ⟨x, _, h⟩ := Option.bind_eq_some_iff.mp h
  obtain ⟨y, _, h⟩ := Option.bind_eq_some_iff.mp h
  have h := Option.some.inj h
  exact (congrArg (fun z : Int × Int × Int × Int × Int => z.2.2.2.2) h).symm
theorem impl_Box_side.callsR (k : Nat) (g : Nat) (B1_ : Option Addr) (b1_ : Nat) (B2_ : Option Addr) (b2_ : Nat) (s0_0 : Int) (s0_1 : List Int) (s0_2 : List Int) (a1 : Int) (r1 : Int) (r2 : Int) (r3 : Int) (r4 : Int) (r5 : Int) (w0 w : World) (hI : IsF36 B1_ b1_ B2_ b2_ w0 w g s0_0 s0_1 s0_2) (hB : Below w0.heap.size w0 w) (h : impl_Box_side.f k s0_0 s0_1 s0_2 a1 = some (r1, r2, r3, r4, r5)) :
    Calls Try.prog 74 #[.pointer (some ⟨g, 0, none⟩), .int .i64 a1] w fun e w' => e = .returned (.tuple #[.agg #[.int .i64 r1, .int .i64 r2], .agg #[.int .i64 r3, .int .i64 r4]]) ∧ IsF36 B1_ b1_ B2_ b2_ w0 w' g r5 s0_1 s0_2 ∧ Below w0.heap.size w0 w' ∧ KeepBut w w' g none := by
  rw [impl_Box_side.last k s0_0 s0_1 s0_2 a1 r1 r2 r3 r4 r5 h]
  exact impl_Box_side.callsF k g B1_ b1_ B2_ b2_ s0_0 s0_1 s0_2 a1 r1 r2 r3 r4 r5 w0 w hI hB h
end Go.Proofs.Ytalcohajbcijlaa.QSid
