import Derived.Test.YtcgcgifndkeeoaaZCountAboveSq
import Derived.Test.YtcgcgifndkeeoaaZCountAboveQStx3
import Derived.Test.YtcgcgifndkeeoaaZCountAboveQStx6
namespace Go.Proofs.Ytcgcgifndkeeoaa.QSt
open Go.RowKit Go.Proofs.YtcgcgifndkeeoaaW.PrintWords Go.Proofs.YtcgcgifndkeeoaaW.PrintLast Go.Proofs.YtcgcgifndkeeoaaW.PrintMore
attribute [local go_sem] max2_int min2_int max_two min_two max_three min_three max_four min_four
set_option linter.unusedVariables false
set_option linter.unusedSimpArgs false
mutual
def spec_sgDivide.l0 : Nat → List Int → List Int → List Int → Int → Option (List Int × Bool)
 | 0, _, _, _, _ => none
 | k + 1, x1, x6, x7, x8 => if x8 ≥ 0 then (if 0 ≤ (wrap64 ((wrap64 (x8 + (x1.length : Int))) - 1)) then (if (wrap64 ((wrap64 (x8 + (x1.length : Int))) - 1)) < (x6.length : Int) then (if 0 ≤ (wrap64 ((x1.length : Int) - 1)) then (if (wrap64 ((x1.length : Int) - 1)) < (x1.length : Int) then (if (rd x1 (wrap64 ((x1.length : Int) - 1))) = 0 then (none) else (if (Int.tmod (rd x6 (wrap64 ((wrap64 (x8 + (x1.length : Int))) - 1))) (rd x1 (wrap64 ((x1.length : Int) - 1)))) = 0 then ((spec_l1In.f (wrap64 (Int.tdiv (rd x6 (wrap64 ((wrap64 (x8 + (x1.length : Int))) - 1))) (rd x1 (wrap64 ((x1.length : Int) - 1))))) (-1000000000) 1000000000).bind fun t276 => (spec_sgDivide.j1 k x1 x6 x7 x8 (rd x6 (wrap64 ((wrap64 (x8 + (x1.length : Int))) - 1))) (rd x1 (wrap64 ((x1.length : Int) - 1))) (!t276))) else (spec_sgDivide.j1 k x1 x6 x7 x8 (rd x6 (wrap64 ((wrap64 (x8 + (x1.length : Int))) - 1))) (rd x1 (wrap64 ((x1.length : Int) - 1))) true))) else (none)) else (none)) else (none)) else (none)) else ((spec_l1All.f k x6 0 0).bind fun t273 => (some (x7, t273)))
def spec_sgDivide.j1 : Nat → List Int → List Int → List Int → Int → Int → Int → Bool → Option (List Int × Bool)
 | 0, _, _, _, _, _, _, _ => none
 | k + 1, x1, x6, x7, x8, x9, x10, x61 => if x61 = true then (some (([] : List Int), false)) else (if x10 = 0 then (none) else (if 0 ≤ x8 then (if x8 < (x7.length : Int) then (spec_sgDivide.l1 k x1 x6 (x7.set (x8 : Int).toNat (wrap64 (Int.tdiv x9 x10))) x8 x1 (x1.length : Int) 0) else (none)) else (none)))
def spec_sgDivide.l1 : Nat → List Int → List Int → List Int → Int → List Int → Int → Int → Option (List Int × Bool)
 | 0, _, _, _, _, _, _, _ => none
 | k + 1, x1, x6, x7, x8, x68, x69, x70 => if x70 < x69 then (if 0 ≤ x70 then (if x70 < (x68.length : Int) then (if 0 ≤ (wrap64 (x8 + x70)) then (if (wrap64 (x8 + x70)) < (x6.length : Int) then (if 0 ≤ x8 then (if x8 < (x7.length : Int) then (spec_sgDivide.l1 k x1 (x6.set ((wrap64 (x8 + x70)) : Int).toNat (wrap64 ((rd x6 (wrap64 (x8 + x70))) - (wrap64 ((rd x7 x8) * (rd x68 x70)))))) x7 x8 x68 x69 (wrap64 (x70 + 1))) else (none)) else (none)) else (none)) else (none)) else (none)) else (none)) else (spec_sgDivide.l0 k x1 x6 x7 (wrap64 (x8 - 1)))
end
def spec_sgDivide.f (k : Nat) (l0 : List Int) (l1 : List Int) : Option (List Int × Bool) := if (l0.length : Int) < (l1.length : Int) then (some (([] : List Int), ((l0.length : Int) == 0))) else ((spec_l1Own.f l0).bind fun t267 => (if 0 ≤ (wrap64 ((wrap64 ((l0.length : Int) - (l1.length : Int))) + 1)) then (if (wrap64 ((wrap64 ((l0.length : Int) - (l1.length : Int))) + 1) : Int).toNat ≤ 35184372088832 then ((some (List.replicate (wrap64 ((wrap64 ((l0.length : Int) - (l1.length : Int))) + 1) : Int).toNat 0 : List Int)).bind fun y270 => (spec_sgDivide.l0 k l1 t267 y270 (wrap64 ((y270.length : Int) - 1)))) else (none)) else (none)))
def spec_sgDivide.T8 : Bool × List (List Nat × List Nat) := (true, [([], []), ([], []), ([], []), ([2], [2]), ([1, 3], [1, 3]), ([4], [4]), ([0, 5], [0, 5]), ([6], [6]), ([], []), ([], []), ([9], [9]), ([10], [10]), ([8, 11], [8, 11]), ([12], [12]), ([7, 0, 1, 2, 3, 4, 5, 6, 7], [7]), ([13, 14, 0, 1, 2, 3, 4, 5, 6, 7, 8, 9, 10, 11, 12, 13, 14], [13])])
def spec_sgDivide.B8 : List Nat := [0, 0, 0, 4, 14, 30, 63, 127, 0, 0, 512, 1536, 3840, 7936, 255, 32767]
theorem spec_sgDivide.tab8 : rtab .any (opsOf Try.f95 8) = spec_sgDivide.T8 := by kernel_rfl
theorem spec_sgDivide.bits8 : waitsOk spec_sgDivide.T8.2 spec_sgDivide.B8 = true := by kernel_rfl
def spec_sgDivide.T15 : Bool × List (List Nat × List Nat) := (true, [([], []), ([], []), ([], []), ([1, 2], [1, 2]), ([0, 3], [0, 3]), ([4], [4]), ([], []), ([], []), ([6, 7], [6, 7]), ([8], [8]), ([], []), ([9, 10], [9, 10]), ([5, 11], [5, 11]), ([0, 3, 0, 1, 2, 3, 4, 5, 6, 7, 8, 9, 10, 11, 12], [0, 3]), ([13, 12, 0, 1, 2, 3, 4, 5, 6, 7, 8, 9, 10, 11, 12], [12, 13])])
def spec_sgDivide.B15 : List Nat := [0, 0, 0, 6, 15, 31, 0, 0, 192, 448, 0, 1984, 4095, 8191, 16383]
theorem spec_sgDivide.tab15 : rtab .any (opsOf Try.f95 15) = spec_sgDivide.T15 := by kernel_rfl
theorem spec_sgDivide.bits15 : waitsOk spec_sgDivide.T15.2 spec_sgDivide.B15 = true := by kernel_rfl
set_option maxHeartbeats 8000000 in
set_option maxRecDepth 100000 in
theorem spec_sgDivide.calls (k : Nat) (A0 : Option Addr) (c0 : Nat) (l0 : List Int) (A1 : Option Addr) (c1 : Nat) (l1 : List Int) (r1 : List Int) (r2 : Bool) (w : World) (hr0 : Kd.C (Kd.int .i64) w A0 l0.length l0) (hc0 : l0.length ≤ c0) (hr1 : Kd.C (Kd.int .i64) w A1 l1.length l1) (hc1 : l1.length ≤ c1) (h : spec_sgDivide.f k l0 l1 = some (r1, r2)) :
 Calls Try.prog 95 #[.slice A0 l0.length c0, .slice A1 l1.length c1] w fun e w' => ∃ v0_ : Value, e = .returned (.tuple #[v0_, .bool r2]) ∧ Kd.R (Kd.int .i64) 3 w' w.heap.size (fun _ => True) v0_ r1 ∧ Below w.heap.size w w' := by
 have HR0 := Aside0.mk hr0
 have HC0 := Aside0.mk hc0
 clear hr0 hc0
 have HR1 := Aside0.mk hr1
 have HC1 := Aside0.mk hc1
 clear hr1 hc1
 have HB := Aside0.mk (Below.refl w.heap.size w)
 have H : (if (l0.length : Int) < (l1.length : Int) then (some (([] : List Int), ((l0.length : Int) == 0))) else ((spec_l1Own.f l0).bind fun t267 => (if 0 ≤ (wrap64 ((wrap64 ((l0.length : Int) - (l1.length : Int))) + 1)) then (if (wrap64 ((wrap64 ((l0.length : Int) - (l1.length : Int))) + 1) : Int).toNat ≤ 35184372088832 then ((some (List.replicate (wrap64 ((wrap64 ((l0.length : Int) - (l1.length : Int))) + 1) : Int).toNat 0 : List Int)).bind fun y270 => (spec_sgDivide.l0 k l1 t267 y270 (wrap64 ((y270.length : Int) - 1)))) else (none)) else (none)))) = some (r1, r2) := h
 clear h
 by_cases c3 : (l0.length : Int) < (l1.length : Int)
 ·rw [if_pos c3] at H
  have c3b0 : decide ((l0.length : Int) < (l1.length : Int)) = true := decide_eq_true c3
  have c3b1 : decide (l0.length < l1.length) = true := decide_eq_true (Int.ofNat_lt.mp c3)
  clear c3
  simp only [Option.some.injEq, Prod.mk.injEq] at H
  obtain ⟨rfl, rfl⟩ := H
  go_enter Try.func95, Try.ntmps95
  go_wp2
  go_ret2
  exact ⟨_, er, by first | exact Kd.R_nil _ _ _ _ _ | exact Kd.N_nil _ _ _ _ _ | exact Kd.V_nil _ _ _ _ _ | exact Kd.Q_nil _ _ _ _ _ | exact Kd.S_nil _ _ _ _ _, bz⟩
 ·rw [if_neg c3] at H
  have c3b0 : decide ((l0.length : Int) < (l1.length : Int)) = false := decide_eq_false c3
  have c3b1 : decide (l0.length < l1.length) = false := decide_eq_false (fun h => c3 (Int.ofNat_lt.mpr h))
  clear c3
  obtain ⟨t267, A4, H⟩ := bi H
  obtain ⟨ji5, hji5⟩ : ∃ j_ : Int, (wrap64 ((wrap64 ((l0.length : Int) - (l1.length : Int))) + 1)) = j_ := ⟨_, rfl⟩
  first | rw [hji5] at H | simp only [hji5] at H
  (try rw [hji5] at A4)
  have hji5w : (IntKind.i64.wrap ((wrap64 ((l0.length : Int) - (l1.length : Int))) + 1)) = ji5 := (i64_w _).trans hji5
  by_cases c6 : 0 ≤ (ji5)
  ·rw [if_pos c6] at H
   have c6b0 := eq_true c6
   have c6b1 : decide (0 ≤ (ji5)) = true := decide_eq_true c6
   clear c6
   by_cases c7 : (ji5 : Int).toNat ≤ 35184372088832
   ·rw [if_pos c7] at H
    have c7b0 := eq_true c7
    have c7b1 : decide ((ji5 : Int).toNat ≤ 35184372088832) = true := decide_eq_true c7
    clear c7
    obtain ⟨y270, hy270⟩ : ∃ y_ : List Int, y_ = (List.replicate (ji5 : Int).toNat 0) := ⟨_, rfl⟩
    replace H : (spec_sgDivide.l0 k l1 t267 y270 (wrap64 ((y270.length : Int) - 1))) = some (r1, r2) := by first | (rw [hy270]; with_reducible exact H) | (have H2_ := (Option.bind_some _ _).symm.trans H; rw [hy270]; with_reducible exact H2_) | (have H2_ := (Option.bind_some _ _).symm.trans H; with_reducible exact H2_) | with_reducible exact H | (rw [hy270]; exact H) | exact H
    have Ny270 := Aside0.mk hy270
    clear hy270
    have H' := Aside0.mk H
    clear H
    go_enter Try.func95, Try.ntmps95
    go_wp2_with (first | ((with_reducible refine gate_callee (f := 121) rfl ?_); refine goesL_ (some 22) rfl rfl Try.func121 kf rfl #[.slice A0 l0.length c0] rfl sm ?_; (with_reducible refine (spec_l1Own.calls _ _ l0 t267 _ ?side1 ?side2 A4.out).mono ?_); (case side1 => exact cc HR0); (case side2 => exact HC0.out); rintro e w8 ⟨v268, rfl, ho0, hb⟩; refine ⟨_, rfl, ?_⟩; have n0_ := Aside0.mk (Kd.R_lower ho0 (below_size bz)); have n1_ := Aside0.mk (below_step bz hb); clear HB; have HO269 := n0_; have HB := n1_; clear n0_ n1_; (try clear hb); (try clear hb2); (try clear hk); (try clear hi); (try clear ho0)) | ((with_reducible refine gate_dst (N := 29) rfl ?_); refine Kd.R_make (Kd.int .i64) _ 3 rfl (N := 29) rfl 22 _ _ rfl ji5 rfl rfl Try.underlying22 (.int .i64 0) 8 info3 rfl (by decide) (by omega) 0 (ok := fun _ => True) (okp := fun _ => True) rfl (fun _ hk => hk) trivial (of_decide_eq_true am) (Nat.le_trans (Nat.mul_le_mul_right _ (of_decide_eq_true am : ji5.toNat ≤ 35184372088832)) (by omega)) (Below.refl _ _) (Nat.le_refl _) ?_; intro v271 w9 ho10 hb hg_ hnew_; clear hg_ hnew_; (first | rw [← Ny270.out] at ho10 | (simp only [Int.reduceToNat] at ho10; rw [← Ny270.out] at ho10)); have n0_ := Aside0.mk (Kd.R_elder' (kr HO269) (Kd.R_base ho10) hb); have n1_ := Aside0.mk (Kd.R_lower (Kd.R_new' ho10 (Kd.R_lt (kr HO269))) (below_size bz)); have n2_ := Aside0.mk (below_step bz hb); clear HO269; clear HB; have HO269 := n0_; have HO272 := n1_; have HB := n2_; clear n0_ n1_ n2_; clear hb ho10; obtain ⟨Ao11, co11, eo11⟩ := Kd.R_slice HO272.out; subst eo11))
    go_loopg [8] k (fun kq v8 w' => ∃ (x6_1 : List Int) (x7_1 : List Int) (x8_1 : Int), v8 = .int .i64 x8_1 ∧ Aside0 (spec_sgDivide.l0 kq l1 x6_1 x7_1 x8_1 = some (r1, r2)) ∧ Aside0 (kq ≤ k) ∧ Aside0 (Kd.R (Kd.int .i64) 3 w' w.heap.size (fun k_ => some k_ ≠ ((.slice Ao11 y270.length co11) : Value).ownBlock) v268 x6_1) ∧ Aside0 (Kd.R (Kd.int .i64) 3 w' w.heap.size (fun k_ => some k_ ≠ (v268 : Value).ownBlock) (.slice Ao11 y270.length co11) x7_1) ∧ Aside0 (Below w.heap.size w w'))
    case atStart => exact ⟨(t267), (y270), (wrap64 ((y270.length : Int) - 1)), sr, H', ⟨Nat.le_refl _⟩, ⟨by (with_reducible repeat (first | apply Kd.R_alloc | apply Kd.R_drewN | apply Kd.R_drew)); exact Kd.R_mono HO269.out (fun _ hk => hk.2)⟩, ⟨by (with_reducible repeat (first | apply Kd.R_alloc | apply Kd.R_drewN | apply Kd.R_drew)); exact Kd.R_mono HO272.out (fun _ hk => hk.2)⟩, ⟨bz⟩⟩
    case round =>
     clear H'
     try clear c1; try clear p2; try clear c3; try clear c3b0; try clear c3b1; try clear c6; try clear c6b0; try clear c6b1; try clear p6; try clear c7; try clear c7b0; try clear c7b1; try clear c9
     obtain ⟨x6_1, x7_1, x8_1, rfl, HA, HK1, HO_6, HO_7, HB⟩ := hrel
     have hl7_1 := (Kd.R_reads' HO_7.out).1
     rw [hl7_1] at HO_7
     (try simp only [hl7_1])
     (try simp only [hl7_1] at HO_6)
     cases gk with
     | zero => exact absurd HA.out (by simp [spec_sgDivide.l0])
     | succ k1 =>
      have H := HA.out
      clear HA
      simp only [spec_sgDivide.l0] at H
      by_cases c12 : x8_1 ≥ 0
      ·rw [if_pos c12] at H
       have c12b0 : decide (0 ≤ x8_1) = true := decide_eq_true c12
       clear c12
       obtain ⟨ji13, hji13⟩ : ∃ j_ : Int, (wrap64 ((wrap64 (x8_1 + (l1.length : Int))) - 1)) = j_ := ⟨_, rfl⟩
       first | rw [hji13] at H | simp only [hji13] at H
       have hji13w : (IntKind.i64.wrap ((wrap64 (x8_1 + (l1.length : Int))) - 1)) = ji13 := (i64_w _).trans hji13
       by_cases c14 : 0 ≤ (ji13)
       ·rw [if_pos c14] at H
        have c14b0 : decide (0 ≤ (ji13)) = true := decide_eq_true c14
        clear c14
        by_cases c15 : (ji13) < (x6_1.length : Int)
        ·rw [if_pos c15] at H
         have c15b0 : decide ((ji13) < (x6_1.length : Int)) = true := decide_eq_true c15
         (try (have c15b0l : _ := c15b0; rw [hl7_1] at c15b0l))
         clear c15
         obtain ⟨ji16, hji16⟩ : ∃ j_ : Int, (wrap64 ((l1.length : Int) - 1)) = j_ := ⟨_, rfl⟩
         first | rw [hji16] at H | simp only [hji16] at H
         have hji16w : (IntKind.i64.wrap ((l1.length : Int) - 1)) = ji16 := (i64_w _).trans hji16
         by_cases c17 : 0 ≤ (ji16)
         ·rw [if_pos c17] at H
          have c17b0 : decide (0 ≤ (ji16)) = true := decide_eq_true c17
          clear c17
          by_cases c18 : (ji16) < (l1.length : Int)
          ·rw [if_pos c18] at H
           have c18b0 : decide ((ji16) < (l1.length : Int)) = true := decide_eq_true c18
           (try (have c18b0l : _ := c18b0; rw [hl7_1] at c18b0l))
           clear c18
           have HC19 := Aside0.mk H
           clear H
           try go_wp2
           have n0_ := Aside0.mk (Kd.R_drew HO_6.out)
           have n1_ := Aside0.mk (Kd.R_drew HO_7.out)
           have n2_ := Aside0.mk (below_drew1 HB.out)
           clear HO_6 HO_7 HB
           have HO_6 := n0_
           have HO_7 := n1_
           have HB := n2_
           clear n0_ n1_ n2_
           obtain ⟨Ao21, co21, eo21⟩ := Kd.R_slice HO_6.out
           (first | subst eo21 | (injection eo21 with f1_ f2_ f3_; have f4_ := f1_.symm; have f5_ := f3_.symm; clear f1_ f2_ f3_; subst f4_; subst f5_))
           have p274 : 0 ≤ ((ji13) : Int) := of_decide_eq_true am
           have q274 : (ji13) < (x6_1.length : Int) := of_decide_eq_true am
           obtain ⟨ad274, e274, hx274_0⟩ := Kd.at_int (Kd.R_reads' HO_6.out).2.2 (ji13) p274 q274
           cases e274
           replace p274 := eq_true p274
           replace q274 := eq_true q274
           have p275 : 0 ≤ ((ji16) : Int) := of_decide_eq_true am
           have q275 : (ji16) < (l1.length : Int) := of_decide_eq_true am
           obtain ⟨ad275, e275, hx275_0⟩ := Kd.at_int HR1.out (ji16) p275 q275
           have hw275_0 := hx275_0
           cases e275
           replace hx275_0 := (HB.out.cell (World.block_lt_of_cell? w _ hx275_0)).trans hx275_0
           replace p275 := eq_true p275
           replace q275 := eq_true q275
           refine start_ (n := 16) (S := fun w' => w'.cell? (ad274.add ((ji13)).toNat) = some (.int .i64 (rd x6_1 (ji13))) ∧ w'.cell? (ad275.add ((ji16)).toNat) = some (.int .i64 (rd l1 (ji16)))) (ds := []) #[fF, fF, fF, fF, fF, fF, fF, fF, fF, fF, fF, fF, fF, fF, fF, fF] kf rfl rfl ⟨hx274_0, ((HB.out.cell (World.block_lt_of_cell? w _ hw275_0)).trans hw275_0)⟩ (fun hHeld => ?_); refine with_tabW spec_sgDivide.tab8 spec_sgDivide.bits8 (fun HT_ HW_ => ?_)
           generalize wr.drew = w20 at HO_6 HO_7 HB hx274_0 hx275_0 hHeld ⊢
           refine pq (i := 0) (N := some 37) #[tT, fF, fF, fF, fF, fF, fF, fF, fF, fF, fF, fF, fF, fF, fF, fF] rfl rfl HT_.out ?_
           refine pq (i := 1) (N := some 38) #[tT, tT, fF, fF, fF, fF, fF, fF, fF, fF, fF, fF, fF, fF, fF, fF] rfl rfl HT_.out ?_
           refine pq (i := 2) (N := some 39) #[tT, tT, tT, fF, fF, fF, fF, fF, fF, fF, fF, fF, fF, fF, fF, fF] rfl rfl HT_.out ?_
           refine pq (i := 3) (N := some 40) #[tT, tT, tT, tT, fF, fF, fF, fF, fF, fF, fF, fF, fF, fF, fF, fF] rfl rfl HT_.out ?_
           refine pq (i := 4) (N := some 41) #[tT, tT, tT, tT, tT, fF, fF, fF, fF, fF, fF, fF, fF, fF, fF, fF] rfl rfl HT_.out ?_
           refine pq (i := 5) (N := some 42) #[tT, tT, tT, tT, tT, tT, fF, fF, fF, fF, fF, fF, fF, fF, fF, fF] rfl rfl HT_.out ?_
           refine pq (i := 6) (N := some 43) #[tT, tT, tT, tT, tT, tT, tT, fF, fF, fF, fF, fF, fF, fF, fF, fF] rfl rfl HT_.out ?_
           refine pq (i := 8) (N := some 45) #[tT, tT, tT, tT, tT, tT, tT, fF, tT, fF, fF, fF, fF, fF, fF, fF] rfl rfl HT_.out ?_
           refine pq (i := 9) (N := some 46) #[tT, tT, tT, tT, tT, tT, tT, fF, tT, tT, fF, fF, fF, fF, fF, fF] rfl rfl HT_.out ?_
           refine pq (i := 10) (N := some 47) #[tT, tT, tT, tT, tT, tT, tT, fF, tT, tT, tT, fF, fF, fF, fF, fF] rfl rfl HT_.out ?_
           refine pq (i := 11) (N := some 48) #[tT, tT, tT, tT, tT, tT, tT, fF, tT, tT, tT, tT, fF, fF, fF, fF] rfl rfl HT_.out ?_
           refine pq (i := 12) (N := some 49) #[tT, tT, tT, tT, tT, tT, tT, fF, tT, tT, tT, tT, tT, fF, fF, fF] rfl rfl HT_.out ?_
           refine tq2 (i := 7) (N := some 44) #[tT, tT, tT, tT, tT, tT, tT, tT, tT, tT, tT, tT, tT, fF, fF, fF] rfl rfl HT_.out HW_.out hHeld ?_
           refine pq (i := 14) (N := some 9) #[tT, tT, tT, tT, tT, tT, tT, tT, tT, tT, tT, tT, tT, fF, tT, fF] rfl rfl HT_.out ?_
           refine tq2 (i := 13) (N := some 50) #[tT, tT, tT, tT, tT, tT, tT, tT, tT, tT, tT, tT, tT, tT, tT, fF] rfl rfl HT_.out HW_.out hHeld ?_
           refine pq (i := 15) (N := some 10) #[tT, tT, tT, tT, tT, tT, tT, tT, tT, tT, tT, tT, tT, tT, tT, tT] rfl rfl HT_.out ?_
           refine done_ (done_of HT_.out kf) ?_
           go_upto_region 9 with (fail)
           go_cut [61] (fun v61 wc => ∃ (kq : Nat) (x61_18 : Bool), v61 = .bool x61_18 ∧ Aside0 (spec_sgDivide.j1 kq l1 x6_1 x7_1 x8_1 (rd x6_1 (ji13)) (rd l1 (ji16)) x61_18 = some (r1, r2)) ∧ Aside0 (kq ≤ k1) ∧ Aside0 (Kd.R (Kd.int .i64) 3 wc w.heap.size (fun k_ => some k_ ≠ ((.slice Ao11 x7_1.length co11) : Value).ownBlock) (.slice (some ad274) x6_1.length co21) x6_1) ∧ Aside0 (Kd.R (Kd.int .i64) 3 wc w.heap.size (fun k_ => some k_ ≠ ((.slice (some ad274) x6_1.length co21) : Value).ownBlock) (.slice Ao11 x7_1.length co11) x7_1) ∧ Aside0 (Below w.heap.size w wc))
           case first =>
            have H := HC19.out
            clear HC19
            by_cases c22 : (rd l1 (ji16)) = 0
            ·rw [if_pos c22] at H
             exact absurd H (by simp)
            ·rw [if_neg c22] at H
             have c22b0 : ((rd l1 (ji16)) == 0) = false := beq_eq_false_iff_ne.mpr c22
             have c22b1 : ((rd l1 (ji16)) != 0) = true := bne_iff_ne.mpr c22
             (first | rw [c22b0] | (simp only [i64_w, i32_w]; rw [c22b0]) | skip)
             by_cases c23 : (Int.tmod (rd x6_1 (ji13)) (rd l1 (ji16))) = 0
             ·rw [if_pos c23] at H
              have c23b0 : ((Int.tmod (rd x6_1 (ji13)) (rd l1 (ji16))) == 0) = true := beq_iff_eq.mpr c23
              have c23b1 : ((Int.tmod (rd x6_1 (ji13)) (rd l1 (ji16))) != 0) = false := bne_eq_false_iff_eq.mpr c23
              clear c23
              obtain ⟨t276, A24, H⟩ := bi H
              have H' := Aside0.mk H
              clear H
              go_wp2_with (first | (go_at_call 78; (with_reducible refine (spec_l1In.calls (wrap64 (Int.tdiv (rd x6_1 (ji13)) (rd l1 (ji16)))) (-1000000000) 1000000000 t276 _ A24.out).mono ?_); rintro e w' ⟨rfl, ⟨nd, rfl⟩⟩))
              go_meet
              case rel => exact ⟨_, (!t276), sr, H', ⟨by have := HK1.out; first | omega | exact Nat.le_refl _⟩, ⟨by (try simp only [hl7_1]); (with_reducible repeat (first | apply Kd.R_alloc | apply Kd.R_drewN | apply Kd.R_drew)); exact HO_6.out⟩, ⟨by (try simp only [hl7_1]); (with_reducible repeat (first | apply Kd.R_alloc | apply Kd.R_drewN | apply Kd.R_drew)); exact HO_7.out⟩, ⟨bz⟩⟩
             ·rw [if_neg c23] at H
              have c23b0 : ((Int.tmod (rd x6_1 (ji13)) (rd l1 (ji16))) == 0) = false := beq_eq_false_iff_ne.mpr c23
              have c23b1 : ((Int.tmod (rd x6_1 (ji13)) (rd l1 (ji16))) != 0) = true := bne_iff_ne.mpr c23
              have H' := Aside0.mk H
              clear H
              go_wp2
              go_meet
              case rel => exact ⟨_, (true), sr, H', ⟨by have := HK1.out; first | omega | exact Nat.le_refl _⟩, ⟨by (try simp only [hl7_1]); (with_reducible repeat (first | apply Kd.R_alloc | apply Kd.R_drewN | apply Kd.R_drew)); exact HO_6.out⟩, ⟨by (try simp only [hl7_1]); (with_reducible repeat (first | apply Kd.R_alloc | apply Kd.R_drewN | apply Kd.R_drew)); exact HO_7.out⟩, ⟨bz⟩⟩
           case rest =>
            clear HC19
            try clear c1; try clear c2; try clear p2; try clear q2; try clear hx2; try clear c3; try clear c3b0; try clear c3b1; try clear c6; try clear c6b0; try clear c6b1; try clear p6; try clear c7; try clear c7b0; try clear c7b1; try clear c9; try clear c12; try clear c12b0; try clear c14; try clear c14b0; try clear c15; try clear c15b0; try clear c17; try clear c17b0; try clear c18; try clear c18b0; try clear c22; try clear c22b0; try clear c22b1; try clear c23; try clear c23b0; try clear c23b1; try clear hx274_0; try clear hx275_0; try clear p2; try clear p274; try clear p275; try clear p6; try clear q274; try clear q275
            obtain ⟨kq, x61_18, rfl, HA, HJ18, HO_6, HO_7, HB⟩ := hcut
            cases kq with
            | zero => exact absurd HA.out (by simp [spec_sgDivide.j1])
            | succ kj18 =>
             have H := HA.out
             clear HA
             simp only [spec_sgDivide.j1] at H
             by_cases c25 : x61_18 = true
             ·subst c25
              rw [if_pos rfl] at H
              simp only [Option.some.injEq, Prod.mk.injEq] at H
              obtain ⟨rfl, rfl⟩ := H
              go_wp2
              go_ret2
              exact ⟨_, by first | rfl | (simp [errW_none, errW_some] <;> rfl) | (simp only [← hji5, ← hji13, ← hji16]; first | rfl | (simp [errW_none, errW_some] <;> rfl)) | (simp [*, errW_none, errW_some] <;> rfl), by first | exact Kd.R_nil _ _ _ _ _ | exact Kd.N_nil _ _ _ _ _ | exact Kd.V_nil _ _ _ _ _ | exact Kd.Q_nil _ _ _ _ _ | exact Kd.S_nil _ _ _ _ _, bz⟩
             ·replace c25 := Bool.eq_false_iff.mpr c25
              subst c25
              rw [if_neg (show ¬ (false = true) by decide)] at H
              by_cases c26 : (rd l1 (ji16)) = 0
              ·rw [if_pos c26] at H
               exact absurd H (by simp)
              ·rw [if_neg c26] at H
               have c26b0 : ((rd l1 (ji16)) == 0) = false := beq_eq_false_iff_ne.mpr c26
               have c26b1 : ((rd l1 (ji16)) != 0) = true := bne_iff_ne.mpr c26
               by_cases c27 : 0 ≤ x8_1
               ·rw [if_pos c27] at H
                have c27b0 : decide (0 ≤ x8_1) = true := decide_eq_true c27
                clear c27
                by_cases c28 : x8_1 < (x7_1.length : Int)
                ·rw [if_pos c28] at H
                 have c28b0 : decide (x8_1 < (x7_1.length : Int)) = true := decide_eq_true c28
                 (try (have c28b0l : _ := c28b0; rw [hl7_1] at c28b0l))
                 clear c28
                 obtain ⟨y277, hy277⟩ : ∃ y_ : List Int, y_ = (x7_1.set (x8_1 : Int).toNat (wrap64 (Int.tdiv (rd x6_1 (ji13)) (rd l1 (ji16))))) := ⟨_, rfl⟩
                 replace H : (spec_sgDivide.l1 kj18 l1 x6_1 y277 x8_1 l1 (l1.length : Int) 0) = some (r1, r2) := by first | (rw [hy277]; with_reducible exact H) | (have H2_ := (Option.bind_some _ _).symm.trans H; rw [hy277]; with_reducible exact H2_) | (have H2_ := (Option.bind_some _ _).symm.trans H; with_reducible exact H2_) | with_reducible exact H | (rw [hy277]; exact H) | exact H
                 have Ny277 := Aside0.mk hy277
                 clear hy277
                 have H' := Aside0.mk H
                 clear H
                 have p29 : 0 ≤ (x8_1 : Int) := of_decide_eq_true am
                 have q29 : (x8_1 : Int) < ((x7_1.length : Int) : Int) := of_decide_eq_true am
                 obtain ⟨go29, co29, eo29, gb29, gl29, cl29, HG29⟩ := Kd.R_form HO_7.out (by omega)
                 (first | cases eo29 | (injection eo29 with ea_ en_ ec_; (first | subst ea_ | (injection ea_ with ea_; subst ea_)); subst ec_; clear en_))
                 have GB29 := Aside0.mk gb29
                 have GG29 := Aside0.mk HG29
                 clear gb29 gl29 HG29
                 obtain ⟨hx29_0, hf29_0⟩ := Kd.R_celln 0 HO_7.out (x8_1 : Int) p29 q29
                 replace p29 := eq_true p29
                 replace q29 := eq_true q29
                 have HP30 := Kd.R_putg HO_7.out (x8_1 : Int) (wrap64 (Int.tdiv (rd x6_1 (ji13)) (rd l1 (ji16))))
                 go_wp2_with (first | ((with_reducible refine gate_store (t := 3) (p := 67) rfl ?_); refine store_event (t := 3) (p := 67) (v := ?vo_w31) (w1 := (wc.setCell ⟨go29, (x8_1 : Int).toNat, none⟩ (.int .i64 (wrap64 (Int.tdiv (rd x6_1 (ji13)) (rd l1 (ji16))))))) ?hg ?ho ?hn ?hr ?_; (case ho => rfl); (case hg => rfl); (case hn => rfl); (case hr => first | (go_simp; done) | (go_simp; rfl)); intro w31 hw; have hg : wc.grownBy w31 (some go29) := (by rw [hw]; exact HP30.2); have hp_ : Kd.R (Kd.int .i64) 3 w31 w.heap.size (fun k_ => some k_ ≠ (.slice (some ad274) x6_1.length co21 : Value).ownBlock) (.slice (some ⟨go29, 0, none⟩) x7_1.length co11) y277 := (by rw [hw, Ny277.out]; exact HP30.1); clear HP30; have n0_ := Aside0.mk (Kd.R_after (v := (.slice (some ⟨go29, 0, none⟩) x7_1.length co11)) (v1 := (.slice (some ⟨go29, 0, none⟩) x7_1.length co11)) (ok := (fun _ => True)) (by (with_reducible repeat (first | apply Kd.R_alloc | apply Kd.R_drewN | apply Kd.R_drew)); exact Kd.R_mono HO_6.out (fun _ hk => ⟨trivial, hk⟩)) hg (.inl rfl)); have n1_ := Aside0.mk (hp_); have n2_ := Aside0.mk ((by rw [hw]; exact below_set (HB.out) GB29.out : Below w.heap.size w w31)); clear HO_6; clear HO_7; clear HB; have HO_6 := n0_; have HO_7 := n1_; have HB := n2_; clear n0_ n1_ n2_; clear hg hw hp_))
                 go_loopg [70] kj18 (fun kq v70 w' => ∃ (x6_3 : List Int) (x70_3 : Int), v70 = .int .i64 x70_3 ∧ Aside0 (spec_sgDivide.l1 kq l1 x6_3 y277 x8_1 l1 (l1.length : Int) x70_3 = some (r1, r2)) ∧ Aside0 (kq ≤ kj18) ∧ Aside0 (Kd.R (Kd.int .i64) 3 w' w.heap.size (fun k_ => some k_ ≠ ((.slice (some ⟨go29, 0, none⟩) x7_1.length co11) : Value).ownBlock) (.slice (some ad274) x6_1.length co21) x6_3) ∧ Aside0 (Kd.R (Kd.int .i64) 3 w' w.heap.size (fun k_ => some k_ ≠ ((.slice (some ad274) x6_1.length co21) : Value).ownBlock) (.slice (some ⟨go29, 0, none⟩) x7_1.length co11) y277) ∧ Aside0 (Below w.heap.size w w'))
                 case atStart => exact ⟨(x6_1), (0), sr, H', ⟨Nat.le_refl _⟩, ⟨by (try simp only [hl7_1]); (with_reducible repeat (first | apply Kd.R_alloc | apply Kd.R_drewN | apply Kd.R_drew)); exact Kd.R_mono HO_6.out (fun _ hk => hk.2)⟩, ⟨by (try simp only [hl7_1]); (with_reducible repeat (first | apply Kd.R_alloc | apply Kd.R_drewN | apply Kd.R_drew)); exact HO_7.out⟩, ⟨bz⟩⟩
                 case round =>
                  clear H'
                  try clear c1; try clear c2; try clear p2; try clear q2; try clear hx2; try clear hf2; try clear c3; try clear c3b0; try clear c3b1; try clear c6; try clear c6b0; try clear c6b1; try clear p6; try clear c7; try clear c7b0; try clear c7b1; try clear c9; try clear c12; try clear c12b0; try clear c14; try clear c14b0; try clear c15; try clear c15b0; try clear c17; try clear c17b0; try clear c18; try clear c18b0; try clear c22; try clear c22b0; try clear c22b1; try clear c23; try clear c23b0; try clear c23b1; try clear c25; try clear c26; try clear c26b0; try clear c26b1; try clear c27; try clear c27b0; try clear p27; try clear q27; try clear hx27; try clear c28; try clear c28b0; try clear p29; try clear q29; try clear hx29; try clear hf29; try clear hx274_0; try clear hx275_0; try clear hx29_0; try clear p2; try clear p274; try clear p275; try clear p29; try clear p6; try clear q2; try clear q274; try clear q275; try clear q29
                  obtain ⟨x6_3, x70_3, rfl, HA, HK3, HO_6, HO_7, HB⟩ := hrel
                  have hl6_3 := (Kd.R_reads' HO_6.out).1
                  rw [hl6_3] at HO_6
                  (try simp only [hl6_3])
                  (try simp only [hl6_3] at HO_7)
                  have hl7_3 := (Kd.R_reads' HO_7.out).1
                  rw [hl7_3] at HO_7
                  (try simp only [hl7_3])
                  (try simp only [hl7_3] at HO_6)
                  cases gk with
                  | zero => exact absurd HA.out (by simp [spec_sgDivide.l1])
                  | succ k3 =>
                   have H := HA.out
                   clear HA
                   simp only [spec_sgDivide.l1] at H
                   by_cases c32 : x70_3 < (l1.length : Int)
                   ·rw [if_pos c32] at H
                    have c32b0 : decide (x70_3 < (l1.length : Int)) = true := decide_eq_true c32
                    (try (have c32b0l : _ := c32b0; rw [hl7_1] at c32b0l))
                    (try (have c32b0l : _ := c32b0; rw [hl6_3] at c32b0l))
                    (try (have c32b0l : _ := c32b0; rw [hl7_3] at c32b0l))
                    clear c32
                    by_cases c33 : 0 ≤ x70_3
                    ·rw [if_pos c33] at H
                     have c33b0 : decide (0 ≤ x70_3) = true := decide_eq_true c33
                     clear c33
                     by_cases c34 : x70_3 < (l1.length : Int)
                     ·rw [if_pos c34] at H
                      have c34b0 : decide (x70_3 < (l1.length : Int)) = true := decide_eq_true c34
                      (try (have c34b0l : _ := c34b0; rw [hl7_1] at c34b0l))
                      (try (have c34b0l : _ := c34b0; rw [hl6_3] at c34b0l))
                      (try (have c34b0l : _ := c34b0; rw [hl7_3] at c34b0l))
                      clear c34
                      obtain ⟨ji35, hji35⟩ : ∃ j_ : Int, (wrap64 (x8_1 + x70_3)) = j_ := ⟨_, rfl⟩
                      first | rw [hji35] at H | simp only [hji35] at H
                      have hji35w : (IntKind.i64.wrap (x8_1 + x70_3)) = ji35 := (i64_w _).trans hji35
                      by_cases c36 : 0 ≤ (ji35)
                      ·rw [if_pos c36] at H
                       have c36b0 : decide (0 ≤ (ji35)) = true := decide_eq_true c36
                       clear c36
                       by_cases c37 : (ji35) < (x6_3.length : Int)
                       ·rw [if_pos c37] at H
                        have c37b0 : decide ((ji35) < (x6_3.length : Int)) = true := decide_eq_true c37
                        (try (have c37b0l : _ := c37b0; rw [hl7_1] at c37b0l))
                        (try (have c37b0l : _ := c37b0; rw [hl6_3] at c37b0l))
                        (try (have c37b0l : _ := c37b0; rw [hl7_3] at c37b0l))
                        clear c37
                        by_cases c38 : 0 ≤ x8_1
                        ·rw [if_pos c38] at H
                         have c38b0 : decide (0 ≤ x8_1) = true := decide_eq_true c38
                         clear c38
                         by_cases c39 : x8_1 < (y277.length : Int)
                         ·rw [if_pos c39] at H
                          have c39b0 : decide (x8_1 < (y277.length : Int)) = true := decide_eq_true c39
                          (try (have c39b0l : _ := c39b0; rw [hl7_1] at c39b0l))
                          (try (have c39b0l : _ := c39b0; rw [hl6_3] at c39b0l))
                          (try (have c39b0l : _ := c39b0; rw [hl7_3] at c39b0l))
                          clear c39
                          obtain ⟨y281, hy281⟩ : ∃ y_ : List Int, y_ = (x6_3.set ((ji35) : Int).toNat (wrap64 ((rd x6_3 (ji35)) - (wrap64 ((rd y277 x8_1) * (rd l1 x70_3)))))) := ⟨_, rfl⟩
                          replace H : (spec_sgDivide.l1 k3 l1 y281 y277 x8_1 l1 (l1.length : Int) (wrap64 (x70_3 + 1))) = some (r1, r2) := by first | (rw [hy281]; with_reducible exact H) | (have H2_ := (Option.bind_some _ _).symm.trans H; rw [hy281]; with_reducible exact H2_) | (have H2_ := (Option.bind_some _ _).symm.trans H; with_reducible exact H2_) | with_reducible exact H | (rw [hy281]; exact H) | exact H
                          have Ny281 := Aside0.mk hy281
                          clear hy281
                          have H' := Aside0.mk H
                          clear H
                          have p278 : 0 ≤ (x70_3 : Int) := of_decide_eq_true am
                          have q278 : x70_3 < (l1.length : Int) := of_decide_eq_true am
                          obtain ⟨ad278, e278, hx278_0⟩ := Kd.at_int HR1.out x70_3 p278 q278
                          obtain rfl : ad275 = ad278 := (by injection e278)
                          replace hx278_0 := (HB.out.cell (World.block_lt_of_cell? w _ hx278_0)).trans hx278_0
                          replace p278 := eq_true p278
                          replace q278 := eq_true q278
                          try go_wp2
                          have n0_ := Aside0.mk (Kd.R_drew HO_6.out)
                          have n1_ := Aside0.mk (Kd.R_drew HO_7.out)
                          have n2_ := Aside0.mk (below_drew1 HB.out)
                          clear HO_6 HO_7 HB
                          have HO_6 := n0_
                          have HO_7 := n1_
                          have HB := n2_
                          clear n0_ n1_ n2_
                          have p279 : 0 ≤ ((ji35) : Int) := of_decide_eq_true am
                          have q279 : (ji35) < (x6_3.length : Int) := of_decide_eq_true am
                          obtain ⟨ad279, e279, hx279_0⟩ := Kd.at_int (Kd.R_reads' HO_6.out).2.2 (ji35) p279 q279
                          obtain rfl : ad274 = ad279 := (by injection e279)
                          replace p279 := eq_true p279
                          replace q279 := eq_true q279
                          have p280 : 0 ≤ (x8_1 : Int) := of_decide_eq_true am
                          have q280 : x8_1 < (y277.length : Int) := of_decide_eq_true am
                          obtain ⟨ad280, e280, hx280_0⟩ := Kd.at_int (Kd.R_reads' HO_7.out).2.2 x8_1 p280 q280
                          obtain rfl : (⟨go29, 0, none⟩ : Addr) = ad280 := (by injection e280)
                          (first | simp only [add_plain] at hx280_0 | simp only [add_at] at hx280_0 | simp only [Addr.add, Nat.zero_add] at hx280_0 | skip)
                          replace p280 := eq_true p280
                          replace q280 := eq_true q280
                          have p40 : 0 ≤ ((ji35) : Int) := of_decide_eq_true am
                          have q40 : ((ji35) : Int) < ((x6_3.length : Int) : Int) := of_decide_eq_true am
                          obtain ⟨go40, co40, eo40, gb40, gl40, cl40, HG40⟩ := Kd.R_form HO_6.out (by omega)
                          (first | cases eo40 | (injection eo40 with ea_ en_ ec_; (first | subst ea_ | (injection ea_ with ea_; subst ea_)); subst ec_; clear en_))
                          have GB40 := Aside0.mk gb40
                          have GG40 := Aside0.mk HG40
                          clear gb40 gl40 HG40
                          (first | simp only [add_plain] at hx274_0 | skip)
                          (first | simp only [add_plain] at hx279_0 | skip)
                          obtain ⟨hx40_0, hf40_0⟩ := Kd.R_celln 0 HO_6.out ((ji35) : Int) p40 q40
                          replace p40 := eq_true p40
                          replace q40 := eq_true q40
                          have HP42 := Kd.R_putn HO_6.out ((ji35) : Int) (wrap64 ((rd x6_3 (ji35)) - (wrap64 ((rd y277 x8_1) * (rd l1 x70_3)))))
                          rw [← Ny281.out] at HP42
                          have HQ42 := Aside0.mk HP42
                          clear HP42
                          refine start_ (n := 15) (S := fun w' => w'.cell? ⟨go40, ((ji35)).toNat, none⟩ = some (.int .i64 (rd x6_3 (ji35))) ∧ w'.cell? ⟨go29, (x8_1).toNat, none⟩ = some (.int .i64 (rd y277 x8_1))) (ds := [14]) #[fF, fF, fF, fF, fF, fF, fF, fF, fF, fF, fF, fF, fF, fF, fF] kf rfl rfl ⟨hx279_0, hx280_0⟩ (fun hHeld => ?_); refine with_tabW spec_sgDivide.tab15 spec_sgDivide.bits15 (fun HT_ HW_ => ?_)
                          generalize wr.drew = w41 at HO_6 HO_7 HB GG40 HQ42 hf40_0 hx279_0 hx280_0 hx40_0 hHeld ⊢
                          refine pq (i := 0) (N := some 75) #[tT, fF, fF, fF, fF, fF, fF, fF, fF, fF, fF, fF, fF, fF, fF] rfl rfl HT_.out ?_
                          refine pq (i := 1) (N := some 76) #[tT, tT, fF, fF, fF, fF, fF, fF, fF, fF, fF, fF, fF, fF, fF] rfl rfl HT_.out ?_
                          refine pq (i := 2) (N := some 77) #[tT, tT, tT, fF, fF, fF, fF, fF, fF, fF, fF, fF, fF, fF, fF] rfl rfl HT_.out ?_
                          refine pq (i := 3) (N := some 78) #[tT, tT, tT, tT, fF, fF, fF, fF, fF, fF, fF, fF, fF, fF, fF] rfl rfl HT_.out ?_
                          refine pq (i := 4) (N := some 79) #[tT, tT, tT, tT, tT, fF, fF, fF, fF, fF, fF, fF, fF, fF, fF] rfl rfl HT_.out ?_
                          refine pq (i := 6) (N := some 81) #[tT, tT, tT, tT, tT, fF, tT, fF, fF, fF, fF, fF, fF, fF, fF] rfl rfl HT_.out ?_
                          refine pq (i := 7) (N := some 82) #[tT, tT, tT, tT, tT, fF, tT, tT, fF, fF, fF, fF, fF, fF, fF] rfl rfl HT_.out ?_
                          refine pq (i := 8) (N := some 83) #[tT, tT, tT, tT, tT, fF, tT, tT, tT, fF, fF, fF, fF, fF, fF] rfl rfl HT_.out ?_
                          refine pq (i := 10) (N := some 85) #[tT, tT, tT, tT, tT, fF, tT, tT, tT, fF, tT, fF, fF, fF, fF] rfl rfl HT_.out ?_
                          refine tq2 (i := 5) (N := some 80) #[tT, tT, tT, tT, tT, tT, tT, tT, tT, fF, tT, fF, fF, fF, fF] rfl rfl HT_.out HW_.out hHeld ?_
                          refine tq2 (i := 9) (N := some 84) #[tT, tT, tT, tT, tT, tT, tT, tT, tT, tT, tT, fF, fF, fF, fF] rfl rfl HT_.out HW_.out hHeld ?_
                          refine pq (i := 11) (N := some 86) #[tT, tT, tT, tT, tT, tT, tT, tT, tT, tT, tT, tT, fF, fF, fF] rfl rfl HT_.out ?_
                          refine pq (i := 12) (N := some 87) #[tT, tT, tT, tT, tT, tT, tT, tT, tT, tT, tT, tT, tT, fF, fF] rfl rfl HT_.out ?_
                          refine pq (i := 13) (N := some 88) #[tT, tT, tT, tT, tT, tT, tT, tT, tT, tT, tT, tT, tT, tT, fF] rfl rfl HT_.out ?_
                          refine last_ (i := 14) (N := none) #[tT, tT, tT, tT, tT, tT, tT, tT, tT, tT, tT, tT, tT, tT, tT] rfl rfl (one_of HT_.out kf) (by decide) (fun K hK => ?_)
                          refine skip_ (w1 := ?_) (by rfl) rfl ?_ ?_
                          rotate_left
                          ·go_simp
                           rfl
                          refine hK.out _ _ ?_
                          clear hK K
                          refine done_ (done_of HT_.out kf) ?_
                          try go_wp2
                          (try simp only [← hl6_3, ← hl7_3])
                          (try rw [← add_plain go40 (((ji13) : Int).toNat)])
                          go_roundg k3
                          case measure => have := HK1.out; have := HJ18.out; have := HK3.out; omega
                          case rel => exact ⟨(y281), (wrap64 (x70_3 + 1)), sr, H', ⟨by have := HK1.out; have := HJ18.out; have := HK3.out; omega⟩, ⟨by (try simp only [hl7_1]); (try simp only [hl6_3]); (try simp only [hl7_3]); (with_reducible repeat (first | apply Kd.R_alloc | apply Kd.R_drewN | apply Kd.R_drew)); exact HQ42.out⟩, ⟨by (try simp only [hl7_1]); (try simp only [hl6_3]); (try simp only [hl7_3]); (with_reducible repeat (first | apply Kd.R_alloc | apply Kd.R_drewN | apply Kd.R_drew)); exact Kd.R_mono (Kd.R_far (p := ⟨go40, ((ji35) : Int).toNat, none⟩) (Kd.R_mono HO_7.out (fun k_ hk => (⟨hk, fun e_ => hk (by rw [e_]; rfl)⟩ : _ ∧ k_ ≠ go40))) (fun _ hk => hk.2) (.int .i64 (wrap64 ((rd x6_3 (ji35)) - (wrap64 ((rd y277 x8_1) * (rd l1 x70_3))))))) (fun _ hk => hk.1)⟩, ⟨bz1 GB40⟩⟩
                         ·rw [if_neg c39] at H
                          exact absurd H (by simp)
                        ·rw [if_neg c38] at H
                         exact absurd H (by simp)
                       ·rw [if_neg c37] at H
                        exact absurd H (by simp)
                      ·rw [if_neg c36] at H
                       exact absurd H (by simp)
                     ·rw [if_neg c34] at H
                      exact absurd H (by simp)
                    ·rw [if_neg c33] at H
                     exact absurd H (by simp)
                   ·rw [if_neg c32] at H
                    have c32b0 : decide (x70_3 < (l1.length : Int)) = false := decide_eq_false c32
                    (try (have c32b0l : _ := c32b0; rw [hl7_1] at c32b0l))
                    (try (have c32b0l : _ := c32b0; rw [hl6_3] at c32b0l))
                    (try (have c32b0l : _ := c32b0; rw [hl7_3] at c32b0l))
                    clear c32
                    have H' := Aside0.mk H
                    clear H
                    go_wp2
                    (try simp only [← hl7_1, ← hl6_3, ← hl7_3])
                    (try rw [← add_plain go40 (((ji13) : Int).toNat)])
                    go_roundg k3
                    case measure => have := HK1.out; have := HJ18.out; have := HK3.out; omega
                    case rel => exact ⟨(x6_3), (y277), (wrap64 (x8_1 - 1)), sr, H', ⟨by have := HK1.out; have := HJ18.out; have := HK3.out; omega⟩, ⟨by (try simp only [hl7_1]); (try simp only [hl6_3]); (try simp only [hl7_3]); (with_reducible repeat (first | apply Kd.R_alloc | apply Kd.R_drewN | apply Kd.R_drew)); exact HO_6.out⟩, ⟨by (try simp only [hl7_1]); (try simp only [hl6_3]); (try simp only [hl7_3]); (with_reducible repeat (first | apply Kd.R_alloc | apply Kd.R_drewN | apply Kd.R_drew)); exact HO_7.out⟩, ⟨bz⟩⟩
                ·rw [if_neg c28] at H
                 exact absurd H (by simp)
               ·rw [if_neg c27] at H
                exact absurd H (by simp)
          ·rw [if_neg c18] at H
           exact absurd H (by simp)
         ·rw [if_neg c17] at H
          exact absurd H (by simp)
        ·rw [if_neg c15] at H
         exact absurd H (by simp)
       ·rw [if_neg c14] at H
        exact absurd H (by simp)
      ·rw [if_neg c12] at H
       have c12b0 : decide (0 ≤ x8_1) = false := decide_eq_false c12
       clear c12
       obtain ⟨t273, A43, H⟩ := bi H
       simp only [Option.some.injEq, Prod.mk.injEq] at H
       obtain ⟨rfl, rfl⟩ := H
       obtain ⟨Ao44, co44, eo44⟩ := Kd.R_slice HO_6.out
       subst eo44
       go_wp2_with (first | ((with_reducible refine gate_callee (f := 76) rfl ?_); refine goesL_ (some 92) rfl rfl Try.func76 kf rfl #[.slice Ao44 x6_1.length co44, .int .i64 0, .int .i64 0] rfl sm ?_; (with_reducible refine (spec_l1All.calls k1 _ _ x6_1 0 0 t273 _ ?side1 ?side2 A43.out).mono ?_); (case side1 => exact cr HO_6); (case side2 => exact (Kd.R_reads' HO_6.out).2.1); rintro e w' ⟨rfl, ⟨nd, rfl⟩⟩; refine ⟨_, rfl, ?_⟩))
       go_ret2
       exact ⟨_, by first | rfl | (simp [errW_none, errW_some] <;> rfl) | (simp only [← hji5]; first | rfl | (simp [errW_none, errW_some] <;> rfl)) | (simp [*, errW_none, errW_some] <;> rfl), by (with_reducible repeat (first | apply Kd.R_alloc | apply Kd.R_drewN | apply Kd.R_drew)); exact Kd.R_mono HO_7.out (fun _ hk => trivial), bz⟩
   ·rw [if_neg c7] at H
    exact absurd H (by simp)
  ·rw [if_neg c6] at H
   exact absurd H (by simp)
def spec_sgFree.f (k : Nat) (l0 : List Int) : Option (List Int × Bool) := (spec_sgDerive.f k l0).bind fun t282 => ((spec_sgCommon.f k l0 t282).bind fun bt285 => (if bt285.2 = true then ((spec_sgUp.f k l0).bind fun t289 => ((spec_sgDivide.f k t289 bt285.1).bind fun bt292 => ((spec_sgUp.f k bt292.1).bind fun t296 => (some (t296, true))))) else (some (([] : List Int), false))))
set_option maxHeartbeats 8000000 in
set_option maxRecDepth 100000 in
theorem spec_sgFree.calls (k : Nat) (A0 : Option Addr) (c0 : Nat) (l0 : List Int) (r1 : List Int) (r2 : Bool) (w : World) (hr0 : Kd.C (Kd.int .i64) w A0 l0.length l0) (hc0 : l0.length ≤ c0) (h : spec_sgFree.f k l0 = some (r1, r2)) :
 Calls Try.prog 55 #[.slice A0 l0.length c0] w fun e w' => ∃ v0_ : Value, e = .returned (.tuple #[v0_, .bool r2]) ∧ Kd.R (Kd.int .i64) 3 w' w.heap.size (fun _ => True) v0_ r1 ∧ Below w.heap.size w w' := by
 have HR0 := Aside0.mk hr0
 have HC0 := Aside0.mk hc0
 clear hr0 hc0
 have HB := Aside0.mk (Below.refl w.heap.size w)
 have H : ((spec_sgDerive.f k l0).bind fun t282 => ((spec_sgCommon.f k l0 t282).bind fun bt285 => (if bt285.2 = true then ((spec_sgUp.f k l0).bind fun t289 => ((spec_sgDivide.f k t289 bt285.1).bind fun bt292 => ((spec_sgUp.f k bt292.1).bind fun t296 => (some (t296, true))))) else (some (([] : List Int), false))))) = some (r1, r2) := h
 clear h
 obtain ⟨t282, A2, H⟩ := bi H
 obtain ⟨⟨t285, t288⟩, A3, H⟩ := bi H
 try dsimp only at H
 by_cases c4 : t288 = true
 ·subst c4
  rw [if_pos rfl] at H
  obtain ⟨t289, A5, H⟩ := bi H
  obtain ⟨⟨t292, t293⟩, A6, H⟩ := bi H
  try dsimp only at H
  obtain ⟨t296, A7, H⟩ := bi H
  simp only [Option.some.injEq, Prod.mk.injEq] at H
  obtain ⟨rfl, rfl⟩ := H
  go_enter Try.func55, Try.ntmps55
  go_wp2_with (first | ((with_reducible refine gate_callee (f := 94) rfl ?_); refine goesL_ (some 11) rfl rfl Try.func94 kf rfl #[.slice A0 l0.length c0] rfl sm ?_; (with_reducible refine (spec_sgDerive.calls k _ _ l0 t282 _ ?side1 ?side2 A2.out).mono ?_); (case side1 => exact cc HR0); (case side2 => exact HC0.out); rintro e w8 ⟨v283, rfl, ho0, hb⟩; refine ⟨_, rfl, ?_⟩; have n0_ := Aside0.mk (Kd.R_lower ho0 (below_size bz)); have n1_ := Aside0.mk (below_step bz hb); clear HB; have HO284 := n0_; have HB := n1_; clear n0_ n1_; (try clear hb); (try clear hb2); (try clear hk); (try clear hi); (try clear ho0); obtain ⟨Ao9, co9, eo9⟩ := Kd.R_slice HO284.out; subst eo9) | ((with_reducible refine gate_callee (f := 52) rfl ?_); refine goesL_ (some 12) rfl rfl Try.func52 kf rfl #[.slice A0 l0.length c0, .slice Ao9 t282.length co9] rfl sm ?_; (with_reducible refine (spec_sgCommon.calls k (fun k_ => k_ < w.heap.size) _ _ l0 (fun k_ => some k_ = (.slice Ao9 t282.length co9 : Value).ownBlock) _ _ t282 t285 true _ ?side1 ?side2 A3.out).mono ?_); (case side1 => exact Kd.V_mk HC0.out (Kd.F_below (Kd.C_F (Kd.heap_int .i64) HR0.out) bz)); (case side2 => exact Kd.R_V (Kd.R_tight rfl (HO284.out))); rintro e w10 ⟨v286, rfl, ho0, hb⟩; refine ⟨_, rfl, ?_⟩; have n0_ := Aside0.mk (Kd.R_elder' (kr HO284) (Kd.R_base ho0) hb); have n1_ := Aside0.mk (Kd.R_lower (Kd.R_new' (Kd.R_mono (ok' := fun k_ => True) ho0 (fun _ hk_ => trivial)) (Kd.R_lt (kr HO284))) (below_size bz)); have n2_ := Aside0.mk (below_step bz hb); clear HO284; clear HB; have HO284 := n0_; have HO287 := n1_; have HB := n2_; clear n0_ n1_ n2_; (try clear hb); (try clear hb2); (try clear hk); (try clear hi); (try clear ho0)) | ((with_reducible refine gate_callee (f := 90) rfl ?_); refine goesL_ (some 19) rfl rfl Try.func90 kf rfl #[.slice A0 l0.length c0] rfl sm ?_; (with_reducible refine (spec_sgUp.calls k _ _ l0 t289 _ ?side1 ?side2 A5.out).mono ?_); (case side1 => exact cb HR0); (case side2 => exact HC0.out); rintro e w11 ⟨v290, rfl, ho0, hb⟩; refine ⟨_, rfl, ?_⟩; have n0_ := Aside0.mk (Kd.R_elder' (kr HO284) (Kd.R_base ho0) hb); have n1_ := Aside0.mk (Kd.R_elder' (kr HO287) (Kd.R_base ho0) hb); have n2_ := Aside0.mk (Kd.R_lower (Kd.R_new' (Kd.R_new' ho0 (Kd.R_lt (kr HO284))) (Kd.R_lt (kr HO287))) (below_size bz)); have n3_ := Aside0.mk (below_step bz hb); clear HO284; clear HO287; clear HB; have HO284 := n0_; have HO287 := n1_; have HO291 := n2_; have HB := n3_; clear n0_ n1_ n2_ n3_; (try clear hb); (try clear hb2); (try clear hk); (try clear hi); (try clear ho0); obtain ⟨Ao12, co12, eo12⟩ := Kd.R_slice HO291.out; subst eo12; obtain ⟨Ao13, co13, eo13⟩ := Kd.R_slice HO287.out; subst eo13) | ((with_reducible refine gate_callee (f := 95) rfl ?_); refine goesL_ (some 21) rfl rfl Try.func95 kf rfl #[.slice Ao12 t289.length co12, .slice Ao13 t285.length co13] rfl sm ?_; (with_reducible refine (spec_sgDivide.calls k _ _ t289 _ _ t285 t292 t293 _ ?side1 ?side2 ?side3 ?side4 A6.out).mono ?_); (case side1 => exact cr HO291); (case side2 => exact (Kd.R_reads' HO291.out).2.1); (case side3 => exact cr HO287); (case side4 => exact (Kd.R_reads' HO287.out).2.1); rintro e w14 ⟨v294, rfl, ho0, hb⟩; refine ⟨_, rfl, ?_⟩; have n0_ := Aside0.mk (Kd.R_elder' (kr HO284) (Kd.R_base ho0) hb); have n1_ := Aside0.mk (Kd.R_elder' (kr HO287) (Kd.R_base ho0) hb); have n2_ := Aside0.mk (Kd.R_elder' (kr HO291) (Kd.R_base ho0) hb); have n3_ := Aside0.mk (Kd.R_lower (Kd.R_new' (Kd.R_new' (Kd.R_new' ho0 (Kd.R_lt (kr HO284))) (Kd.R_lt (kr HO287))) (Kd.R_lt (kr HO291))) (below_size bz)); have n4_ := Aside0.mk (below_step bz hb); clear HO284; clear HO287; clear HO291; clear HB; have HO284 := n0_; have HO287 := n1_; have HO291 := n2_; have HO295 := n3_; have HB := n4_; clear n0_ n1_ n2_ n3_ n4_; (try clear hb); (try clear hb2); (try clear hk); (try clear hi); (try clear ho0); obtain ⟨Ao15, co15, eo15⟩ := Kd.R_slice HO295.out; subst eo15) | ((with_reducible refine gate_callee (f := 90) rfl ?_); refine goesL_ (some 25) rfl rfl Try.func90 kf rfl #[.slice Ao15 t292.length co15] rfl sm ?_; (with_reducible refine (spec_sgUp.calls k _ _ t292 t296 _ ?side1 ?side2 A7.out).mono ?_); (case side1 => exact cr HO295); (case side2 => exact (Kd.R_reads' HO295.out).2.1); rintro e w16 ⟨v297, rfl, ho0, hb⟩; refine ⟨_, rfl, ?_⟩; have n0_ := Aside0.mk (Kd.R_elder' (kr HO284) (Kd.R_base ho0) hb); have n1_ := Aside0.mk (Kd.R_elder' (kr HO287) (Kd.R_base ho0) hb); have n2_ := Aside0.mk (Kd.R_elder' (kr HO291) (Kd.R_base ho0) hb); have n3_ := Aside0.mk (Kd.R_elder' (kr HO295) (Kd.R_base ho0) hb); have n4_ := Aside0.mk (Kd.R_lower (Kd.R_new' (Kd.R_new' (Kd.R_new' (Kd.R_new' ho0 (Kd.R_lt (kr HO284))) (Kd.R_lt (kr HO287))) (Kd.R_lt (kr HO291))) (Kd.R_lt (kr HO295))) (below_size bz)); have n5_ := Aside0.mk (below_step bz hb); clear HO284; clear HO287; clear HO291; clear HO295; clear HB; have HO284 := n0_; have HO287 := n1_; have HO291 := n2_; have HO295 := n3_; have HO298 := n4_; have HB := n5_; clear n0_ n1_ n2_ n3_ n4_ n5_; (try clear hb); (try clear hb2); (try clear hk); (try clear hi); (try clear ho0)))
  go_ret2
  exact ⟨_, er, by (with_reducible repeat (first | apply Kd.R_alloc | apply Kd.R_drewN | apply Kd.R_drew)); exact Kd.R_mono HO298.out (fun _ hk => trivial), bz⟩
 ·replace c4 := Bool.eq_false_iff.mpr c4
  subst c4
  rw [if_neg (show ¬ (false = true) by decide)] at H
  simp only [Option.some.injEq, Prod.mk.injEq] at H
  obtain ⟨rfl, rfl⟩ := H
  go_enter Try.func55, Try.ntmps55
  go_wp2_with (first | ((with_reducible refine gate_callee (f := 94) rfl ?_); refine goesL_ (some 11) rfl rfl Try.func94 kf rfl #[.slice A0 l0.length c0] rfl sm ?_; (with_reducible refine (spec_sgDerive.calls k _ _ l0 t282 _ ?side1 ?side2 A2.out).mono ?_); (case side1 => exact cc HR0); (case side2 => exact HC0.out); rintro e w17 ⟨v283, rfl, ho0, hb⟩; refine ⟨_, rfl, ?_⟩; have n0_ := Aside0.mk (Kd.R_lower ho0 (below_size bz)); have n1_ := Aside0.mk (below_step bz hb); clear HB; have HO284 := n0_; have HB := n1_; clear n0_ n1_; (try clear hb); (try clear hb2); (try clear hk); (try clear hi); (try clear ho0); obtain ⟨Ao18, co18, eo18⟩ := Kd.R_slice HO284.out; subst eo18) | ((with_reducible refine gate_callee (f := 52) rfl ?_); refine goesL_ (some 12) rfl rfl Try.func52 kf rfl #[.slice A0 l0.length c0, .slice Ao18 t282.length co18] rfl sm ?_; (with_reducible refine (spec_sgCommon.calls k (fun k_ => k_ < w.heap.size) _ _ l0 (fun k_ => some k_ = (.slice Ao18 t282.length co18 : Value).ownBlock) _ _ t282 t285 false _ ?side1 ?side2 A3.out).mono ?_); (case side1 => exact Kd.V_mk HC0.out (Kd.F_below (Kd.C_F (Kd.heap_int .i64) HR0.out) bz)); (case side2 => exact Kd.R_V (Kd.R_tight rfl (HO284.out))); rintro e w19 ⟨v286, rfl, ho0, hb⟩; refine ⟨_, rfl, ?_⟩; have n0_ := Aside0.mk (Kd.R_elder' (kr HO284) (Kd.R_base ho0) hb); have n1_ := Aside0.mk (Kd.R_lower (Kd.R_new' (Kd.R_mono (ok' := fun k_ => True) ho0 (fun _ hk_ => trivial)) (Kd.R_lt (kr HO284))) (below_size bz)); have n2_ := Aside0.mk (below_step bz hb); clear HO284; clear HB; have HO284 := n0_; have HO287 := n1_; have HB := n2_; clear n0_ n1_ n2_; (try clear hb); (try clear hb2); (try clear hk); (try clear hi); (try clear ho0)))
  go_ret2
  exact ⟨_, er, by first | exact Kd.R_nil _ _ _ _ _ | exact Kd.N_nil _ _ _ _ _ | exact Kd.V_nil _ _ _ _ _ | exact Kd.Q_nil _ _ _ _ _ | exact Kd.S_nil _ _ _ _ _, bz⟩
def spec_stMinus.l0 : Nat → List Int → List Int → Int → Int → Option (List Int)
 | 0, _, _, _, _ => none
 | k + 1, x3, x6, x7, x8 => if x8 < x7 then (if 0 ≤ x8 then (if x8 < (x6.length : Int) then (if x3.length < 17592186044416 then (spec_stMinus.l0 k (x3 ++ [wrap64 (-(rd x6 x8))]) x6 x7 (wrap64 (x8 + 1))) else (none)) else (none)) else (none)) else (some x3)
def spec_stMinus.f (k : Nat) (l0 : List Int) : Option (List Int) := spec_stMinus.l0 k ([] : List Int) l0 (l0.length : Int) 0
set_option maxHeartbeats 8000000 in
set_option maxRecDepth 100000 in
theorem spec_stMinus.calls (k : Nat) (A0 : Option Addr) (c0 : Nat) (l0 : List Int) (r : List Int) (w : World) (hr0 : Kd.C (Kd.int .i64) w A0 l0.length l0) (hc0 : l0.length ≤ c0) (h : spec_stMinus.f k l0 = some r) :
 Calls Try.prog 101 #[.slice A0 l0.length c0] w fun e w' => ∃ v0_ : Value, e = .returned (v0_) ∧ Kd.R (Kd.int .i64) 3 w' w.heap.size (fun _ => True) v0_ r ∧ Below w.heap.size w w' := by
 have HR0 := Aside0.mk hr0
 have HC0 := Aside0.mk hc0
 clear hr0 hc0
 have HB := Aside0.mk (Below.refl w.heap.size w)
 have H : (spec_stMinus.l0 k ([] : List Int) l0 (l0.length : Int) 0) = some r := h
 clear h
 have H' := Aside0.mk H
 clear H
 go_enter Try.func101, Try.ntmps101
 go_wp2
 go_loopg [3, 8] k (fun kq v3 v8 w' => ∃ (x3_1 : List Int) (x8_1 : Int), v8 = .int .i64 x8_1 ∧ Aside0 (spec_stMinus.l0 kq x3_1 l0 (l0.length : Int) x8_1 = some r) ∧ Aside0 (kq ≤ k) ∧ Aside0 (Kd.R (Kd.int .i64) 3 w' w.heap.size (fun _ => True) v3 x3_1) ∧ Aside0 (Below w.heap.size w w'))
 case atStart => exact ⟨(([] : List Int)), (0), sr, H', ⟨Nat.le_refl _⟩, ⟨by first | exact Kd.R_nil _ _ _ _ _ | exact Kd.N_nil _ _ _ _ _ | exact Kd.V_nil _ _ _ _ _ | exact Kd.Q_nil _ _ _ _ _ | exact Kd.S_nil _ _ _ _ _⟩, ⟨bz⟩⟩
 case round =>
  clear H'
  try clear c1
  obtain ⟨x3_1, x8_1, rfl, HA, HK1, HO_3, HB⟩ := hrel
  cases gk with
  | zero => exact absurd HA.out (by simp [spec_stMinus.l0])
  | succ k1 =>
   have H := HA.out
   clear HA
   simp only [spec_stMinus.l0] at H
   by_cases c2 : x8_1 < (l0.length : Int)
   ·rw [if_pos c2] at H
    have c2b0 : decide (x8_1 < (l0.length : Int)) = true := decide_eq_true c2
    clear c2
    by_cases c3 : 0 ≤ x8_1
    ·rw [if_pos c3] at H
     have c3b0 : decide (0 ≤ x8_1) = true := decide_eq_true c3
     clear c3
     by_cases c4 : x8_1 < (l0.length : Int)
     ·rw [if_pos c4] at H
      have c4b0 : decide (x8_1 < (l0.length : Int)) = true := decide_eq_true c4
      clear c4
      by_cases c5 : x3_1.length < 17592186044416
      ·rw [if_pos c5] at H
       have LMc5 := Aside0.mk c5
       clear c5
       obtain ⟨y300, hy300⟩ : ∃ y_ : List Int, y_ = (x3_1 ++ [wrap64 (-(rd l0 x8_1))]) := ⟨_, rfl⟩
       replace H : (spec_stMinus.l0 k1 y300 l0 (l0.length : Int) (wrap64 (x8_1 + 1))) = some r := by first | (rw [hy300]; with_reducible exact H) | (have H2_ := (Option.bind_some _ _).symm.trans H; rw [hy300]; with_reducible exact H2_) | (have H2_ := (Option.bind_some _ _).symm.trans H; with_reducible exact H2_) | with_reducible exact H | (rw [hy300]; exact H) | exact H
       have Ny300 := Aside0.mk hy300
       clear hy300
       have H' := Aside0.mk H
       clear H
       have p299 : 0 ≤ (x8_1 : Int) := of_decide_eq_true am
       have q299 : x8_1 < (l0.length : Int) := of_decide_eq_true am
       obtain ⟨ad299, e299, hx299_0⟩ := Kd.at_int HR0.out x8_1 p299 q299
       cases e299
       replace hx299_0 := (HB.out.cell (World.block_lt_of_cell? w _ hx299_0)).trans hx299_0
       replace p299 := eq_true p299
       replace q299 := eq_true q299
       go_wp2_with (first | ((with_reducible refine gate_builtin (b := .append) (xs := #[.tmp 12, .tmp 15]) rfl ?_); at_builtin; refine Kd.R_append (Kd.int .i64) (w0 := w) w.heap.size rfl (.tmp 12) (.tmp 15) 22 3 (.int .i64 0) 8 rfl Try.underlying22 info3 rfl (by decide) (by omega) u3 x3_1 (wrap64 (-(rd l0 x8_1))) [.int .i64 (wrap64 (-(rd l0 x8_1)))] (fun _ => True) (fun _ => False) rfl rfl ?aP (fun _ hk => hk.elim) ?aF ?aO ?aB ?aS ?aL ?_; (case aP => exact rfl); (case aB => exact bz); (case aF => exact (fun _ _ => trivial)); (case aO => exact (kr HO_3)); (case aS => exact (below_size bz)); (case aL => have := LMc5.out; omega); intro v301 w6 ho hb hg hat; rw [← Ny300.out] at ho; have n0_ := Aside0.mk (hb); have n1_ := Aside0.mk (ho); clear HB; clear HO_3; have HB := n0_; have HO302 := n1_; clear n0_ n1_; clear ho hb hg hat))
       go_roundg k1
       case measure => have := HK1.out; omega
       case rel => exact ⟨(y300), (wrap64 (x8_1 + 1)), sr, H', ⟨by have := HK1.out; omega⟩, ⟨kr HO302⟩, ⟨bz⟩⟩
      ·rw [if_neg c5] at H
       exact absurd H (by simp)
     ·rw [if_neg c4] at H
      exact absurd H (by simp)
    ·rw [if_neg c3] at H
     exact absurd H (by simp)
   ·rw [if_neg c2] at H
    have c2b0 : decide (x8_1 < (l0.length : Int)) = false := decide_eq_false c2
    clear c2
    obtain rfl := Option.some.inj H
    go_wp2
    go_ret
    exact ⟨_, er, by (with_reducible repeat (first | apply Kd.R_alloc | apply Kd.R_drewN | apply Kd.R_drew)); exact HO_3.out, bz⟩
mutual
def spec_stChain.j0 : Nat → List (List Int) → Option ((List (List Int)) × Bool)
 | 0, _ => none
 | k + 1, x6 => spec_stChain.l0 k x6
def spec_stChain.l0 : Nat → List (List Int) → Option ((List (List Int)) × Bool)
 | 0, _ => none
 | k + 1, x6 => if 0 ≤ (wrap64 ((x6.length : Int) - 1)) then (if (wrap64 ((x6.length : Int) - 1)) < (x6.length : Int) then (if ((rd_L1 x6 (wrap64 ((x6.length : Int) - 1))).length : Int) > 1 then (if 0 ≤ (wrap64 ((x6.length : Int) - 2)) then (if (wrap64 ((x6.length : Int) - 2)) < (x6.length : Int) then ((spec_sgRemainder.f k (rd_L1 x6 (wrap64 ((x6.length : Int) - 2))) (rd_L1 x6 (wrap64 ((x6.length : Int) - 1)))).bind fun bt322 => (if bt322.2 = true then ((spec_stMinus.f k bt322.1).bind fun t326 => (if x6.length < 5864062014805 then (spec_stChain.l0 k (x6 ++ [t326])) else (none))) else (some (([] : List (List Int)), false)))) else (none)) else (none)) else (some (x6, true))) else (none)) else (none)
end
def spec_stChain.f (k : Nat) (l0 : List Int) : Option ((List (List Int)) × Bool) := (spec_sgFree.f k l0).bind fun bt303 => (if bt303.2 = true then ((some (([bt303.1] : List (List Int)) : List (List Int))).bind fun y307 => (if (bt303.1.length : Int) > 1 then ((spec_sgDerive.f k bt303.1).bind fun t310 => ((spec_sgPart.f k t310).bind fun t313 => (if y307.length < 5864062014805 then (spec_stChain.j0 k (y307 ++ [t313])) else (none)))) else (spec_stChain.j0 k y307))) else (some (([] : List (List Int)), false)))
def spec_stChain.T8 : Bool × List (List Nat × List Nat) := (true, [([], []), ([], []), ([1], [1]), ([2], [2]), ([0, 3], [0, 3]), ([4], [4]), ([], []), ([], []), ([7], [7]), ([8], [8]), ([6, 9], [6, 9]), ([10], [10]), ([5, 11], [5, 11]), ([12], [12]), ([13], [13]), ([13], [13]), ([14, 12, 0, 1, 2, 3, 4, 5, 6, 7, 8, 9, 10, 11, 12, 13, 14], [14]), ([15, 16, 0, 1, 2, 3, 4, 5, 6, 7, 8, 9, 10, 11, 12, 13, 14, 15, 16], [15])])
def spec_stChain.B8 : List Nat := [0, 0, 2, 6, 15, 31, 0, 0, 128, 384, 960, 1984, 4095, 8191, 16383, 16383, 32767, 131071]
theorem spec_stChain.tab8 : rtab .any (opsOf Try.f63 8) = spec_stChain.T8 := by kernel_rfl
theorem spec_stChain.bits8 : waitsOk spec_stChain.T8.2 spec_stChain.B8 = true := by kernel_rfl
set_option maxHeartbeats 8000000 in
set_option maxRecDepth 100000 in
theorem spec_stChain.calls (k : Nat) (A0 : Option Addr) (c0 : Nat) (l0 : List Int) (r1 : List (List Int)) (r2 : Bool) (w : World) (hr0 : Kd.C (Kd.int .i64) w A0 l0.length l0) (hc0 : l0.length ≤ c0) (h : spec_stChain.f k l0 = some (r1, r2)) :
 Calls Try.prog 63 #[.slice A0 l0.length c0] w fun e w' => ∃ v0_ : Value, e = .returned (.tuple #[v0_, .bool r2]) ∧ Kd.N (Kd.slice 3 (Kd.int .i64)) 22 w' w.heap.size (fun k_ => (w.heap.size ≤ k_)) v0_ r1 ∧ Below w.heap.size w w' := by
 have HR0 := Aside0.mk hr0
 have HC0 := Aside0.mk hc0
 clear hr0 hc0
 have HB := Aside0.mk (Below.refl w.heap.size w)
 have H : ((spec_sgFree.f k l0).bind fun bt303 => (if bt303.2 = true then ((some (([bt303.1] : List (List Int)) : List (List Int))).bind fun y307 => (if (bt303.1.length : Int) > 1 then ((spec_sgDerive.f k bt303.1).bind fun t310 => ((spec_sgPart.f k t310).bind fun t313 => (if y307.length < 5864062014805 then (spec_stChain.j0 k (y307 ++ [t313])) else (none)))) else (spec_stChain.j0 k y307))) else (some (([] : List (List Int)), false)))) = some (r1, r2) := h
 clear h
 obtain ⟨⟨t303, t304⟩, A2, H⟩ := bi H
 try dsimp only at H
 by_cases c3 : t304 = true
 ·subst c3
  rw [if_pos rfl] at H
  obtain ⟨y307, hy307⟩ : ∃ y_ : List (List Int), y_ = (([t303] : List (List Int))) := ⟨_, rfl⟩
  replace H : (if (t303.length : Int) > 1 then ((spec_sgDerive.f k t303).bind fun t310 => ((spec_sgPart.f k t310).bind fun t313 => (if y307.length < 5864062014805 then (spec_stChain.j0 k (y307 ++ [t313])) else (none)))) else (spec_stChain.j0 k y307)) = some (r1, r2) := by first | (rw [hy307]; with_reducible exact H) | (have H2_ := (Option.bind_some _ _).symm.trans H; rw [hy307]; with_reducible exact H2_) | (have H2_ := (Option.bind_some _ _).symm.trans H; with_reducible exact H2_) | with_reducible exact H | (rw [hy307]; exact H) | exact H
  have Ny307 := Aside0.mk hy307
  clear hy307
  have HC4 := Aside0.mk H
  clear H
  go_enter Try.func63, Try.ntmps63
  go_upto_if 20 with (first | ((with_reducible refine gate_callee (f := 55) rfl ?_); refine goesL_ (some 11) rfl rfl Try.func55 kf rfl #[.slice A0 l0.length c0] rfl sm ?_; (with_reducible refine (spec_sgFree.calls k _ _ l0 t303 true _ ?side1 ?side2 A2.out).mono ?_); (case side1 => exact cc HR0); (case side2 => exact HC0.out); rintro e w5 ⟨v305, rfl, ho0, hb⟩; refine ⟨_, rfl, ?_⟩; have n0_ := Aside0.mk (Kd.R_lower (Kd.R_newM (M := fun k_ => (w.heap.size ≤ k_)) ho0 (below_size bz) (fun k_ h_ => h_)) (below_size bz)); have n1_ := Aside0.mk (below_step bz hb); clear HB; have HO306 := n0_; have HB := n1_; clear n0_ n1_; (try clear hb); (try clear hb2); (try clear hk); (try clear hi); (try clear ho0); obtain ⟨Ao6, co6, eo6⟩ := Kd.R_slice HO306.out; subst eo6) | ((with_reducible refine gate_dst (N := 17) rfl ?_); refine Kd.N_lit (Kd.slice 3 (Kd.int .i64)) _ 22 ?hg (N' := 17) ?hd (xs := ([t303] : List (List Int))) (inner := [.slice Ao6 t303.length co6]) (ok := (fun k_ => (w.heap.size ≤ k_))) (okp := (fun k_ => (w.heap.size ≤ k_))) ?hr ?hp (fun _ hk => hk) ((show ∀ k_, w5.heap.size ≤ k_ → (fun k_ => (w.heap.size ≤ k_)) k_ from fun k_ hk => (Nat.le_trans (below_size bz) hk)) _ (Nat.le_refl _)) (Below.refl _ _) (Nat.le_refl _) (by simp) ?_; (case hd => rfl); (case hg => rfl); (case hr => first | (go_simp; done) | (go_simp; rfl)); (case hp => exact (Reps.one (show Kd.FK (Kd.slice 3 (Kd.int .i64)) _ _ t303 [.slice Ao6 t303.length co6] from (Kd.FK_slice_mk (Kd.R_reads' (Kd.R_mono (ok' := (fun k_ => (w.heap.size ≤ k_))) (HO306.out) (fun k_ hk => hk.1))).2.1 (Kd.R_F (Kd.R_mono (ok' := (fun k_ => (w.heap.size ≤ k_))) (HO306.out) (fun k_ hk => hk.1))))) (Reps.none _ _))); intro v308 w7 ho8 hb hg_ hnew_; clear hg_ hnew_; (first | rw [← Ny307.out] at ho8 | (simp only [Int.reduceToNat] at ho8; rw [← Ny307.out] at ho8)); have n0_ := Aside0.mk (Kd.N_lower ho8 (below_size bz)); have n1_ := Aside0.mk (below_step bz hb); have nk_ := Aside0.mk (Kd.R_below (kr HO306) hb); clear HB; clear HO306; have HO306 := nk_; clear nk_; have HO309 := n0_; have HB := n1_; clear n0_ n1_; clear hb ho8))
  (try simp only [Act.put, List.setIfInBounds_toArray, List.set_cons_zero, List.set_cons_succ])
  go_cut [6] (fun v6 wc => ∃ (kq : Nat) (x6_3 : List (List Int)), Aside0 (spec_stChain.j0 kq x6_3 = some (r1, r2)) ∧ Aside0 (kq ≤ k) ∧ Aside0 (Kd.N (Kd.slice 3 (Kd.int .i64)) 22 wc w.heap.size (fun k_ => (w.heap.size ≤ k_)) v6 x6_3) ∧ Aside0 (Below w.heap.size w wc))
  case first =>
   have H := HC4.out
   clear HC4
   by_cases c9 : (t303.length : Int) > 1
   ·rw [if_pos c9] at H
    have c9b0 : decide (1 < (t303.length : Int)) = true := decide_eq_true c9
    have c9b1 : decide (1 < t303.length) = true := decide_eq_true (by omega)
    clear c9
    (first | rw [c9b0] | (simp only [i64_w, i32_w]; rw [c9b0]) | skip)
    obtain ⟨t310, A10, H⟩ := bi H
    obtain ⟨t313, A11, H⟩ := bi H
    by_cases c12 : y307.length < 5864062014805
    ·rw [if_pos c12] at H
     have LMc12 := Aside0.mk c12
     clear c12
     obtain ⟨y316, hy316⟩ : ∃ y_ : List (List Int), y_ = (y307 ++ [t313]) := ⟨_, rfl⟩
     replace H : (spec_stChain.j0 k y316) = some (r1, r2) := by first | (rw [hy316]; with_reducible exact H) | (have H2_ := (Option.bind_some _ _).symm.trans H; rw [hy316]; with_reducible exact H2_) | (have H2_ := (Option.bind_some _ _).symm.trans H; with_reducible exact H2_) | with_reducible exact H | (rw [hy316]; exact H) | exact H
     have Ny316 := Aside0.mk hy316
     clear hy316
     have H' := Aside0.mk H
     clear H
     go_wp2_with (first | ((with_reducible refine gate_callee (f := 94) rfl ?_); refine goesL_ (some 23) rfl rfl Try.func94 kf rfl #[.slice Ao6 t303.length co6] rfl sm ?_; (with_reducible refine (spec_sgDerive.calls k _ _ t303 t310 _ ?side1 ?side2 A10.out).mono ?_); (case side1 => exact cr HO306); (case side2 => exact (Kd.R_reads' HO306.out).2.1); rintro e w13 ⟨v311, rfl, ho0, hb⟩; refine ⟨_, rfl, ?_⟩; have n0_ := Aside0.mk (Kd.N_elder' (kn HO309) (Kd.R_base ho0) hb); have n1_ := Aside0.mk (Kd.R_lower (Kd.R_newM (M := fun k_ => (w.heap.size ≤ k_)) ho0 (below_size bz) (fun k_ h_ => h_)) (below_size bz)); have n2_ := Aside0.mk (below_step bz hb); clear HO309; clear HB; have HO309 := n0_; have HO312 := n1_; have HB := n2_; clear n0_ n1_ n2_; (try clear hb); (try clear hb2); (try clear hk); (try clear hi); (try clear ho0); obtain ⟨Ao14, co14, eo14⟩ := Kd.R_slice HO312.out; subst eo14) | ((with_reducible refine gate_callee (f := 100) rfl ?_); refine goesL_ (some 24) rfl rfl Try.func100 kf rfl #[.slice Ao14 t310.length co14] rfl sm ?_; (with_reducible refine (spec_sgPart.calls k _ _ t310 t313 _ ?side1 ?side2 A11.out).mono ?_); (case side1 => exact cr HO312); (case side2 => exact (Kd.R_reads' HO312.out).2.1); rintro e w15 ⟨v314, rfl, ho0, hb⟩; refine ⟨_, rfl, ?_⟩; have n0_ := Aside0.mk (Kd.N_elder' (kn HO309) (Kd.R_base ho0) hb); have n1_ := Aside0.mk (Kd.R_elder' (kr HO312) (Kd.R_base ho0) hb); have n2_ := Aside0.mk (Kd.R_lower (Kd.R_new' (Kd.R_newM (M := fun k_ => (w.heap.size ≤ k_)) ho0 (below_size bz) (fun k_ h_ => h_)) (Kd.R_lt (kr HO312))) (below_size bz)); have n3_ := Aside0.mk (below_step bz hb); clear HO309; clear HO312; clear HB; have HO309 := n0_; have HO312 := n1_; have HO315 := n2_; have HB := n3_; clear n0_ n1_ n2_ n3_; (try clear hb); (try clear hb2); (try clear hk); (try clear hi); (try clear ho0); obtain ⟨Ao17, co17, eo17⟩ := Kd.R_slice HO315.out; subst eo17) | ((with_reducible refine gate_builtin (b := .append) (xs := #[.tmp 21, .tmp 25]) rfl ?_); at_builtin; refine Kd.N_append (Kd.slice 3 (Kd.int .i64)) (w0 := w) w.heap.size rfl (.tmp 21) (.tmp 25) 37 22 (.slice none 0 0) 24 rfl Try.underlying37 info22 rfl (by decide) (by omega) v308 y307 t313 [.slice Ao17 t313.length co17] (fun k_ => (w.heap.size ≤ k_) ∧ some k_ ≠ (.slice Ao14 t310.length co14 : Value).ownBlock) (fun k_ => ((fun k_ => (w.heap.size ≤ k_) ∧ some k_ ≠ (.slice Ao14 t310.length co14 : Value).ownBlock)) k_ ∧ some k_ ≠ (v308 : Value).ownBlock) rfl rfl ?aP (fun _ hk => hk) ?aF ?aO ?aB ?aS ?aL ?_; (case aP => exact (Kd.FK_slice_mk (Kd.R_reads' (Kd.R_mono (ok' := (fun k_ => ((fun k_ => (w.heap.size ≤ k_) ∧ some k_ ≠ (.slice Ao14 t310.length co14 : Value).ownBlock)) k_ ∧ some k_ ≠ (v308 : Value).ownBlock)) (Kd.R_apart' (HO315.out) (Kd.N_typed HO309.out) (by decide)) (fun k_ hk => ⟨⟨hk.1.1.1, hk.1.2⟩, hk.2⟩))).2.1 (Kd.R_F (Kd.R_mono (ok' := (fun k_ => ((fun k_ => (w.heap.size ≤ k_) ∧ some k_ ≠ (.slice Ao14 t310.length co14 : Value).ownBlock)) k_ ∧ some k_ ≠ (v308 : Value).ownBlock)) (Kd.R_apart' (HO315.out) (Kd.N_typed HO309.out) (by decide)) (fun k_ hk => ⟨⟨hk.1.1.1, hk.1.2⟩, hk.2⟩))))); (case aB => exact bz); (case aF => exact (fun k_ hk => ⟨(Nat.le_trans (below_size bz) hk), Kd.fresh' (Kd.R_lt (kr HO312)) k_ hk⟩)); (case aO => exact (by (with_reducible repeat (first | apply Kd.N_alloc | apply Kd.N_drewN | apply Kd.N_drew)); exact Kd.N_mono HO309.out (fun _ hk => ⟨hk.1.1, hk.1.2⟩))); (case aS => exact (below_size bz)); (case aL => have := LMc12.out; omega); intro v317 w16 ho hb hg hat; rw [← Ny316.out] at ho; have n0_ := Aside0.mk (Kd.R_over' (kr HO312) (Kd.N_typed (kn HO309)) (by decide) hg); have n1_ := Aside0.mk (hb); have n2_ := Aside0.mk (ho); clear HO312; clear HB; clear HO309; clear HO315; have HO312 := n0_; have HB := n1_; have HO318 := n2_; clear n0_ n1_ n2_; clear ho hb hg hat))
     go_meet
     case rel => exact ⟨_, (y316), H', ⟨by first | omega | exact Nat.le_refl _⟩, ⟨by (with_reducible repeat (first | apply Kd.N_alloc | apply Kd.N_drewN | apply Kd.N_drew)); exact Kd.N_mono HO318.out (fun _ hk => hk.1)⟩, ⟨bz⟩⟩
    ·rw [if_neg c12] at H
     exact absurd H (by simp)
   ·rw [if_neg c9] at H
    have c9b0 : decide (1 < (t303.length : Int)) = false := decide_eq_false c9
    have c9b1 : decide (1 < t303.length) = false := decide_eq_false (by omega)
    clear c9
    (first | rw [c9b0] | (simp only [i64_w, i32_w]; rw [c9b0]) | skip)
    have H' := Aside0.mk H
    clear H
    go_wp2
    go_meet
    case rel => exact ⟨_, (y307), H', ⟨by first | omega | exact Nat.le_refl _⟩, ⟨kn HO309⟩, ⟨bz⟩⟩
  case rest =>
   clear HC4
   try clear c1; try clear p2; try clear c3; try clear c5; try clear c6; try clear c9; try clear c9b0; try clear c9b1; try clear c10; try clear c12
   obtain ⟨kq, x6_3, HA, HJ3, HO_6, HB⟩ := hcut
   cases kq with
   | zero => exact absurd HA.out (by simp [spec_stChain.j0])
   | succ kj3 =>
    have H := HA.out
    clear HA
    simp only [spec_stChain.j0] at H
    have H' := Aside0.mk H
    clear H
    go_wp2
    go_loopg [6] kj3 (fun kq v6 w' => ∃ (x6_2 : List (List Int)), Aside0 (spec_stChain.l0 kq x6_2 = some (r1, r2)) ∧ Aside0 (kq ≤ kj3) ∧ Aside0 (Kd.N (Kd.slice 3 (Kd.int .i64)) 22 w' w.heap.size (fun k_ => (w.heap.size ≤ k_)) v6 x6_2) ∧ Aside0 (Below w.heap.size w w'))
    case atStart => exact ⟨(x6_3), H', ⟨Nat.le_refl _⟩, ⟨kn HO_6⟩, ⟨bz⟩⟩
    case round =>
     clear H'
     try clear c1; try clear p2; try clear c3; try clear c5; try clear c6; try clear c9; try clear c9b0; try clear c9b1; try clear c10; try clear c12; try clear p2
     obtain ⟨x6_2, HA, HK2, HO_6, HB⟩ := hrel
     cases gk with
     | zero => exact absurd HA.out (by simp [spec_stChain.l0])
     | succ k2 =>
      have H := HA.out
      clear HA
      simp only [spec_stChain.l0] at H
      obtain ⟨ji18, hji18⟩ : ∃ j_ : Int, (wrap64 ((x6_2.length : Int) - 1)) = j_ := ⟨_, rfl⟩
      first | rw [hji18] at H | simp only [hji18] at H
      have hji18w : (IntKind.i64.wrap ((x6_2.length : Int) - 1)) = ji18 := (i64_w _).trans hji18
      by_cases c19 : 0 ≤ (ji18)
      ·rw [if_pos c19] at H
       have c19b0 : decide (0 ≤ (ji18)) = true := decide_eq_true c19
       clear c19
       by_cases c20 : (ji18) < (x6_2.length : Int)
       ·rw [if_pos c20] at H
        have c20b0 : decide ((ji18) < (x6_2.length : Int)) = true := decide_eq_true c20
        clear c20
        by_cases c21 : ((rd_L1 x6_2 (ji18)).length : Int) > 1
        ·rw [if_pos c21] at H
         have c21b0 : decide (1 < ((rd_L1 x6_2 (ji18)).length : Int)) = true := decide_eq_true c21
         have c21b1 : decide (1 < (rd_L1 x6_2 (ji18)).length) = true := decide_eq_true (by omega)
         clear c21
         obtain ⟨ji22, hji22⟩ : ∃ j_ : Int, (wrap64 ((x6_2.length : Int) - 2)) = j_ := ⟨_, rfl⟩
         first | rw [hji22] at H | simp only [hji22] at H
         have hji22w : (IntKind.i64.wrap ((x6_2.length : Int) - 2)) = ji22 := (i64_w _).trans hji22
         by_cases c23 : 0 ≤ (ji22)
         ·rw [if_pos c23] at H
          have c23b0 : decide (0 ≤ (ji22)) = true := decide_eq_true c23
          clear c23
          by_cases c24 : (ji22) < (x6_2.length : Int)
          ·rw [if_pos c24] at H
           have c24b0 : decide ((ji22) < (x6_2.length : Int)) = true := decide_eq_true c24
           clear c24
           obtain ⟨⟨t322, t323⟩, A25, H⟩ := bi H
           try dsimp only at H
           by_cases c26 : t323 = true
           ·subst c26
            rw [if_pos rfl] at H
            obtain ⟨t326, A27, H⟩ := bi H
            by_cases c28 : x6_2.length < 5864062014805
            ·rw [if_pos c28] at H
             have LMc28 := Aside0.mk c28
             clear c28
             obtain ⟨y329, hy329⟩ : ∃ y_ : List (List Int), y_ = (x6_2 ++ [t326]) := ⟨_, rfl⟩
             replace H : (spec_stChain.l0 k2 y329) = some (r1, r2) := by first | (rw [hy329]; with_reducible exact H) | (have H2_ := (Option.bind_some _ _).symm.trans H; rw [hy329]; with_reducible exact H2_) | (have H2_ := (Option.bind_some _ _).symm.trans H; with_reducible exact H2_) | with_reducible exact H | (rw [hy329]; exact H) | exact H
             have Ny329 := Aside0.mk hy329
             clear hy329
             have H' := Aside0.mk H
             clear H
             obtain ⟨Ao29, co29, eo29⟩ := Kd.N_slice HO_6.out
             subst eo29
             have p319 : 0 ≤ ((ji18) : Int) := of_decide_eq_true am
             have q319 : (ji18) < (x6_2.length : Int) := of_decide_eq_true am
             obtain ⟨ad319, A319_0, c319_0, e319, hx319_0, hl319_0, hi319_0⟩ := at_L1 (Kd.N_reads' HO_6.out).2.2 (ji18) p319 q319
             cases e319
             obtain ⟨ce319, hce319, hMe319, hcc319⟩ := Kd.N_get HO_6.out [] (ji18) p319 (by first | exact q319 | exact of_decide_eq_true am | (have e_ := (Kd.N_reads' HO_6.out).1; omega))
             obtain ⟨ua319_0, uc319_0, rfl, ul319_0, ge319_0⟩ := Kd.FK_slice_open hMe319
             have hv319_0 := hcc319 0 _ rfl
             rw [Nat.add_zero, show ((Kd.slice 3 (Kd.int .i64))).sz = 1 from rfl, Nat.mul_one] at hv319_0
             replace hv319_0 := Option.some.inj (hv319_0.symm.trans hx319_0)
             injection hv319_0 with hva_ hvn_ hvc_
             rw [hva_] at ge319_0
             rw [hvc_] at ul319_0
             have HL319_0 := Aside0.mk (show Kd.V (Kd.int .i64) 3 _ w.heap.size _ _ (rd_L1 x6_2 (ji18)) from Kd.V_mk ul319_0 ge319_0)
             clear hva_ hvn_ hvc_ ge319_0 ul319_0 hcc319 hce319
             have HR319_0 := Aside0.mk hi319_0
             have HC319_0 := Aside0.mk hl319_0
             clear hi319_0 hl319_0
             replace p319 := eq_true p319
             replace q319 := eq_true q319
             try go_wp2
             have n0_ := Aside0.mk (Kd.N_drew HO_6.out)
             have n1_ := Aside0.mk (Kd.V_drew HL319_0.out)
             have n2_ := Aside0.mk (Kd.C_drew HR319_0.out)
             have n3_ := Aside0.mk (below_drew1 HB.out)
             clear HO_6 HL319_0 HR319_0 HB
             have HO_6 := n0_
             have HL319_0 := n1_
             have HR319_0 := n2_
             have HB := n3_
             clear n0_ n1_ n2_ n3_
             have p320 : 0 ≤ ((ji22) : Int) := of_decide_eq_true am
             have q320 : (ji22) < (x6_2.length : Int) := of_decide_eq_true am
             obtain ⟨ad320, A320_0, c320_0, e320, hx320_0, hl320_0, hi320_0⟩ := at_L1 (Kd.N_reads' HO_6.out).2.2 (ji22) p320 q320
             obtain rfl : ad319 = ad320 := (by injection e320)
             obtain ⟨ce320, hce320, hMe320, hcc320⟩ := Kd.N_get HO_6.out [] (ji22) p320 (by first | exact q320 | exact of_decide_eq_true am | (have e_ := (Kd.N_reads' HO_6.out).1; omega))
             obtain ⟨ua320_0, uc320_0, rfl, ul320_0, ge320_0⟩ := Kd.FK_slice_open hMe320
             have hv320_0 := hcc320 0 _ rfl
             rw [Nat.add_zero, show ((Kd.slice 3 (Kd.int .i64))).sz = 1 from rfl, Nat.mul_one] at hv320_0
             replace hv320_0 := Option.some.inj (hv320_0.symm.trans hx320_0)
             injection hv320_0 with hva_ hvn_ hvc_
             rw [hva_] at ge320_0
             rw [hvc_] at ul320_0
             have HL320_0 := Aside0.mk (show Kd.V (Kd.int .i64) 3 _ w.heap.size _ _ (rd_L1 x6_2 (ji22)) from Kd.V_mk ul320_0 ge320_0)
             clear hva_ hvn_ hvc_ ge320_0 ul320_0 hcc320 hce320
             have HR320_0 := Aside0.mk hi320_0
             have HC320_0 := Aside0.mk hl320_0
             clear hi320_0 hl320_0
             replace p320 := eq_true p320
             replace q320 := eq_true q320
             have p321 : 0 ≤ ((ji18) : Int) := of_decide_eq_true am
             have q321 : (ji18) < (x6_2.length : Int) := of_decide_eq_true am
             obtain ⟨ad321, A321_0, c321_0, e321, hx321_0, hl321_0, hi321_0⟩ := at_L1 (Kd.N_reads' HO_6.out).2.2 (ji18) p321 q321
             obtain rfl : ad319 = ad321 := (by injection e321)
             obtain ⟨ce321, hce321, hMe321, hcc321⟩ := Kd.N_get HO_6.out [] (ji18) p321 (by first | exact q321 | exact of_decide_eq_true am | (have e_ := (Kd.N_reads' HO_6.out).1; omega))
             obtain ⟨ua321_0, uc321_0, rfl, ul321_0, ge321_0⟩ := Kd.FK_slice_open hMe321
             have hv321_0 := hcc321 0 _ rfl
             rw [Nat.add_zero, show ((Kd.slice 3 (Kd.int .i64))).sz = 1 from rfl, Nat.mul_one] at hv321_0
             replace hv321_0 := Option.some.inj (hv321_0.symm.trans hx321_0)
             injection hv321_0 with hva_ hvn_ hvc_
             rw [hva_] at ge321_0
             rw [hvc_] at ul321_0
             have HL321_0 := Aside0.mk (show Kd.V (Kd.int .i64) 3 _ w.heap.size _ _ (rd_L1 x6_2 (ji18)) from Kd.V_mk ul321_0 ge321_0)
             clear hva_ hvn_ hvc_ ge321_0 ul321_0 hcc321 hce321
             have HR321_0 := Aside0.mk hi321_0
             have HC321_0 := Aside0.mk hl321_0
             clear hi321_0 hl321_0
             replace p321 := eq_true p321
             replace q321 := eq_true q321
             refine start_ (n := 18) (S := fun w' => w'.cell? (ad319.add ((ji22)).toNat) = some (.slice A320_0 (rd_L1 x6_2 (ji22)).length c320_0) ∧ w'.cell? (ad319.add ((ji18)).toNat) = some (.slice A321_0 (rd_L1 x6_2 (ji18)).length c321_0)) (ds := []) #[fF, fF, fF, fF, fF, fF, fF, fF, fF, fF, fF, fF, fF, fF, fF, fF, fF, fF] kf rfl rfl ⟨hx320_0, hx321_0⟩ (fun hHeld => ?_); refine with_tabW spec_stChain.tab8 spec_stChain.bits8 (fun HT_ HW_ => ?_)
             generalize wr.drew = w30 at HO_6 HL319_0 HR319_0 HB HL320_0 HL321_0 HR320_0 HR321_0 hx320_0 hx321_0 hHeld ⊢
             refine pq (i := 0) (N := some 36) #[tT, fF, fF, fF, fF, fF, fF, fF, fF, fF, fF, fF, fF, fF, fF, fF, fF, fF] rfl rfl HT_.out ?_
             refine pq (i := 1) (N := some 37) #[tT, tT, fF, fF, fF, fF, fF, fF, fF, fF, fF, fF, fF, fF, fF, fF, fF, fF] rfl rfl HT_.out ?_
             refine pq (i := 2) (N := some 38) #[tT, tT, tT, fF, fF, fF, fF, fF, fF, fF, fF, fF, fF, fF, fF, fF, fF, fF] rfl rfl HT_.out ?_
             refine pq (i := 3) (N := some 39) #[tT, tT, tT, tT, fF, fF, fF, fF, fF, fF, fF, fF, fF, fF, fF, fF, fF, fF] rfl rfl HT_.out ?_
             refine pq (i := 4) (N := some 40) #[tT, tT, tT, tT, tT, fF, fF, fF, fF, fF, fF, fF, fF, fF, fF, fF, fF, fF] rfl rfl HT_.out ?_
             refine pq (i := 6) (N := some 42) #[tT, tT, tT, tT, tT, fF, tT, fF, fF, fF, fF, fF, fF, fF, fF, fF, fF, fF] rfl rfl HT_.out ?_
             refine pq (i := 7) (N := some 43) #[tT, tT, tT, tT, tT, fF, tT, tT, fF, fF, fF, fF, fF, fF, fF, fF, fF, fF] rfl rfl HT_.out ?_
             refine pq (i := 8) (N := some 44) #[tT, tT, tT, tT, tT, fF, tT, tT, tT, fF, fF, fF, fF, fF, fF, fF, fF, fF] rfl rfl HT_.out ?_
             refine pq (i := 9) (N := some 45) #[tT, tT, tT, tT, tT, fF, tT, tT, tT, tT, fF, fF, fF, fF, fF, fF, fF, fF] rfl rfl HT_.out ?_
             refine pq (i := 10) (N := some 46) #[tT, tT, tT, tT, tT, fF, tT, tT, tT, tT, tT, fF, fF, fF, fF, fF, fF, fF] rfl rfl HT_.out ?_
             refine tq2 (i := 5) (N := some 41) #[tT, tT, tT, tT, tT, tT, tT, tT, tT, tT, tT, fF, fF, fF, fF, fF, fF, fF] rfl rfl HT_.out HW_.out hHeld ?_
             refine tq2 (i := 11) (N := some 47) #[tT, tT, tT, tT, tT, tT, tT, tT, tT, tT, tT, tT, fF, fF, fF, fF, fF, fF] rfl rfl HT_.out HW_.out hHeld ?_
             refine one_ (i := 12) (N := some 48) #[tT, tT, tT, tT, tT, tT, tT, tT, tT, tT, tT, tT, tT, fF, fF, fF, fF, fF] rfl rfl (one_of HT_.out kf) (by decide) (fun K hK => ?_)
             refine goes_ Try.func89 kf rfl #[.slice A320_0 (rd_L1 x6_2 (ji22)).length c320_0, .slice A321_0 (rd_L1 x6_2 (ji18)).length c321_0] (by rfl) rfl rfl (by (try simp only [List.map_toArray, List.map_cons, List.map_nil]); first | done | (simp only [hji18, hji22]; rfl) | rfl | (simp only [List.length_drop, List.length_take]; rfl)) ?_
             with_reducible refine (spec_sgRemainder.calls k2 _ _ (rd_L1 x6_2 (ji22)) _ _ (rd_L1 x6_2 (ji18)) t322 true _ ?side1 ?side2 ?side3 ?side4 A25.out).mono ?_
             (case side1 => repeat (first | exact (by repeat (first | (with_reducible exact HR320_0.out) | (with_reducible refine Kd.C_alloc ?_ _) | (with_reducible refine Kd.C_drewN ?_ _) | (with_reducible refine Kd.C_drew ?_) | exact HR320_0.out)) | (with_reducible refine Kd.C_alloc ?_ _) | (with_reducible refine Kd.C_drewN ?_ _) | (with_reducible refine Kd.C_drew ?_)))
             (case side2 => exact HC320_0.out)
             (case side3 => repeat (first | exact (by repeat (first | (with_reducible exact HR321_0.out) | (with_reducible refine Kd.C_alloc ?_ _) | (with_reducible refine Kd.C_drewN ?_ _) | (with_reducible refine Kd.C_drew ?_) | exact HR321_0.out)) | (with_reducible refine Kd.C_alloc ?_ _) | (with_reducible refine Kd.C_drewN ?_ _) | (with_reducible refine Kd.C_drew ?_)))
             (case side4 => exact HC321_0.out)
             rintro e w31 ⟨v324, rfl, ho0, hb⟩
             have HS0_ := (hb.cell (World.block_lt_of_cell? _ _ (hHeld.1))).trans (hHeld.1)
             have HS1_ := (hb.cell (World.block_lt_of_cell? _ _ (hHeld.2))).trans (hHeld.2)
             refine ⟨_, rfl, ?_⟩
             have n0_ := Aside0.mk (Kd.N_elder' (kn HO_6) (Kd.R_base ho0) hb)
             have n1_ := Aside0.mk (Kd.V_elder' (kv HL319_0) (Kd.R_base ho0) hb)
             have n2_ := Aside0.mk (Kd.V_elder' (kv HL320_0) (Kd.R_base ho0) hb)
             have n3_ := Aside0.mk (Kd.V_elder' (kv HL321_0) (Kd.R_base ho0) hb)
             have n4_ := Aside0.mk (Kd.R_lower (Kd.R_newM (M := fun k_ => (w.heap.size ≤ k_)) ho0 (below_size bz) (fun k_ h_ => h_)) (below_size bz))
             have n5_ := Aside0.mk (Kd.C_below (by repeat (first | (with_reducible exact HR319_0.out) | (with_reducible refine Kd.C_alloc ?_ _) | (with_reducible refine Kd.C_drewN ?_ _) | (with_reducible refine Kd.C_drew ?_) | exact HR319_0.out)) hb)
             have n6_ := Aside0.mk (Kd.C_below (by repeat (first | (with_reducible exact HR320_0.out) | (with_reducible refine Kd.C_alloc ?_ _) | (with_reducible refine Kd.C_drewN ?_ _) | (with_reducible refine Kd.C_drew ?_) | exact HR320_0.out)) hb)
             have n7_ := Aside0.mk (Kd.C_below (by repeat (first | (with_reducible exact HR321_0.out) | (with_reducible refine Kd.C_alloc ?_ _) | (with_reducible refine Kd.C_drewN ?_ _) | (with_reducible refine Kd.C_drew ?_) | exact HR321_0.out)) hb)
             have n8_ := Aside0.mk (below_step bz hb)
             clear HO_6 HL319_0 HL320_0 HL321_0 HR319_0 HR320_0 HR321_0 HB
             have HO_6 := n0_
             have HL319_0 := n1_
             have HL320_0 := n2_
             have HL321_0 := n3_
             have HO325 := n4_
             have HR319_0 := n5_
             have HR320_0 := n6_
             have HR321_0 := n7_
             have HB := n8_
             clear n0_ n1_ n2_ n3_ n4_ n5_ n6_ n7_ n8_
             (try clear hb)
             (try clear hb2)
             (try clear hk)
             (try clear hi)
             (try clear ho0)
             refine hK.out _ _ ⟨HS0_, HS1_⟩ (fun hHeld => ?_)
             clear hK K
             refine norm_ (a' := ?_) ?_ ?_
             rotate_left
             ·show Act.put _ (some 48) _ = _
              simp only [Act.put, List.setIfInBounds_toArray, List.set_cons_zero, List.set_cons_succ, i64_w, i32_w]
              rfl
             refine pq (i := 13) (N := some 35) #[tT, tT, tT, tT, tT, tT, tT, tT, tT, tT, tT, tT, tT, tT, fF, fF, fF, fF] rfl rfl HT_.out ?_
             refine pq (i := 14) (N := some 49) #[tT, tT, tT, tT, tT, tT, tT, tT, tT, tT, tT, tT, tT, tT, tT, fF, fF, fF] rfl rfl HT_.out ?_
             refine pq (i := 15) (N := some 50) #[tT, tT, tT, tT, tT, tT, tT, tT, tT, tT, tT, tT, tT, tT, tT, tT, fF, fF] rfl rfl HT_.out ?_
             refine pq (i := 16) (N := some 7) #[tT, tT, tT, tT, tT, tT, tT, tT, tT, tT, tT, tT, tT, tT, tT, tT, tT, fF] rfl rfl HT_.out ?_
             refine pq (i := 17) (N := some 8) #[tT, tT, tT, tT, tT, tT, tT, tT, tT, tT, tT, tT, tT, tT, tT, tT, tT, tT] rfl rfl HT_.out ?_
             refine done_ (done_of HT_.out kf) ?_
             obtain ⟨Ao32, co32, eo32⟩ := Kd.R_slice HO325.out
             subst eo32
             try go_wp2_with (first | ((with_reducible refine gate_callee (f := 101) rfl ?_); refine goesL_ (some 55) rfl rfl Try.func101 kf rfl #[.slice Ao32 t322.length co32] rfl sm ?_; (with_reducible refine (spec_stMinus.calls k2 _ _ t322 t326 _ ?side1 ?side2 A27.out).mono ?_); (case side1 => exact cr HO325); (case side2 => exact (Kd.R_reads' HO325.out).2.1); rintro e w33 ⟨v327, rfl, ho0, hb⟩; refine ⟨_, rfl, ?_⟩; have n0_ := Aside0.mk (Kd.N_elder' (kn HO_6) (Kd.R_base ho0) hb); have n1_ := Aside0.mk (Kd.V_elder' (kv HL319_0) (Kd.R_base ho0) hb); have n2_ := Aside0.mk (Kd.V_elder' (kv HL320_0) (Kd.R_base ho0) hb); have n3_ := Aside0.mk (Kd.V_elder' (kv HL321_0) (Kd.R_base ho0) hb); have n4_ := Aside0.mk (Kd.R_elder' (kr HO325) (Kd.R_base ho0) hb); have n5_ := Aside0.mk (Kd.R_lower (Kd.R_new' (Kd.R_newM (M := fun k_ => (w.heap.size ≤ k_)) ho0 (below_size bz) (fun k_ h_ => h_)) (Kd.R_lt (kr HO325))) (below_size bz)); have n6_ := Aside0.mk (Kd.C_below (by repeat (first | (with_reducible exact HR319_0.out) | (with_reducible refine Kd.C_alloc ?_ _) | (with_reducible refine Kd.C_drewN ?_ _) | (with_reducible refine Kd.C_drew ?_) | exact HR319_0.out)) hb); have n7_ := Aside0.mk (Kd.C_below (by repeat (first | (with_reducible exact HR320_0.out) | (with_reducible refine Kd.C_alloc ?_ _) | (with_reducible refine Kd.C_drewN ?_ _) | (with_reducible refine Kd.C_drew ?_) | exact HR320_0.out)) hb); have n8_ := Aside0.mk (Kd.C_below (by repeat (first | (with_reducible exact HR321_0.out) | (with_reducible refine Kd.C_alloc ?_ _) | (with_reducible refine Kd.C_drewN ?_ _) | (with_reducible refine Kd.C_drew ?_) | exact HR321_0.out)) hb); have n9_ := Aside0.mk (below_step bz hb); clear HO_6; clear HL319_0; clear HL320_0; clear HL321_0; clear HO325; clear HR319_0; clear HR320_0; clear HR321_0; clear HB; have HO_6 := n0_; have HL319_0 := n1_; have HL320_0 := n2_; have HL321_0 := n3_; have HO325 := n4_; have HO328 := n5_; have HR319_0 := n6_; have HR320_0 := n7_; have HR321_0 := n8_; have HB := n9_; clear n0_ n1_ n2_ n3_ n4_ n5_ n6_ n7_ n8_ n9_; (try clear hb); (try clear hb2); (try clear hk); (try clear hi); (try clear ho0); obtain ⟨Ao35, co35, eo35⟩ := Kd.R_slice HO328.out; subst eo35) | ((with_reducible refine gate_builtin (b := .append) (xs := #[.tmp 53, .tmp 56]) rfl ?_); at_builtin; refine Kd.N_append (Kd.slice 3 (Kd.int .i64)) (w0 := w) w.heap.size rfl (.tmp 53) (.tmp 56) 37 22 (.slice none 0 0) 24 rfl Try.underlying37 info22 rfl (by decide) (by omega) (.slice (some ad319) x6_2.length co29) x6_2 t326 [.slice Ao35 t326.length co35] (fun k_ => (w.heap.size ≤ k_) ∧ some k_ ≠ (.slice Ao32 t322.length co32 : Value).ownBlock) (fun k_ => ((fun k_ => (w.heap.size ≤ k_) ∧ some k_ ≠ (.slice Ao32 t322.length co32 : Value).ownBlock)) k_ ∧ some k_ ≠ (.slice (some ad319) x6_2.length co29 : Value).ownBlock) rfl rfl ?aP (fun _ hk => hk) ?aF ?aO ?aB ?aS ?aL ?_; (case aP => exact (Kd.FK_slice_mk (Kd.R_reads' (Kd.R_mono (ok' := (fun k_ => ((fun k_ => (w.heap.size ≤ k_) ∧ some k_ ≠ (.slice Ao32 t322.length co32 : Value).ownBlock)) k_ ∧ some k_ ≠ (.slice (some ad319) x6_2.length co29 : Value).ownBlock)) (Kd.R_apart' (HO328.out) (Kd.N_typed HO_6.out) (by decide)) (fun k_ hk => ⟨⟨hk.1.1.1, hk.1.2⟩, hk.2⟩))).2.1 (Kd.R_F (Kd.R_mono (ok' := (fun k_ => ((fun k_ => (w.heap.size ≤ k_) ∧ some k_ ≠ (.slice Ao32 t322.length co32 : Value).ownBlock)) k_ ∧ some k_ ≠ (.slice (some ad319) x6_2.length co29 : Value).ownBlock)) (Kd.R_apart' (HO328.out) (Kd.N_typed HO_6.out) (by decide)) (fun k_ hk => ⟨⟨hk.1.1.1, hk.1.2⟩, hk.2⟩))))); (case aB => exact bz); (case aF => exact (fun k_ hk => ⟨(Nat.le_trans (below_size bz) hk), Kd.fresh' (Kd.R_lt (kr HO325)) k_ hk⟩)); (case aO => exact (by (with_reducible repeat (first | apply Kd.N_alloc | apply Kd.N_drewN | apply Kd.N_drew)); exact Kd.N_mono HO_6.out (fun _ hk => ⟨hk.1.1, hk.1.2⟩))); (case aS => exact (below_size bz)); (case aL => have := LMc28.out; omega); intro v330 w34 ho hb hg hat; rw [← Ny329.out] at ho; have n0_ := Aside0.mk (Kd.V_afterv (ok := (fun k_ => (w.heap.size ≤ k_) ∧ some k_ ≠ (.slice Ao32 t322.length co32 : Value).ownBlock ∧ some k_ ≠ (.slice Ao35 t326.length co35 : Value).ownBlock)) (by (with_reducible repeat (first | apply Kd.V_alloc | apply Kd.V_drewN | apply Kd.V_drew)); exact Kd.V_mono HL319_0.out (fun _ hk => ⟨⟨hk.1.1.1, ⟨hk.1.2, hk.2⟩⟩, hk.1.1.2⟩)) hg hat); have n1_ := Aside0.mk (Kd.V_afterv (ok := (fun k_ => (w.heap.size ≤ k_) ∧ some k_ ≠ (.slice Ao32 t322.length co32 : Value).ownBlock ∧ some k_ ≠ (.slice Ao35 t326.length co35 : Value).ownBlock)) (by (with_reducible repeat (first | apply Kd.V_alloc | apply Kd.V_drewN | apply Kd.V_drew)); exact Kd.V_mono HL320_0.out (fun _ hk => ⟨⟨hk.1.1.1, ⟨hk.1.2, hk.2⟩⟩, hk.1.1.2⟩)) hg hat); have n2_ := Aside0.mk (Kd.V_afterv (ok := (fun k_ => (w.heap.size ≤ k_) ∧ some k_ ≠ (.slice Ao32 t322.length co32 : Value).ownBlock ∧ some k_ ≠ (.slice Ao35 t326.length co35 : Value).ownBlock)) (by (with_reducible repeat (first | apply Kd.V_alloc | apply Kd.V_drewN | apply Kd.V_drew)); exact Kd.V_mono HL321_0.out (fun _ hk => ⟨⟨hk.1.1.1, ⟨hk.1.2, hk.2⟩⟩, hk.1.1.2⟩)) hg hat); have n3_ := Aside0.mk (Kd.R_over' (kr HO325) (Kd.N_typed (kn HO_6)) (by decide) hg); have n4_ := Aside0.mk (hb); have n5_ := Aside0.mk (ho); clear HL319_0; clear HL320_0; clear HL321_0; clear HO325; clear HB; clear HO_6; clear HO328; have HL319_0 := n0_; have HL320_0 := n1_; have HL321_0 := n2_; have HO325 := n3_; have HB := n4_; have HO331 := n5_; clear n0_ n1_ n2_ n3_ n4_ n5_; clear ho hb hg hat))
             go_roundg k2
             case measure => have := HJ3.out; have := HK2.out; omega
             case rel => exact ⟨(y329), H', ⟨by have := HJ3.out; have := HK2.out; omega⟩, ⟨by (with_reducible repeat (first | apply Kd.N_alloc | apply Kd.N_drewN | apply Kd.N_drew)); exact Kd.N_mono HO331.out (fun _ hk => hk.1)⟩, ⟨bz⟩⟩
            ·rw [if_neg c28] at H
             exact absurd H (by simp)
           ·replace c26 := Bool.eq_false_iff.mpr c26
            subst c26
            rw [if_neg (show ¬ (false = true) by decide)] at H
            simp only [Option.some.injEq, Prod.mk.injEq] at H
            obtain ⟨rfl, rfl⟩ := H
            obtain ⟨Ao36, co36, eo36⟩ := Kd.N_slice HO_6.out
            subst eo36
            have p319 : 0 ≤ ((ji18) : Int) := of_decide_eq_true am
            have q319 : (ji18) < (x6_2.length : Int) := of_decide_eq_true am
            obtain ⟨ad319, A319_0, c319_0, e319, hx319_0, hl319_0, hi319_0⟩ := at_L1 (Kd.N_reads' HO_6.out).2.2 (ji18) p319 q319
            cases e319
            obtain ⟨ce319, hce319, hMe319, hcc319⟩ := Kd.N_get HO_6.out [] (ji18) p319 (by first | exact q319 | exact of_decide_eq_true am | (have e_ := (Kd.N_reads' HO_6.out).1; omega))
            obtain ⟨ua319_0, uc319_0, rfl, ul319_0, ge319_0⟩ := Kd.FK_slice_open hMe319
            have hv319_0 := hcc319 0 _ rfl
            rw [Nat.add_zero, show ((Kd.slice 3 (Kd.int .i64))).sz = 1 from rfl, Nat.mul_one] at hv319_0
            replace hv319_0 := Option.some.inj (hv319_0.symm.trans hx319_0)
            injection hv319_0 with hva_ hvn_ hvc_
            rw [hva_] at ge319_0
            rw [hvc_] at ul319_0
            have HL319_0 := Aside0.mk (show Kd.V (Kd.int .i64) 3 _ w.heap.size _ _ (rd_L1 x6_2 (ji18)) from Kd.V_mk ul319_0 ge319_0)
            clear hva_ hvn_ hvc_ ge319_0 ul319_0 hcc319 hce319
            have HR319_0 := Aside0.mk hi319_0
            have HC319_0 := Aside0.mk hl319_0
            clear hi319_0 hl319_0
            replace p319 := eq_true p319
            replace q319 := eq_true q319
            try go_wp2
            have n0_ := Aside0.mk (Kd.N_drew HO_6.out)
            have n1_ := Aside0.mk (Kd.V_drew HL319_0.out)
            have n2_ := Aside0.mk (Kd.C_drew HR319_0.out)
            have n3_ := Aside0.mk (below_drew1 HB.out)
            clear HO_6 HL319_0 HR319_0 HB
            have HO_6 := n0_
            have HL319_0 := n1_
            have HR319_0 := n2_
            have HB := n3_
            clear n0_ n1_ n2_ n3_
            have p320 : 0 ≤ ((ji22) : Int) := of_decide_eq_true am
            have q320 : (ji22) < (x6_2.length : Int) := of_decide_eq_true am
            obtain ⟨ad320, A320_0, c320_0, e320, hx320_0, hl320_0, hi320_0⟩ := at_L1 (Kd.N_reads' HO_6.out).2.2 (ji22) p320 q320
            obtain rfl : ad319 = ad320 := (by injection e320)
            obtain ⟨ce320, hce320, hMe320, hcc320⟩ := Kd.N_get HO_6.out [] (ji22) p320 (by first | exact q320 | exact of_decide_eq_true am | (have e_ := (Kd.N_reads' HO_6.out).1; omega))
            obtain ⟨ua320_0, uc320_0, rfl, ul320_0, ge320_0⟩ := Kd.FK_slice_open hMe320
            have hv320_0 := hcc320 0 _ rfl
            rw [Nat.add_zero, show ((Kd.slice 3 (Kd.int .i64))).sz = 1 from rfl, Nat.mul_one] at hv320_0
            replace hv320_0 := Option.some.inj (hv320_0.symm.trans hx320_0)
            injection hv320_0 with hva_ hvn_ hvc_
            rw [hva_] at ge320_0
            rw [hvc_] at ul320_0
            have HL320_0 := Aside0.mk (show Kd.V (Kd.int .i64) 3 _ w.heap.size _ _ (rd_L1 x6_2 (ji22)) from Kd.V_mk ul320_0 ge320_0)
            clear hva_ hvn_ hvc_ ge320_0 ul320_0 hcc320 hce320
            have HR320_0 := Aside0.mk hi320_0
            have HC320_0 := Aside0.mk hl320_0
            clear hi320_0 hl320_0
            replace p320 := eq_true p320
            replace q320 := eq_true q320
            have p321 : 0 ≤ ((ji18) : Int) := of_decide_eq_true am
            have q321 : (ji18) < (x6_2.length : Int) := of_decide_eq_true am
            obtain ⟨ad321, A321_0, c321_0, e321, hx321_0, hl321_0, hi321_0⟩ := at_L1 (Kd.N_reads' HO_6.out).2.2 (ji18) p321 q321
            obtain rfl : ad319 = ad321 := (by injection e321)
            obtain ⟨ce321, hce321, hMe321, hcc321⟩ := Kd.N_get HO_6.out [] (ji18) p321 (by first | exact q321 | exact of_decide_eq_true am | (have e_ := (Kd.N_reads' HO_6.out).1; omega))
            obtain ⟨ua321_0, uc321_0, rfl, ul321_0, ge321_0⟩ := Kd.FK_slice_open hMe321
            have hv321_0 := hcc321 0 _ rfl
            rw [Nat.add_zero, show ((Kd.slice 3 (Kd.int .i64))).sz = 1 from rfl, Nat.mul_one] at hv321_0
            replace hv321_0 := Option.some.inj (hv321_0.symm.trans hx321_0)
            injection hv321_0 with hva_ hvn_ hvc_
            rw [hva_] at ge321_0
            rw [hvc_] at ul321_0
            have HL321_0 := Aside0.mk (show Kd.V (Kd.int .i64) 3 _ w.heap.size _ _ (rd_L1 x6_2 (ji18)) from Kd.V_mk ul321_0 ge321_0)
            clear hva_ hvn_ hvc_ ge321_0 ul321_0 hcc321 hce321
            have HR321_0 := Aside0.mk hi321_0
            have HC321_0 := Aside0.mk hl321_0
            clear hi321_0 hl321_0
            replace p321 := eq_true p321
            replace q321 := eq_true q321
            refine start_ (n := 18) (S := fun w' => w'.cell? (ad319.add ((ji22)).toNat) = some (.slice A320_0 (rd_L1 x6_2 (ji22)).length c320_0) ∧ w'.cell? (ad319.add ((ji18)).toNat) = some (.slice A321_0 (rd_L1 x6_2 (ji18)).length c321_0)) (ds := []) #[fF, fF, fF, fF, fF, fF, fF, fF, fF, fF, fF, fF, fF, fF, fF, fF, fF, fF] kf rfl rfl ⟨hx320_0, hx321_0⟩ (fun hHeld => ?_); refine with_tabW spec_stChain.tab8 spec_stChain.bits8 (fun HT_ HW_ => ?_)
            generalize wr.drew = w37 at HO_6 HL319_0 HR319_0 HB HL320_0 HL321_0 HR320_0 HR321_0 hx320_0 hx321_0 hHeld ⊢
            refine pq (i := 0) (N := some 36) #[tT, fF, fF, fF, fF, fF, fF, fF, fF, fF, fF, fF, fF, fF, fF, fF, fF, fF] rfl rfl HT_.out ?_
            refine pq (i := 1) (N := some 37) #[tT, tT, fF, fF, fF, fF, fF, fF, fF, fF, fF, fF, fF, fF, fF, fF, fF, fF] rfl rfl HT_.out ?_
            refine pq (i := 2) (N := some 38) #[tT, tT, tT, fF, fF, fF, fF, fF, fF, fF, fF, fF, fF, fF, fF, fF, fF, fF] rfl rfl HT_.out ?_
            refine pq (i := 3) (N := some 39) #[tT, tT, tT, tT, fF, fF, fF, fF, fF, fF, fF, fF, fF, fF, fF, fF, fF, fF] rfl rfl HT_.out ?_
            refine pq (i := 4) (N := some 40) #[tT, tT, tT, tT, tT, fF, fF, fF, fF, fF, fF, fF, fF, fF, fF, fF, fF, fF] rfl rfl HT_.out ?_
            refine pq (i := 6) (N := some 42) #[tT, tT, tT, tT, tT, fF, tT, fF, fF, fF, fF, fF, fF, fF, fF, fF, fF, fF] rfl rfl HT_.out ?_
            refine pq (i := 7) (N := some 43) #[tT, tT, tT, tT, tT, fF, tT, tT, fF, fF, fF, fF, fF, fF, fF, fF, fF, fF] rfl rfl HT_.out ?_
            refine pq (i := 8) (N := some 44) #[tT, tT, tT, tT, tT, fF, tT, tT, tT, fF, fF, fF, fF, fF, fF, fF, fF, fF] rfl rfl HT_.out ?_
            refine pq (i := 9) (N := some 45) #[tT, tT, tT, tT, tT, fF, tT, tT, tT, tT, fF, fF, fF, fF, fF, fF, fF, fF] rfl rfl HT_.out ?_
            refine pq (i := 10) (N := some 46) #[tT, tT, tT, tT, tT, fF, tT, tT, tT, tT, tT, fF, fF, fF, fF, fF, fF, fF] rfl rfl HT_.out ?_
            refine tq2 (i := 5) (N := some 41) #[tT, tT, tT, tT, tT, tT, tT, tT, tT, tT, tT, fF, fF, fF, fF, fF, fF, fF] rfl rfl HT_.out HW_.out hHeld ?_
            refine tq2 (i := 11) (N := some 47) #[tT, tT, tT, tT, tT, tT, tT, tT, tT, tT, tT, tT, fF, fF, fF, fF, fF, fF] rfl rfl HT_.out HW_.out hHeld ?_
            refine one_ (i := 12) (N := some 48) #[tT, tT, tT, tT, tT, tT, tT, tT, tT, tT, tT, tT, tT, fF, fF, fF, fF, fF] rfl rfl (one_of HT_.out kf) (by decide) (fun K hK => ?_)
            refine goes_ Try.func89 kf rfl #[.slice A320_0 (rd_L1 x6_2 (ji22)).length c320_0, .slice A321_0 (rd_L1 x6_2 (ji18)).length c321_0] (by rfl) rfl rfl (by (try simp only [List.map_toArray, List.map_cons, List.map_nil]); first | done | (simp only [hji18, hji22]; rfl) | rfl | (simp only [List.length_drop, List.length_take]; rfl)) ?_
            with_reducible refine (spec_sgRemainder.calls k2 _ _ (rd_L1 x6_2 (ji22)) _ _ (rd_L1 x6_2 (ji18)) t322 false _ ?side1 ?side2 ?side3 ?side4 A25.out).mono ?_
            (case side1 => repeat (first | exact (by repeat (first | (with_reducible exact HR320_0.out) | (with_reducible refine Kd.C_alloc ?_ _) | (with_reducible refine Kd.C_drewN ?_ _) | (with_reducible refine Kd.C_drew ?_) | exact HR320_0.out)) | (with_reducible refine Kd.C_alloc ?_ _) | (with_reducible refine Kd.C_drewN ?_ _) | (with_reducible refine Kd.C_drew ?_)))
            (case side2 => exact HC320_0.out)
            (case side3 => repeat (first | exact (by repeat (first | (with_reducible exact HR321_0.out) | (with_reducible refine Kd.C_alloc ?_ _) | (with_reducible refine Kd.C_drewN ?_ _) | (with_reducible refine Kd.C_drew ?_) | exact HR321_0.out)) | (with_reducible refine Kd.C_alloc ?_ _) | (with_reducible refine Kd.C_drewN ?_ _) | (with_reducible refine Kd.C_drew ?_)))
            (case side4 => exact HC321_0.out)
            rintro e w38 ⟨v324, rfl, ho0, hb⟩
            have HS0_ := (hb.cell (World.block_lt_of_cell? _ _ (hHeld.1))).trans (hHeld.1)
            have HS1_ := (hb.cell (World.block_lt_of_cell? _ _ (hHeld.2))).trans (hHeld.2)
            refine ⟨_, rfl, ?_⟩
            have n0_ := Aside0.mk (Kd.N_elder' (kn HO_6) (Kd.R_base ho0) hb)
            have n1_ := Aside0.mk (Kd.V_elder' (kv HL319_0) (Kd.R_base ho0) hb)
            have n2_ := Aside0.mk (Kd.V_elder' (kv HL320_0) (Kd.R_base ho0) hb)
            have n3_ := Aside0.mk (Kd.V_elder' (kv HL321_0) (Kd.R_base ho0) hb)
            have n4_ := Aside0.mk (Kd.R_lower (Kd.R_newM (M := fun k_ => (w.heap.size ≤ k_)) ho0 (below_size bz) (fun k_ h_ => h_)) (below_size bz))
            have n5_ := Aside0.mk (Kd.C_below (by repeat (first | (with_reducible exact HR319_0.out) | (with_reducible refine Kd.C_alloc ?_ _) | (with_reducible refine Kd.C_drewN ?_ _) | (with_reducible refine Kd.C_drew ?_) | exact HR319_0.out)) hb)
            have n6_ := Aside0.mk (Kd.C_below (by repeat (first | (with_reducible exact HR320_0.out) | (with_reducible refine Kd.C_alloc ?_ _) | (with_reducible refine Kd.C_drewN ?_ _) | (with_reducible refine Kd.C_drew ?_) | exact HR320_0.out)) hb)
            have n7_ := Aside0.mk (Kd.C_below (by repeat (first | (with_reducible exact HR321_0.out) | (with_reducible refine Kd.C_alloc ?_ _) | (with_reducible refine Kd.C_drewN ?_ _) | (with_reducible refine Kd.C_drew ?_) | exact HR321_0.out)) hb)
            have n8_ := Aside0.mk (below_step bz hb)
            clear HO_6 HL319_0 HL320_0 HL321_0 HR319_0 HR320_0 HR321_0 HB
            have HO_6 := n0_
            have HL319_0 := n1_
            have HL320_0 := n2_
            have HL321_0 := n3_
            have HO325 := n4_
            have HR319_0 := n5_
            have HR320_0 := n6_
            have HR321_0 := n7_
            have HB := n8_
            clear n0_ n1_ n2_ n3_ n4_ n5_ n6_ n7_ n8_
            (try clear hb)
            (try clear hb2)
            (try clear hk)
            (try clear hi)
            (try clear ho0)
            refine hK.out _ _ ⟨HS0_, HS1_⟩ (fun hHeld => ?_)
            clear hK K
            refine norm_ (a' := ?_) ?_ ?_
            rotate_left
            ·show Act.put _ (some 48) _ = _
             simp only [Act.put, List.setIfInBounds_toArray, List.set_cons_zero, List.set_cons_succ, i64_w, i32_w]
             rfl
            refine pq (i := 13) (N := some 35) #[tT, tT, tT, tT, tT, tT, tT, tT, tT, tT, tT, tT, tT, tT, fF, fF, fF, fF] rfl rfl HT_.out ?_
            refine pq (i := 14) (N := some 49) #[tT, tT, tT, tT, tT, tT, tT, tT, tT, tT, tT, tT, tT, tT, tT, fF, fF, fF] rfl rfl HT_.out ?_
            refine pq (i := 15) (N := some 50) #[tT, tT, tT, tT, tT, tT, tT, tT, tT, tT, tT, tT, tT, tT, tT, tT, fF, fF] rfl rfl HT_.out ?_
            refine pq (i := 16) (N := some 7) #[tT, tT, tT, tT, tT, tT, tT, tT, tT, tT, tT, tT, tT, tT, tT, tT, tT, fF] rfl rfl HT_.out ?_
            refine pq (i := 17) (N := some 8) #[tT, tT, tT, tT, tT, tT, tT, tT, tT, tT, tT, tT, tT, tT, tT, tT, tT, tT] rfl rfl HT_.out ?_
            refine done_ (done_of HT_.out kf) ?_
            try go_wp2
            go_ret2
            exact ⟨_, by first | rfl | (simp [errW_none, errW_some] <;> rfl) | (simp only [← hji18, ← hji22]; first | rfl | (simp [errW_none, errW_some] <;> rfl)) | (simp [*, errW_none, errW_some] <;> rfl), by first | exact Kd.S_nil _ _ _ _ _ | exact Kd.N_nil _ _ _ _ _ | exact Kd.V_nil _ _ _ _ _ | exact Kd.Q_nil _ _ _ _ _ | exact Kd.R_nil _ _ _ _ _, bz⟩
          ·rw [if_neg c24] at H
           exact absurd H (by simp)
         ·rw [if_neg c23] at H
          exact absurd H (by simp)
        ·rw [if_neg c21] at H
         have c21b0 : decide (1 < ((rd_L1 x6_2 (ji18)).length : Int)) = false := decide_eq_false c21
         have c21b1 : decide (1 < (rd_L1 x6_2 (ji18)).length) = false := decide_eq_false (by omega)
         clear c21
         simp only [Option.some.injEq, Prod.mk.injEq] at H
         obtain ⟨rfl, rfl⟩ := H
         obtain ⟨Ao39, co39, eo39⟩ := Kd.N_slice HO_6.out
         subst eo39
         have p319 : 0 ≤ ((ji18) : Int) := of_decide_eq_true am
         have q319 : (ji18) < (x6_2.length : Int) := of_decide_eq_true am
         obtain ⟨ad319, A319_0, c319_0, e319, hx319_0, hl319_0, hi319_0⟩ := at_L1 (Kd.N_reads' HO_6.out).2.2 (ji18) p319 q319
         cases e319
         obtain ⟨ce319, hce319, hMe319, hcc319⟩ := Kd.N_get HO_6.out [] (ji18) p319 (by first | exact q319 | exact of_decide_eq_true am | (have e_ := (Kd.N_reads' HO_6.out).1; omega))
         obtain ⟨ua319_0, uc319_0, rfl, ul319_0, ge319_0⟩ := Kd.FK_slice_open hMe319
         have hv319_0 := hcc319 0 _ rfl
         rw [Nat.add_zero, show ((Kd.slice 3 (Kd.int .i64))).sz = 1 from rfl, Nat.mul_one] at hv319_0
         replace hv319_0 := Option.some.inj (hv319_0.symm.trans hx319_0)
         injection hv319_0 with hva_ hvn_ hvc_
         rw [hva_] at ge319_0
         rw [hvc_] at ul319_0
         have HL319_0 := Aside0.mk (show Kd.V (Kd.int .i64) 3 _ w.heap.size _ _ (rd_L1 x6_2 (ji18)) from Kd.V_mk ul319_0 ge319_0)
         clear hva_ hvn_ hvc_ ge319_0 ul319_0 hcc319 hce319
         have HR319_0 := Aside0.mk hi319_0
         have HC319_0 := Aside0.mk hl319_0
         clear hi319_0 hl319_0
         replace p319 := eq_true p319
         replace q319 := eq_true q319
         go_wp2
         go_ret2
         exact ⟨_, by first | rfl | (simp [errW_none, errW_some] <;> rfl) | (simp only [← hji18]; first | rfl | (simp [errW_none, errW_some] <;> rfl)) | (simp [*, errW_none, errW_some] <;> rfl), by (with_reducible repeat (first | apply Kd.N_alloc | apply Kd.N_drewN | apply Kd.N_drew)); exact HO_6.out, bz⟩
       ·rw [if_neg c20] at H
        exact absurd H (by simp)
      ·rw [if_neg c19] at H
       exact absurd H (by simp)
 ·replace c3 := Bool.eq_false_iff.mpr c3
  subst c3
  rw [if_neg (show ¬ (false = true) by decide)] at H
  simp only [Option.some.injEq, Prod.mk.injEq] at H
  obtain ⟨rfl, rfl⟩ := H
  go_enter Try.func63, Try.ntmps63
  go_wp2_with (first | ((with_reducible refine gate_callee (f := 55) rfl ?_); refine goesL_ (some 11) rfl rfl Try.func55 kf rfl #[.slice A0 l0.length c0] rfl sm ?_; (with_reducible refine (spec_sgFree.calls k _ _ l0 t303 false _ ?side1 ?side2 A2.out).mono ?_); (case side1 => exact cc HR0); (case side2 => exact HC0.out); rintro e w40 ⟨v305, rfl, ho0, hb⟩; refine ⟨_, rfl, ?_⟩; have n0_ := Aside0.mk (Kd.R_lower (Kd.R_newM (M := fun k_ => (w.heap.size ≤ k_)) ho0 (below_size bz) (fun k_ h_ => h_)) (below_size bz)); have n1_ := Aside0.mk (below_step bz hb); clear HB; have HO306 := n0_; have HB := n1_; clear n0_ n1_; (try clear hb); (try clear hb2); (try clear hk); (try clear hi); (try clear ho0)))
  go_ret2
  exact ⟨_, er, by first | exact Kd.S_nil _ _ _ _ _ | exact Kd.N_nil _ _ _ _ _ | exact Kd.V_nil _ _ _ _ _ | exact Kd.Q_nil _ _ _ _ _ | exact Kd.R_nil _ _ _ _ _, bz⟩
end Go.Proofs.Ytcgcgifndkeeoaa.QSt
