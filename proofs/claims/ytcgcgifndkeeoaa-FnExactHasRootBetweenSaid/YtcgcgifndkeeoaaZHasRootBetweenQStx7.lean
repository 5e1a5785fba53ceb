import Derived.Test.YtcgcgifndkeeoaaZHasRootBetweenSq
import Derived.Test.YtcgcgifndkeeoaaZHasRootBetweenQStx2
import Derived.Test.YtcgcgifndkeeoaaZHasRootBetweenQStx4
namespace Go.Proofs.Ytcgcgifndkeeoaa.QSt
open Go.RowKit Go.Proofs.YtcgcgifndkeeoaaW.PrintWords Go.Proofs.YtcgcgifndkeeoaaW.PrintLast Go.Proofs.YtcgcgifndkeeoaaW.PrintMore
attribute [local go_sem] max2_int min2_int max_two min_two max_three min_three max_four min_four
set_option linter.unusedVariables false
set_option linter.unusedSimpArgs false
mutual
def spec_sgStep.j0 : Nat → List Int → List Int → Int → Int → Option (List Int × Bool)
 | 0, _, _, _, _ => none
 | k + 1, x0, x1, x9, x10 => spec_sgStep.l0 k x0 x1 x9 x10 ([] : List Int) x0 (x0.length : Int) 0
def spec_sgStep.l0 : Nat → List Int → List Int → Int → Int → List Int → List Int → Int → Int → Option (List Int × Bool)
 | 0, _, _, _, _, _, _, _, _ => none
 | k + 1, x0, x1, x9, x10, x11, x44, x45, x46 => if x46 < x45 then (if 0 ≤ x46 then (if x46 < (x44.length : Int) then (if x11.length < 17592186044416 then (spec_sgStep.l0 k x0 x1 x9 x10 (x11 ++ [wrap64 ((rd x44 x46) * x9)]) x44 x45 (wrap64 (x46 + 1))) else (none)) else (none)) else (none)) else (spec_sgStep.l1 k x0 x1 x10 x11 x1 (x1.length : Int) 0)
def spec_sgStep.l1 : Nat → List Int → List Int → Int → List Int → List Int → Int → Int → Option (List Int × Bool)
 | 0, _, _, _, _, _, _, _ => none
 | k + 1, x0, x1, x10, x11, x57, x58, x59 => if x59 < x58 then (if 0 ≤ x59 then (if x59 < (x57.length : Int) then (if 0 ≤ (wrap64 ((wrap64 (x59 + (x0.length : Int))) - (x1.length : Int))) then (if (wrap64 ((wrap64 (x59 + (x0.length : Int))) - (x1.length : Int))) < (x11.length : Int) then (spec_sgStep.l1 k x0 x1 x10 (x11.set ((wrap64 ((wrap64 (x59 + (x0.length : Int))) - (x1.length : Int))) : Int).toNat (wrap64 ((rd x11 (wrap64 ((wrap64 (x59 + (x0.length : Int))) - (x1.length : Int)))) - (wrap64 ((rd x57 x59) * x10))))) x57 x58 (wrap64 (x59 + 1))) else (none)) else (none)) else (none)) else (none)) else ((spec_sgTrim.f k x11).bind fun t236 => ((spec_sgPart.f k t236).bind fun t239 => ((spec_l1All.f k t239 (-1000000000) 1000000000).bind fun t242 => (some (t239, t242)))))
end
def spec_sgStep.f (k : Nat) (l0 : List Int) (l1 : List Int) : Option (List Int × Bool) := if 0 ≤ (wrap64 ((l0.length : Int) - 1)) then (if (wrap64 ((l0.length : Int) - 1)) < (l0.length : Int) then (if 0 ≤ (wrap64 ((l1.length : Int) - 1)) then (if (wrap64 ((l1.length : Int) - 1)) < (l1.length : Int) then ((spec_l1Abs.f (rd l0 (wrap64 ((l0.length : Int) - 1)))).bind fun t226 => ((spec_l1Abs.f (rd l1 (wrap64 ((l1.length : Int) - 1)))).bind fun t227 => ((spec_sgGcd.f k t226 t227).bind fun t228 => (if t228 = 0 then (none) else (if (rd l1 (wrap64 ((l1.length : Int) - 1))) < 0 then (spec_sgStep.j0 k l0 l1 (wrap64 (Int.tdiv t227 t228)) (wrap64 (-(wrap64 (Int.tdiv (rd l0 (wrap64 ((l0.length : Int) - 1))) t228))))) else (spec_sgStep.j0 k l0 l1 (wrap64 (Int.tdiv t227 t228)) (wrap64 (Int.tdiv (rd l0 (wrap64 ((l0.length : Int) - 1))) t228)))))))) else (none)) else (none)) else (none)) else (none)
set_option maxHeartbeats 8000000 in
set_option maxRecDepth 100000 in
theorem spec_sgStep.calls (k : Nat) (A0 : Option Addr) (c0 : Nat) (l0 : List Int) (A1 : Option Addr) (c1 : Nat) (l1 : List Int) (r1 : List Int) (r2 : Bool) (w : World) (hr0 : Kd.C (Kd.int .i64) w A0 l0.length l0) (hc0 : l0.length ≤ c0) (hr1 : Kd.C (Kd.int .i64) w A1 l1.length l1) (hc1 : l1.length ≤ c1) (h : spec_sgStep.f k l0 l1 = some (r1, r2)) :
 Calls Try.prog 116 #[.slice A0 l0.length c0, .slice A1 l1.length c1] w fun e w' => ∃ v0_ : Value, e = .returned (.tuple #[v0_, .bool r2]) ∧ Kd.R (Kd.int .i64) 3 w' w.heap.size (fun _ => True) v0_ r1 ∧ Below w.heap.size w w' := by
 have HR0 := Aside0.mk hr0
 have HC0 := Aside0.mk hc0
 clear hr0 hc0
 have HR1 := Aside0.mk hr1
 have HC1 := Aside0.mk hc1
 clear hr1 hc1
 have HB := Aside0.mk (Below.refl w.heap.size w)
 have H : (if 0 ≤ (wrap64 ((l0.length : Int) - 1)) then (if (wrap64 ((l0.length : Int) - 1)) < (l0.length : Int) then (if 0 ≤ (wrap64 ((l1.length : Int) - 1)) then (if (wrap64 ((l1.length : Int) - 1)) < (l1.length : Int) then ((spec_l1Abs.f (rd l0 (wrap64 ((l0.length : Int) - 1)))).bind fun t226 => ((spec_l1Abs.f (rd l1 (wrap64 ((l1.length : Int) - 1)))).bind fun t227 => ((spec_sgGcd.f k t226 t227).bind fun t228 => (if t228 = 0 then (none) else (if (rd l1 (wrap64 ((l1.length : Int) - 1))) < 0 then (spec_sgStep.j0 k l0 l1 (wrap64 (Int.tdiv t227 t228)) (wrap64 (-(wrap64 (Int.tdiv (rd l0 (wrap64 ((l0.length : Int) - 1))) t228))))) else (spec_sgStep.j0 k l0 l1 (wrap64 (Int.tdiv t227 t228)) (wrap64 (Int.tdiv (rd l0 (wrap64 ((l0.length : Int) - 1))) t228)))))))) else (none)) else (none)) else (none)) else (none)) = some (r1, r2) := h
 clear h
 obtain ⟨ji3, hji3⟩ : ∃ j_ : Int, (wrap64 ((l0.length : Int) - 1)) = j_ := ⟨_, rfl⟩
 first | rw [hji3] at H | simp only [hji3] at H
 have hji3w : (IntKind.i64.wrap ((l0.length : Int) - 1)) = ji3 := (i64_w _).trans hji3
 by_cases c4 : 0 ≤ (ji3)
 ·rw [if_pos c4] at H
  have c4b0 : decide (0 ≤ (ji3)) = true := decide_eq_true c4
  clear c4
  by_cases c5 : (ji3) < (l0.length : Int)
  ·rw [if_pos c5] at H
   have c5b0 : decide ((ji3) < (l0.length : Int)) = true := decide_eq_true c5
   clear c5
   obtain ⟨ji6, hji6⟩ : ∃ j_ : Int, (wrap64 ((l1.length : Int) - 1)) = j_ := ⟨_, rfl⟩
   first | rw [hji6] at H | simp only [hji6] at H
   have hji6w : (IntKind.i64.wrap ((l1.length : Int) - 1)) = ji6 := (i64_w _).trans hji6
   by_cases c7 : 0 ≤ (ji6)
   ·rw [if_pos c7] at H
    have c7b0 : decide (0 ≤ (ji6)) = true := decide_eq_true c7
    clear c7
    by_cases c8 : (ji6) < (l1.length : Int)
    ·rw [if_pos c8] at H
     have c8b0 : decide ((ji6) < (l1.length : Int)) = true := decide_eq_true c8
     clear c8
     obtain ⟨t226, A9, H⟩ := bi H
     obtain ⟨t227, A10, H⟩ := bi H
     obtain ⟨t228, A11, H⟩ := bi H
     by_cases c12 : t228 = 0
     ·rw [if_pos c12] at H
      exact absurd H (by simp)
     ·rw [if_neg c12] at H
      have c12b0 : (t228 == 0) = false := beq_eq_false_iff_ne.mpr c12
      have c12b1 : (t228 != 0) = true := bne_iff_ne.mpr c12
      have HC13 := Aside0.mk H
      clear H
      have p224 : 0 ≤ ((ji3) : Int) := of_decide_eq_true am
      have q224 : (ji3) < (l0.length : Int) := of_decide_eq_true am
      obtain ⟨ad224, e224, hx224_0⟩ := Kd.at_int HR0.out (ji3) p224 q224
      cases e224
      replace p224 := eq_true p224
      replace q224 := eq_true q224
      have p225 : 0 ≤ ((ji6) : Int) := of_decide_eq_true am
      have q225 : (ji6) < (l1.length : Int) := of_decide_eq_true am
      obtain ⟨ad225, e225, hx225_0⟩ := Kd.at_int HR1.out (ji6) p225 q225
      cases e225
      replace p225 := eq_true p225
      replace q225 := eq_true q225
      go_enter Try.func116, Try.ntmps116
      go_upto_if 41 with (first | (go_at_call 132; (with_reducible refine (spec_l1Abs.calls (rd l0 (ji3)) t226 _ A9.out).mono ?_); rintro e w' ⟨rfl, ⟨nd, rfl⟩⟩; (try first | exact ⟨rfl, _, World.drewN_drewN _ _ _⟩ | exact ⟨rfl, _, Eq.trans (World.drewN_drewN _ _ _) (congrArg (World.drewN _) (Nat.add_assoc _ _ _))⟩)) | (go_at_call 132; (with_reducible refine (spec_l1Abs.calls (rd l1 (ji6)) t227 _ A10.out).mono ?_); rintro e w' ⟨rfl, ⟨nd, rfl⟩⟩; (try first | exact ⟨rfl, _, World.drewN_drewN _ _ _⟩ | exact ⟨rfl, _, Eq.trans (World.drewN_drewN _ _ _) (congrArg (World.drewN _) (Nat.add_assoc _ _ _))⟩)) | (go_at_call 131; (with_reducible refine (spec_sgGcd.calls k t226 t227 t228 _ A11.out).mono ?_); rintro e w' ⟨rfl, ⟨nd, rfl⟩⟩; (try first | exact ⟨rfl, _, World.drewN_drewN _ _ _⟩ | exact ⟨rfl, _, Eq.trans (World.drewN_drewN _ _ _) (congrArg (World.drewN _) (Nat.add_assoc _ _ _))⟩)))
      repeat (go_quiet (first | (go_at_call 132; (with_reducible refine (spec_l1Abs.calls (rd l0 (ji3)) t226 _ A9.out).mono ?_); rintro e w' ⟨rfl, ⟨nd, rfl⟩⟩; (try first | exact ⟨rfl, _, World.drewN_drewN _ _ _⟩ | exact ⟨rfl, _, Eq.trans (World.drewN_drewN _ _ _) (congrArg (World.drewN _) (Nat.add_assoc _ _ _))⟩)) | (go_at_call 132; (with_reducible refine (spec_l1Abs.calls (rd l1 (ji6)) t227 _ A10.out).mono ?_); rintro e w' ⟨rfl, ⟨nd, rfl⟩⟩; (try first | exact ⟨rfl, _, World.drewN_drewN _ _ _⟩ | exact ⟨rfl, _, Eq.trans (World.drewN_drewN _ _ _) (congrArg (World.drewN _) (Nat.add_assoc _ _ _))⟩)) | (go_at_call 131; (with_reducible refine (spec_sgGcd.calls k t226 t227 t228 _ A11.out).mono ?_); rintro e w' ⟨rfl, ⟨nd, rfl⟩⟩; (try first | exact ⟨rfl, _, World.drewN_drewN _ _ _⟩ | exact ⟨rfl, _, Eq.trans (World.drewN_drewN _ _ _) (congrArg (World.drewN _) (Nat.add_assoc _ _ _))⟩))); go_upto_if 41 with (first | (go_at_call 132; (with_reducible refine (spec_l1Abs.calls (rd l0 (ji3)) t226 _ A9.out).mono ?_); rintro e w' ⟨rfl, ⟨nd, rfl⟩⟩; (try first | exact ⟨rfl, _, World.drewN_drewN _ _ _⟩ | exact ⟨rfl, _, Eq.trans (World.drewN_drewN _ _ _) (congrArg (World.drewN _) (Nat.add_assoc _ _ _))⟩)) | (go_at_call 132; (with_reducible refine (spec_l1Abs.calls (rd l1 (ji6)) t227 _ A10.out).mono ?_); rintro e w' ⟨rfl, ⟨nd, rfl⟩⟩; (try first | exact ⟨rfl, _, World.drewN_drewN _ _ _⟩ | exact ⟨rfl, _, Eq.trans (World.drewN_drewN _ _ _) (congrArg (World.drewN _) (Nat.add_assoc _ _ _))⟩)) | (go_at_call 131; (with_reducible refine (spec_sgGcd.calls k t226 t227 t228 _ A11.out).mono ?_); rintro e w' ⟨rfl, ⟨nd, rfl⟩⟩; (try first | exact ⟨rfl, _, World.drewN_drewN _ _ _⟩ | exact ⟨rfl, _, Eq.trans (World.drewN_drewN _ _ _) (congrArg (World.drewN _) (Nat.add_assoc _ _ _))⟩))))
      (try simp only [Act.put, List.setIfInBounds_toArray, List.set_cons_zero, List.set_cons_succ])
      go_cut [10] (fun v10 wc => ∃ (kq : Nat) (x10_12 : Int), v10 = .int .i64 x10_12 ∧ Aside0 (spec_sgStep.j0 kq l0 l1 (wrap64 (Int.tdiv t227 t228)) x10_12 = some (r1, r2)) ∧ Aside0 (kq ≤ k) ∧ Aside0 (Below w.heap.size w wc))
      case first =>
       have H := HC13.out
       clear HC13
       by_cases c14 : (rd l1 (ji6)) < 0
       ·rw [if_pos c14] at H
        have c14b0 : decide ((rd l1 (ji6)) < 0) = true := decide_eq_true c14
        clear c14
        (first | rw [c14b0] | (simp only [i64_w, i32_w]; rw [c14b0]) | skip)
        have H' := Aside0.mk H
        clear H
        go_wp2
        repeat (go_quiet (fail); try go_wp2)
        go_meet
        case rel => exact ⟨_, (wrap64 (-(wrap64 (Int.tdiv (rd l0 (ji3)) t228)))), (by first | rfl | (simp; done) | (simp only [← hji3] <;> (first | rfl | simp)) | (simp [*]; done)), H', ⟨by first | omega | exact Nat.le_refl _⟩, ⟨bz⟩⟩
       ·rw [if_neg c14] at H
        have c14b0 : decide ((rd l1 (ji6)) < 0) = false := decide_eq_false c14
        clear c14
        (first | rw [c14b0] | (simp only [i64_w, i32_w]; rw [c14b0]) | skip)
        have H' := Aside0.mk H
        clear H
        go_wp2
        repeat (go_quiet (fail); try go_wp2)
        go_meet
        case rel => exact ⟨_, (wrap64 (Int.tdiv (rd l0 (ji3)) t228)), (by first | rfl | (simp; done) | (simp only [← hji3] <;> (first | rfl | simp)) | (simp [*]; done)), H', ⟨by first | omega | exact Nat.le_refl _⟩, ⟨bz⟩⟩
      case rest =>
       clear HC13
       try clear c1; try clear p2; try clear q2; try clear hx2; try clear c4; try clear c4b0; try clear c5; try clear c5b0; try clear p6; try clear c7; try clear c7b0; try clear c8; try clear c8b0; try clear c11; try clear c12; try clear c12b0; try clear c12b1; try clear c14; try clear c14b0; try clear hx224_0; try clear hx225_0; try clear p224; try clear p225; try clear q224; try clear q225
       obtain ⟨kq, x10_12, rfl, HA, HJ12, HB⟩ := hcut
       cases kq with
       | zero => exact absurd HA.out (by simp [spec_sgStep.j0])
       | succ kj12 =>
        have H := HA.out
        clear HA
        simp only [spec_sgStep.j0] at H
        have H' := Aside0.mk H
        clear H
        go_wp2
        repeat (go_quiet (fail); try go_wp2)
        go_loopg [11, 46] kj12 (fun kq v11 v46 w' => ∃ (x11_2 : List Int) (x46_2 : Int), v46 = .int .i64 x46_2 ∧ Aside0 (spec_sgStep.l0 kq l0 l1 (wrap64 (Int.tdiv t227 t228)) x10_12 x11_2 l0 (l0.length : Int) x46_2 = some (r1, r2)) ∧ Aside0 (kq ≤ kj12) ∧ Aside0 (Kd.R (Kd.int .i64) 3 w' w.heap.size (fun _ => True) v11 x11_2) ∧ Aside0 (Below w.heap.size w w'))
        case atStart => exact ⟨(([] : List Int)), (0), sr, H', ⟨Nat.le_refl _⟩, ⟨by first | exact Kd.R_nil _ _ _ _ _ | exact Kd.N_nil _ _ _ _ _ | exact Kd.V_nil _ _ _ _ _ | exact Kd.Q_nil _ _ _ _ _ | exact Kd.S_nil _ _ _ _ _⟩, ⟨bz⟩⟩
        case round =>
         clear H'
         try clear c1; try clear p2; try clear q2; try clear hx2; try clear c4; try clear c4b0; try clear c5; try clear c5b0; try clear p6; try clear c7; try clear c7b0; try clear c8; try clear c8b0; try clear c11; try clear c12; try clear c12b0; try clear c12b1; try clear c14; try clear c14b0; try clear hx224_0; try clear hx225_0; try clear p2; try clear p224; try clear p225; try clear p6; try clear q2; try clear q224; try clear q225
         obtain ⟨x11_2, x46_2, rfl, HA, HK2, HO_11, HB⟩ := hrel
         cases gk with
         | zero => exact absurd HA.out (by simp [spec_sgStep.l0])
         | succ k2 =>
          have H := HA.out
          clear HA
          simp only [spec_sgStep.l0] at H
          by_cases c15 : x46_2 < (l0.length : Int)
          ·rw [if_pos c15] at H
           have c15b0 : decide (x46_2 < (l0.length : Int)) = true := decide_eq_true c15
           clear c15
           by_cases c16 : 0 ≤ x46_2
           ·rw [if_pos c16] at H
            have c16b0 : decide (0 ≤ x46_2) = true := decide_eq_true c16
            clear c16
            by_cases c17 : x46_2 < (l0.length : Int)
            ·rw [if_pos c17] at H
             have c17b0 : decide (x46_2 < (l0.length : Int)) = true := decide_eq_true c17
             clear c17
             by_cases c18 : x11_2.length < 17592186044416
             ·rw [if_pos c18] at H
              have LMc18 := Aside0.mk c18
              clear c18
              obtain ⟨y230, hy230⟩ : ∃ y_ : List Int, y_ = (x11_2 ++ [wrap64 ((rd l0 x46_2) * (wrap64 (Int.tdiv t227 t228)))]) := ⟨_, rfl⟩
              replace H : (spec_sgStep.l0 k2 l0 l1 (wrap64 (Int.tdiv t227 t228)) x10_12 y230 l0 (l0.length : Int) (wrap64 (x46_2 + 1))) = some (r1, r2) := by first | (rw [hy230]; with_reducible exact H) | (have H2_ := (Option.bind_some _ _).symm.trans H; rw [hy230]; with_reducible exact H2_) | (have H2_ := (Option.bind_some _ _).symm.trans H; with_reducible exact H2_) | with_reducible exact H | (rw [hy230]; exact H) | exact H
              have Ny230 := Aside0.mk hy230
              clear hy230
              have H' := Aside0.mk H
              clear H
              have p229 : 0 ≤ (x46_2 : Int) := of_decide_eq_true am
              have q229 : x46_2 < (l0.length : Int) := of_decide_eq_true am
              obtain ⟨ad229, e229, hx229_0⟩ := Kd.at_int HR0.out x46_2 p229 q229
              obtain rfl : ad224 = ad229 := (by injection e229)
              replace hx229_0 := (HB.out.cell (World.block_lt_of_cell? w _ hx229_0)).trans hx229_0
              replace p229 := eq_true p229
              replace q229 := eq_true q229
              go_wp2_with (first | ((with_reducible refine gate_builtin (b := .append) (xs := #[.tmp 50, .tmp 54]) rfl ?_); at_builtin; refine Kd.R_append (Kd.int .i64) (w0 := w) w.heap.size rfl (.tmp 50) (.tmp 54) 22 3 (.int .i64 0) 8 rfl Try.underlying22 info3 rfl (by decide) (by omega) u11 x11_2 (wrap64 ((rd l0 x46_2) * (wrap64 (Int.tdiv t227 t228)))) [.int .i64 (wrap64 ((rd l0 x46_2) * (wrap64 (Int.tdiv t227 t228))))] (fun _ => True) (fun _ => False) rfl rfl ?aP (fun _ hk => hk.elim) ?aF ?aO ?aB ?aS ?aL ?_; (case aP => exact rfl); (case aB => exact bz); (case aF => exact (fun _ _ => trivial)); (case aO => exact (kr HO_11)); (case aS => exact (below_size bz)); (case aL => have := LMc18.out; omega); intro v231 w19 ho hb hg hat; rw [← Ny230.out] at ho; have n0_ := Aside0.mk (hb); have n1_ := Aside0.mk (ho); clear HB; clear HO_11; have HB := n0_; have HO232 := n1_; clear n0_ n1_; clear ho hb hg hat))
              repeat (go_quiet (first | ((with_reducible refine gate_builtin (b := .append) (xs := #[.tmp 50, .tmp 54]) rfl ?_); at_builtin; refine Kd.R_append (Kd.int .i64) (w0 := w) w.heap.size rfl (.tmp 50) (.tmp 54) 22 3 (.int .i64 0) 8 rfl Try.underlying22 info3 rfl (by decide) (by omega) u11 x11_2 (wrap64 ((rd l0 x46_2) * (wrap64 (Int.tdiv t227 t228)))) [.int .i64 (wrap64 ((rd l0 x46_2) * (wrap64 (Int.tdiv t227 t228))))] (fun _ => True) (fun _ => False) rfl rfl ?aP (fun _ hk => hk.elim) ?aF ?aO ?aB ?aS ?aL ?_; (case aP => exact rfl); (case aB => exact bz); (case aF => exact (fun _ _ => trivial)); (case aO => exact (kr HO_11)); (case aS => exact (below_size bz)); (case aL => have := LMc18.out; omega); intro v231 w19 ho hb hg hat; rw [← Ny230.out] at ho; have n0_ := Aside0.mk (hb); have n1_ := Aside0.mk (ho); clear HB; clear HO_11; have HB := n0_; have HO232 := n1_; clear n0_ n1_; clear ho hb hg hat)); try go_wp2_with (first | ((with_reducible refine gate_builtin (b := .append) (xs := #[.tmp 50, .tmp 54]) rfl ?_); at_builtin; refine Kd.R_append (Kd.int .i64) (w0 := w) w.heap.size rfl (.tmp 50) (.tmp 54) 22 3 (.int .i64 0) 8 rfl Try.underlying22 info3 rfl (by decide) (by omega) u11 x11_2 (wrap64 ((rd l0 x46_2) * (wrap64 (Int.tdiv t227 t228)))) [.int .i64 (wrap64 ((rd l0 x46_2) * (wrap64 (Int.tdiv t227 t228))))] (fun _ => True) (fun _ => False) rfl rfl ?aP (fun _ hk => hk.elim) ?aF ?aO ?aB ?aS ?aL ?_; (case aP => exact rfl); (case aB => exact bz); (case aF => exact (fun _ _ => trivial)); (case aO => exact (kr HO_11)); (case aS => exact (below_size bz)); (case aL => have := LMc18.out; omega); intro v231 w19 ho hb hg hat; rw [← Ny230.out] at ho; have n0_ := Aside0.mk (hb); have n1_ := Aside0.mk (ho); clear HB; clear HO_11; have HB := n0_; have HO232 := n1_; clear n0_ n1_; clear ho hb hg hat)))
              go_roundg k2
              case measure => have := HJ12.out; have := HK2.out; omega
              case rel => exact ⟨(y230), (wrap64 (x46_2 + 1)), sr, H', ⟨by have := HJ12.out; have := HK2.out; omega⟩, ⟨kr HO232⟩, ⟨bz⟩⟩
             ·rw [if_neg c18] at H
              exact absurd H (by simp)
            ·rw [if_neg c17] at H
             exact absurd H (by simp)
           ·rw [if_neg c16] at H
            exact absurd H (by simp)
          ·rw [if_neg c15] at H
           have c15b0 : decide (x46_2 < (l0.length : Int)) = false := decide_eq_false c15
           clear c15
           have H' := Aside0.mk H
           clear H
           go_wp2
           repeat (go_quiet (fail); try go_wp2)
           go_loopg [59] k2 (fun kq v59 w' => ∃ (x11_3 : List Int) (x59_3 : Int), v59 = .int .i64 x59_3 ∧ Aside0 (spec_sgStep.l1 kq l0 l1 x10_12 x11_3 l1 (l1.length : Int) x59_3 = some (r1, r2)) ∧ Aside0 (kq ≤ k2) ∧ Aside0 (Kd.R (Kd.int .i64) 3 w' w.heap.size (fun _ => True) u11 x11_3) ∧ Aside0 (Below w.heap.size w w'))
           case atStart => exact ⟨(x11_2), (0), sr, H', ⟨Nat.le_refl _⟩, ⟨kr HO_11⟩, ⟨bz⟩⟩
           case round =>
            clear H'
            try clear c1; try clear p2; try clear q2; try clear hx2; try clear c4; try clear c4b0; try clear c5; try clear c5b0; try clear p6; try clear c7; try clear c7b0; try clear c8; try clear c8b0; try clear c11; try clear c12; try clear c12b0; try clear c12b1; try clear c14; try clear c14b0; try clear c15; try clear c15b0; try clear c16; try clear c16b0; try clear c17; try clear c17b0; try clear c18; try clear hx224_0; try clear hx225_0; try clear hx229_0; try clear p2; try clear p224; try clear p225; try clear p229; try clear p6; try clear q2; try clear q224; try clear q225; try clear q229
            obtain ⟨x11_3, x59_3, rfl, HA, HK3, HO_11, HB⟩ := hrel
            cases gk with
            | zero => exact absurd HA.out (by simp [spec_sgStep.l1])
            | succ k3 =>
             have H := HA.out
             clear HA
             simp only [spec_sgStep.l1] at H
             by_cases c20 : x59_3 < (l1.length : Int)
             ·rw [if_pos c20] at H
              have c20b0 : decide (x59_3 < (l1.length : Int)) = true := decide_eq_true c20
              clear c20
              by_cases c21 : 0 ≤ x59_3
              ·rw [if_pos c21] at H
               have c21b0 : decide (0 ≤ x59_3) = true := decide_eq_true c21
               clear c21
               by_cases c22 : x59_3 < (l1.length : Int)
               ·rw [if_pos c22] at H
                have c22b0 : decide (x59_3 < (l1.length : Int)) = true := decide_eq_true c22
                clear c22
                obtain ⟨ji23, hji23⟩ : ∃ j_ : Int, (wrap64 ((wrap64 (x59_3 + (l0.length : Int))) - (l1.length : Int))) = j_ := ⟨_, rfl⟩
                first | rw [hji23] at H | simp only [hji23] at H
                have hji23w : (IntKind.i64.wrap ((wrap64 (x59_3 + (l0.length : Int))) - (l1.length : Int))) = ji23 := (i64_w _).trans hji23
                by_cases c24 : 0 ≤ (ji23)
                ·rw [if_pos c24] at H
                 have c24b0 : decide (0 ≤ (ji23)) = true := decide_eq_true c24
                 clear c24
                 by_cases c25 : (ji23) < (x11_3.length : Int)
                 ·rw [if_pos c25] at H
                  have c25b0 : decide ((ji23) < (x11_3.length : Int)) = true := decide_eq_true c25
                  clear c25
                  obtain ⟨y235, hy235⟩ : ∃ y_ : List Int, y_ = (x11_3.set ((ji23) : Int).toNat (wrap64 ((rd x11_3 (ji23)) - (wrap64 ((rd l1 x59_3) * x10_12))))) := ⟨_, rfl⟩
                  replace H : (spec_sgStep.l1 k3 l0 l1 x10_12 y235 l1 (l1.length : Int) (wrap64 (x59_3 + 1))) = some (r1, r2) := by first | (rw [hy235]; with_reducible exact H) | (have H2_ := (Option.bind_some _ _).symm.trans H; rw [hy235]; with_reducible exact H2_) | (have H2_ := (Option.bind_some _ _).symm.trans H; with_reducible exact H2_) | with_reducible exact H | (rw [hy235]; exact H) | exact H
                  have Ny235 := Aside0.mk hy235
                  clear hy235
                  have H' := Aside0.mk H
                  clear H
                  have p233 : 0 ≤ (x59_3 : Int) := of_decide_eq_true am
                  have q233 : x59_3 < (l1.length : Int) := of_decide_eq_true am
                  obtain ⟨ad233, e233, hx233_0⟩ := Kd.at_int HR1.out x59_3 p233 q233
                  obtain rfl : ad225 = ad233 := (by injection e233)
                  replace hx233_0 := (HB.out.cell (World.block_lt_of_cell? w _ hx233_0)).trans hx233_0
                  replace p233 := eq_true p233
                  replace q233 := eq_true q233
                  obtain ⟨Ao27, co27, eo27⟩ := Kd.R_slice HO_11.out
                  subst eo27
                  have p234 : 0 ≤ ((ji23) : Int) := of_decide_eq_true am
                  have q234 : (ji23) < (x11_3.length : Int) := of_decide_eq_true am
                  obtain ⟨ad234, e234, hx234_0⟩ := Kd.at_int (Kd.R_reads' HO_11.out).2.2 (ji23) p234 q234
                  cases e234
                  replace p234 := eq_true p234
                  replace q234 := eq_true q234
                  have p26 : 0 ≤ ((ji23) : Int) := of_decide_eq_true am
                  have q26 : ((ji23) : Int) < ((x11_3.length : Int) : Int) := of_decide_eq_true am
                  obtain ⟨go26, co26, eo26, gb26, gl26, cl26, HG26⟩ := Kd.R_form HO_11.out (by omega)
                  (first | cases eo26 | (injection eo26 with ea_ en_ ec_; (first | subst ea_ | (injection ea_ with ea_; subst ea_)); subst ec_; clear en_))
                  have GB26 := Aside0.mk gb26
                  have GG26 := Aside0.mk HG26
                  clear gb26 gl26 HG26
                  (first | simp only [add_plain] at hx234_0 | skip)
                  obtain ⟨hx26_0, hf26_0⟩ := Kd.R_celln 0 HO_11.out ((ji23) : Int) p26 q26
                  replace p26 := eq_true p26
                  replace q26 := eq_true q26
                  have HP28 := Kd.R_putg HO_11.out ((ji23) : Int) (wrap64 ((rd x11_3 (ji23)) - (wrap64 ((rd l1 x59_3) * x10_12))))
                  go_wp2_with (first | ((with_reducible refine gate_store (t := 3) (p := 78) rfl ?_); (try (rw [drewN_self wr]; generalize hq_ : World.drewN wr _ = wr; have n0_ := Aside0.mk (Kd.R_at hq_ HO_11.out); have n1_ := Aside0.mk (below_at hq_ HB.out); clear hq_ HO_11 HB; have HO_11 := n0_; have HB := n1_; clear n0_ n1_; (try (have HP28 := Kd.R_putg HO_11.out ((ji23) : Int) (wrap64 ((rd x11_3 (ji23)) - (wrap64 ((rd l1 x59_3) * x10_12)))))))); refine store_event (t := 3) (p := 78) (v := ?vo_w29) (w1 := (wr.setCell ⟨go26, ((ji23) : Int).toNat, none⟩ (.int .i64 (wrap64 ((rd x11_3 (ji23)) - (wrap64 ((rd l1 x59_3) * x10_12))))))) ?hg ?ho ?hn ?hr ?_; (case ho => rfl); (case hg => rfl); (case hn => rfl); (case hr => first | (go_simp; done) | (go_simp; rfl)); intro w29 hw; have hg : wr.grownBy w29 (some go26) := (by rw [hw]; exact HP28.2); have hp_ : Kd.R (Kd.int .i64) 3 w29 w.heap.size (fun _ => True) (.slice (some ⟨go26, 0, none⟩) x11_3.length co27) y235 := (by rw [hw, Ny235.out]; exact HP28.1); clear HP28; have n0_ := Aside0.mk (hp_); have n1_ := Aside0.mk ((by rw [hw]; exact below_set (HB.out) GB26.out : Below w.heap.size w w29)); clear HO_11; clear HB; have HO_11 := n0_; have HB := n1_; clear n0_ n1_; clear hg hw hp_))
                  repeat (go_quiet (first | ((with_reducible refine gate_store (t := 3) (p := 78) rfl ?_); (try (rw [drewN_self wr]; generalize hq_ : World.drewN wr _ = wr; have n0_ := Aside0.mk (Kd.R_at hq_ HO_11.out); have n1_ := Aside0.mk (below_at hq_ HB.out); clear hq_ HO_11 HB; have HO_11 := n0_; have HB := n1_; clear n0_ n1_; (try (have HP28 := Kd.R_putg HO_11.out ((ji23) : Int) (wrap64 ((rd x11_3 (ji23)) - (wrap64 ((rd l1 x59_3) * x10_12)))))))); refine store_event (t := 3) (p := 78) (v := ?vo_w29) (w1 := (wr.setCell ⟨go26, ((ji23) : Int).toNat, none⟩ (.int .i64 (wrap64 ((rd x11_3 (ji23)) - (wrap64 ((rd l1 x59_3) * x10_12))))))) ?hg ?ho ?hn ?hr ?_; (case ho => rfl); (case hg => rfl); (case hn => rfl); (case hr => first | (go_simp; done) | (go_simp; rfl)); intro w29 hw; have hg : wr.grownBy w29 (some go26) := (by rw [hw]; exact HP28.2); have hp_ : Kd.R (Kd.int .i64) 3 w29 w.heap.size (fun _ => True) (.slice (some ⟨go26, 0, none⟩) x11_3.length co27) y235 := (by rw [hw, Ny235.out]; exact HP28.1); clear HP28; have n0_ := Aside0.mk (hp_); have n1_ := Aside0.mk ((by rw [hw]; exact below_set (HB.out) GB26.out : Below w.heap.size w w29)); clear HO_11; clear HB; have HO_11 := n0_; have HB := n1_; clear n0_ n1_; clear hg hw hp_)); try go_wp2_with (first | ((with_reducible refine gate_store (t := 3) (p := 78) rfl ?_); (try (rw [drewN_self wr]; generalize hq_ : World.drewN wr _ = wr; have n0_ := Aside0.mk (Kd.R_at hq_ HO_11.out); have n1_ := Aside0.mk (below_at hq_ HB.out); clear hq_ HO_11 HB; have HO_11 := n0_; have HB := n1_; clear n0_ n1_; (try (have HP28 := Kd.R_putg HO_11.out ((ji23) : Int) (wrap64 ((rd x11_3 (ji23)) - (wrap64 ((rd l1 x59_3) * x10_12)))))))); refine store_event (t := 3) (p := 78) (v := ?vo_w29) (w1 := (wr.setCell ⟨go26, ((ji23) : Int).toNat, none⟩ (.int .i64 (wrap64 ((rd x11_3 (ji23)) - (wrap64 ((rd l1 x59_3) * x10_12))))))) ?hg ?ho ?hn ?hr ?_; (case ho => rfl); (case hg => rfl); (case hn => rfl); (case hr => first | (go_simp; done) | (go_simp; rfl)); intro w29 hw; have hg : wr.grownBy w29 (some go26) := (by rw [hw]; exact HP28.2); have hp_ : Kd.R (Kd.int .i64) 3 w29 w.heap.size (fun _ => True) (.slice (some ⟨go26, 0, none⟩) x11_3.length co27) y235 := (by rw [hw, Ny235.out]; exact HP28.1); clear HP28; have n0_ := Aside0.mk (hp_); have n1_ := Aside0.mk ((by rw [hw]; exact below_set (HB.out) GB26.out : Below w.heap.size w w29)); clear HO_11; clear HB; have HO_11 := n0_; have HB := n1_; clear n0_ n1_; clear hg hw hp_)))
                  go_roundg k3
                  case measure => have := HJ12.out; have := HK2.out; have := HK3.out; omega
                  case rel => exact ⟨(y235), (wrap64 (x59_3 + 1)), sr, H', ⟨by have := HJ12.out; have := HK2.out; have := HK3.out; omega⟩, ⟨kr HO_11⟩, ⟨bz⟩⟩
                 ·rw [if_neg c25] at H
                  exact absurd H (by simp)
                ·rw [if_neg c24] at H
                 exact absurd H (by simp)
               ·rw [if_neg c22] at H
                exact absurd H (by simp)
              ·rw [if_neg c21] at H
               exact absurd H (by simp)
             ·rw [if_neg c20] at H
              have c20b0 : decide (x59_3 < (l1.length : Int)) = false := decide_eq_false c20
              clear c20
              obtain ⟨t236, A30, H⟩ := bi H
              obtain ⟨t239, A31, H⟩ := bi H
              obtain ⟨t242, A32, H⟩ := bi H
              simp only [Option.some.injEq, Prod.mk.injEq] at H
              obtain ⟨rfl, rfl⟩ := H
              obtain ⟨Ao33, co33, eo33⟩ := Kd.R_slice HO_11.out
              subst eo33
              go_wp2_with (first | (go_at_call 133; (with_reducible refine (spec_sgTrim.calls k3 (fun k_ => some k_ = (.slice Ao33 x11_3.length co33 : Value).ownBlock) _ _ x11_3 t236 _ ?side1 A30.out).mono ?_); (case side1 => exact Kd.R_V (Kd.R_tight rfl (HO_11.out))); rintro e w34 ⟨v237, rfl, ho0, hb⟩; have n0_ := Aside0.mk (Kd.R_elder' (kr HO_11) (Kd.R_base ho0) hb); have n1_ := Aside0.mk (Kd.R_lower (Kd.R_new' (Kd.R_mono (ok' := fun k_ => True) ho0 (fun _ hk_ => trivial)) (Kd.R_lt (kr HO_11))) (below_size bz)); have n2_ := Aside0.mk (below_step bz hb); clear HO_11; clear HB; have HO_11 := n0_; have HO238 := n1_; have HB := n2_; clear n0_ n1_ n2_; (try clear hb); (try clear hb2); (try clear hk); (try clear hi); (try clear ho0); obtain ⟨Ao35, co35, eo35⟩ := Kd.R_slice HO238.out; subst eo35) | (go_at_call 100; (with_reducible refine (spec_sgPart.calls k3 _ _ t236 t239 _ ?side1 ?side2 A31.out).mono ?_); (case side1 => exact cr HO238); (case side2 => exact (Kd.R_reads' HO238.out).2.1); rintro e w36 ⟨v240, rfl, ho0, hb⟩; have n0_ := Aside0.mk (Kd.R_elder' (kr HO_11) (Kd.R_base ho0) hb); have n1_ := Aside0.mk (Kd.R_elder' (kr HO238) (Kd.R_base ho0) hb); have n2_ := Aside0.mk (Kd.R_lower (Kd.R_new' (Kd.R_new' ho0 (Kd.R_lt (kr HO_11))) (Kd.R_lt (kr HO238))) (below_size bz)); have n3_ := Aside0.mk (below_step bz hb); clear HO_11; clear HO238; clear HB; have HO_11 := n0_; have HO238 := n1_; have HO241 := n2_; have HB := n3_; clear n0_ n1_ n2_ n3_; (try clear hb); (try clear hb2); (try clear hk); (try clear hi); (try clear ho0); obtain ⟨Ao37, co37, eo37⟩ := Kd.R_slice HO241.out; subst eo37) | (go_at_call 76; (with_reducible refine (spec_l1All.calls k3 _ _ t239 (-1000000000) 1000000000 t242 _ ?side1 ?side2 A32.out).mono ?_); (case side1 => exact cr HO241); (case side2 => exact (Kd.R_reads' HO241.out).2.1); rintro e w' ⟨rfl, ⟨nd, rfl⟩⟩; (try first | exact ⟨rfl, _, World.drewN_drewN _ _ _⟩ | exact ⟨rfl, _, Eq.trans (World.drewN_drewN _ _ _) (congrArg (World.drewN _) (Nat.add_assoc _ _ _))⟩)))
              repeat (go_quiet (first | (go_at_call 133; (with_reducible refine (spec_sgTrim.calls k3 (fun k_ => some k_ = (.slice Ao33 x11_3.length co33 : Value).ownBlock) _ _ x11_3 t236 _ ?side1 A30.out).mono ?_); (case side1 => exact Kd.R_V (Kd.R_tight rfl (HO_11.out))); rintro e w34 ⟨v237, rfl, ho0, hb⟩; have n0_ := Aside0.mk (Kd.R_elder' (kr HO_11) (Kd.R_base ho0) hb); have n1_ := Aside0.mk (Kd.R_lower (Kd.R_new' (Kd.R_mono (ok' := fun k_ => True) ho0 (fun _ hk_ => trivial)) (Kd.R_lt (kr HO_11))) (below_size bz)); have n2_ := Aside0.mk (below_step bz hb); clear HO_11; clear HB; have HO_11 := n0_; have HO238 := n1_; have HB := n2_; clear n0_ n1_ n2_; (try clear hb); (try clear hb2); (try clear hk); (try clear hi); (try clear ho0); obtain ⟨Ao35, co35, eo35⟩ := Kd.R_slice HO238.out; subst eo35) | (go_at_call 100; (with_reducible refine (spec_sgPart.calls k3 _ _ t236 t239 _ ?side1 ?side2 A31.out).mono ?_); (case side1 => exact cr HO238); (case side2 => exact (Kd.R_reads' HO238.out).2.1); rintro e w36 ⟨v240, rfl, ho0, hb⟩; have n0_ := Aside0.mk (Kd.R_elder' (kr HO_11) (Kd.R_base ho0) hb); have n1_ := Aside0.mk (Kd.R_elder' (kr HO238) (Kd.R_base ho0) hb); have n2_ := Aside0.mk (Kd.R_lower (Kd.R_new' (Kd.R_new' ho0 (Kd.R_lt (kr HO_11))) (Kd.R_lt (kr HO238))) (below_size bz)); have n3_ := Aside0.mk (below_step bz hb); clear HO_11; clear HO238; clear HB; have HO_11 := n0_; have HO238 := n1_; have HO241 := n2_; have HB := n3_; clear n0_ n1_ n2_ n3_; (try clear hb); (try clear hb2); (try clear hk); (try clear hi); (try clear ho0); obtain ⟨Ao37, co37, eo37⟩ := Kd.R_slice HO241.out; subst eo37) | (go_at_call 76; (with_reducible refine (spec_l1All.calls k3 _ _ t239 (-1000000000) 1000000000 t242 _ ?side1 ?side2 A32.out).mono ?_); (case side1 => exact cr HO241); (case side2 => exact (Kd.R_reads' HO241.out).2.1); rintro e w' ⟨rfl, ⟨nd, rfl⟩⟩; (try first | exact ⟨rfl, _, World.drewN_drewN _ _ _⟩ | exact ⟨rfl, _, Eq.trans (World.drewN_drewN _ _ _) (congrArg (World.drewN _) (Nat.add_assoc _ _ _))⟩))); try go_wp2_with (first | (go_at_call 133; (with_reducible refine (spec_sgTrim.calls k3 (fun k_ => some k_ = (.slice Ao33 x11_3.length co33 : Value).ownBlock) _ _ x11_3 t236 _ ?side1 A30.out).mono ?_); (case side1 => exact Kd.R_V (Kd.R_tight rfl (HO_11.out))); rintro e w34 ⟨v237, rfl, ho0, hb⟩; have n0_ := Aside0.mk (Kd.R_elder' (kr HO_11) (Kd.R_base ho0) hb); have n1_ := Aside0.mk (Kd.R_lower (Kd.R_new' (Kd.R_mono (ok' := fun k_ => True) ho0 (fun _ hk_ => trivial)) (Kd.R_lt (kr HO_11))) (below_size bz)); have n2_ := Aside0.mk (below_step bz hb); clear HO_11; clear HB; have HO_11 := n0_; have HO238 := n1_; have HB := n2_; clear n0_ n1_ n2_; (try clear hb); (try clear hb2); (try clear hk); (try clear hi); (try clear ho0); obtain ⟨Ao35, co35, eo35⟩ := Kd.R_slice HO238.out; subst eo35) | (go_at_call 100; (with_reducible refine (spec_sgPart.calls k3 _ _ t236 t239 _ ?side1 ?side2 A31.out).mono ?_); (case side1 => exact cr HO238); (case side2 => exact (Kd.R_reads' HO238.out).2.1); rintro e w36 ⟨v240, rfl, ho0, hb⟩; have n0_ := Aside0.mk (Kd.R_elder' (kr HO_11) (Kd.R_base ho0) hb); have n1_ := Aside0.mk (Kd.R_elder' (kr HO238) (Kd.R_base ho0) hb); have n2_ := Aside0.mk (Kd.R_lower (Kd.R_new' (Kd.R_new' ho0 (Kd.R_lt (kr HO_11))) (Kd.R_lt (kr HO238))) (below_size bz)); have n3_ := Aside0.mk (below_step bz hb); clear HO_11; clear HO238; clear HB; have HO_11 := n0_; have HO238 := n1_; have HO241 := n2_; have HB := n3_; clear n0_ n1_ n2_ n3_; (try clear hb); (try clear hb2); (try clear hk); (try clear hi); (try clear ho0); obtain ⟨Ao37, co37, eo37⟩ := Kd.R_slice HO241.out; subst eo37) | (go_at_call 76; (with_reducible refine (spec_l1All.calls k3 _ _ t239 (-1000000000) 1000000000 t242 _ ?side1 ?side2 A32.out).mono ?_); (case side1 => exact cr HO241); (case side2 => exact (Kd.R_reads' HO241.out).2.1); rintro e w' ⟨rfl, ⟨nd, rfl⟩⟩; (try first | exact ⟨rfl, _, World.drewN_drewN _ _ _⟩ | exact ⟨rfl, _, Eq.trans (World.drewN_drewN _ _ _) (congrArg (World.drewN _) (Nat.add_assoc _ _ _))⟩))))
              go_ret2
              exact ⟨_, by first | rfl | (simp [errW_none, errW_some] <;> rfl) | (simp only [← hji3, ← hji6]; first | rfl | (simp [errW_none, errW_some] <;> rfl)) | (simp [*, errW_none, errW_some] <;> rfl), by (with_reducible repeat (first | apply Kd.R_alloc | apply Kd.R_drewN | apply Kd.R_drew)); exact Kd.R_mono HO241.out (fun _ hk => trivial), bz⟩
    ·rw [if_neg c8] at H
     exact absurd H (by simp)
   ·rw [if_neg c7] at H
    exact absurd H (by simp)
  ·rw [if_neg c5] at H
   exact absurd H (by simp)
 ·rw [if_neg c4] at H
  exact absurd H (by simp)
def spec_sgRemainder.l0 : Nat → List Int → List Int → Option (List Int × Bool)
 | 0, _, _ => none
 | k + 1, x0, x1 => if (x0.length : Int) ≥ (x1.length : Int) then ((spec_sgStep.f k x0 x1).bind fun bt246 => (if bt246.2 = true then (spec_sgRemainder.l0 k bt246.1 x1) else (some (([] : List Int), false)))) else (some (x0, true))
def spec_sgRemainder.f (k : Nat) (l0 : List Int) (l1 : List Int) : Option (List Int × Bool) := (spec_sgPart.f k l0).bind fun t243 => (spec_sgRemainder.l0 k t243 l1)
set_option maxHeartbeats 8000000 in
set_option maxRecDepth 100000 in
theorem spec_sgRemainder.calls (k : Nat) (A0 : Option Addr) (c0 : Nat) (l0 : List Int) (A1 : Option Addr) (c1 : Nat) (l1 : List Int) (r1 : List Int) (r2 : Bool) (w : World) (hr0 : Kd.C (Kd.int .i64) w A0 l0.length l0) (hc0 : l0.length ≤ c0) (hr1 : Kd.C (Kd.int .i64) w A1 l1.length l1) (hc1 : l1.length ≤ c1) (h : spec_sgRemainder.f k l0 l1 = some (r1, r2)) :
 Calls Try.prog 89 #[.slice A0 l0.length c0, .slice A1 l1.length c1] w fun e w' => ∃ v0_ : Value, e = .returned (.tuple #[v0_, .bool r2]) ∧ Kd.R (Kd.int .i64) 3 w' w.heap.size (fun _ => True) v0_ r1 ∧ Below w.heap.size w w' := by
 have HR0 := Aside0.mk hr0
 have HC0 := Aside0.mk hc0
 clear hr0 hc0
 have HR1 := Aside0.mk hr1
 have HC1 := Aside0.mk hc1
 clear hr1 hc1
 have HB := Aside0.mk (Below.refl w.heap.size w)
 have H : ((spec_sgPart.f k l0).bind fun t243 => (spec_sgRemainder.l0 k t243 l1)) = some (r1, r2) := h
 clear h
 obtain ⟨t243, A3, H⟩ := bi H
 have H' := Aside0.mk H
 clear H
 go_enter Try.func89, Try.ntmps89
 go_wp2_with (first | ((with_reducible refine gate_callee (f := 100) rfl ?_); refine goesL_ (some 9) rfl rfl Try.func100 kf rfl #[.slice A0 l0.length c0] rfl sm ?_; (with_reducible refine (spec_sgPart.calls k _ _ l0 t243 _ ?side1 ?side2 A3.out).mono ?_); (case side1 => exact cc HR0); (case side2 => exact HC0.out); rintro e w4 ⟨v244, rfl, ho0, hb⟩; refine ⟨_, rfl, ?_⟩; have n0_ := Aside0.mk (Kd.R_lower ho0 (below_size bz)); have n1_ := Aside0.mk (below_step bz hb); clear HB; have HO245 := n0_; have HB := n1_; clear n0_ n1_; (try clear hb); (try clear hb2); (try clear hk); (try clear hi); (try clear ho0)))
 go_loopg [0] k (fun kq v0 w' => ∃ (x0_1 : List Int), Aside0 (spec_sgRemainder.l0 kq x0_1 l1 = some (r1, r2)) ∧ Aside0 (kq ≤ k) ∧ Aside0 (Kd.R (Kd.int .i64) 3 w' w.heap.size (fun _ => True) v0 x0_1) ∧ Aside0 (Below w.heap.size w w'))
 case atStart => exact ⟨(t243), H', ⟨Nat.le_refl _⟩, ⟨kr HO245⟩, ⟨bz⟩⟩
 case round =>
  clear H'
  try clear c1; try clear p2
  obtain ⟨x0_1, HA, HK1, HO_0, HB⟩ := hrel
  cases gk with
  | zero => exact absurd HA.out (by simp [spec_sgRemainder.l0])
  | succ k1 =>
   have H := HA.out
   clear HA
   simp only [spec_sgRemainder.l0] at H
   by_cases c5 : (x0_1.length : Int) ≥ (l1.length : Int)
   ·rw [if_pos c5] at H
    have c5b0 : decide ((l1.length : Int) ≤ (x0_1.length : Int)) = true := decide_eq_true c5
    have c5b1 : decide (l1.length ≤ x0_1.length) = true := decide_eq_true (Int.ofNat_le.mp c5)
    clear c5
    obtain ⟨⟨t246, t247⟩, A6, H⟩ := bi H
    try dsimp only at H
    by_cases c7 : t247 = true
    ·subst c7
     rw [if_pos rfl] at H
     have H' := Aside0.mk H
     clear H
     obtain ⟨Ao8, co8, eo8⟩ := Kd.R_slice HO_0.out
     subst eo8
     go_wp2_with (first | ((with_reducible refine gate_callee (f := 116) rfl ?_); refine goesL_ (some 18) rfl rfl Try.func116 kf rfl #[.slice Ao8 x0_1.length co8, .slice A1 l1.length c1] rfl sm ?_; (with_reducible refine (spec_sgStep.calls k1 _ _ x0_1 _ _ l1 t246 true _ ?side1 ?side2 ?side3 ?side4 A6.out).mono ?_); (case side1 => exact cr HO_0); (case side2 => exact (Kd.R_reads' HO_0.out).2.1); (case side3 => exact cb HR1); (case side4 => exact HC1.out); rintro e w9 ⟨v248, rfl, ho0, hb⟩; refine ⟨_, rfl, ?_⟩; have n0_ := Aside0.mk (Kd.R_elder' (kr HO_0) (Kd.R_base ho0) hb); have n1_ := Aside0.mk (Kd.R_lower (Kd.R_new' ho0 (Kd.R_lt (kr HO_0))) (below_size bz)); have n2_ := Aside0.mk (below_step bz hb); clear HO_0; clear HB; have HO_0 := n0_; have HO249 := n1_; have HB := n2_; clear n0_ n1_ n2_; (try clear hb); (try clear hb2); (try clear hk); (try clear hi); (try clear ho0)))
     go_roundg k1
     case measure => have := HK1.out; omega
     case rel => exact ⟨(t246), H', ⟨by have := HK1.out; omega⟩, ⟨by (with_reducible repeat (first | apply Kd.R_alloc | apply Kd.R_drewN | apply Kd.R_drew)); exact Kd.R_mono HO249.out (fun _ hk => trivial)⟩, ⟨bz⟩⟩
    ·replace c7 := Bool.eq_false_iff.mpr c7
     subst c7
     rw [if_neg (show ¬ (false = true) by decide)] at H
     simp only [Option.some.injEq, Prod.mk.injEq] at H
     obtain ⟨rfl, rfl⟩ := H
     obtain ⟨Ao10, co10, eo10⟩ := Kd.R_slice HO_0.out
     subst eo10
     go_wp2_with (first | ((with_reducible refine gate_callee (f := 116) rfl ?_); refine goesL_ (some 18) rfl rfl Try.func116 kf rfl #[.slice Ao10 x0_1.length co10, .slice A1 l1.length c1] rfl sm ?_; (with_reducible refine (spec_sgStep.calls k1 _ _ x0_1 _ _ l1 t246 false _ ?side1 ?side2 ?side3 ?side4 A6.out).mono ?_); (case side1 => exact cr HO_0); (case side2 => exact (Kd.R_reads' HO_0.out).2.1); (case side3 => exact cb HR1); (case side4 => exact HC1.out); rintro e w11 ⟨v248, rfl, ho0, hb⟩; refine ⟨_, rfl, ?_⟩; have n0_ := Aside0.mk (Kd.R_elder' (kr HO_0) (Kd.R_base ho0) hb); have n1_ := Aside0.mk (Kd.R_lower (Kd.R_new' ho0 (Kd.R_lt (kr HO_0))) (below_size bz)); have n2_ := Aside0.mk (below_step bz hb); clear HO_0; clear HB; have HO_0 := n0_; have HO249 := n1_; have HB := n2_; clear n0_ n1_ n2_; (try clear hb); (try clear hb2); (try clear hk); (try clear hi); (try clear ho0)))
     go_ret2
     exact ⟨_, er, by first | exact Kd.R_nil _ _ _ _ _ | exact Kd.N_nil _ _ _ _ _ | exact Kd.V_nil _ _ _ _ _ | exact Kd.Q_nil _ _ _ _ _ | exact Kd.S_nil _ _ _ _ _, bz⟩
   ·rw [if_neg c5] at H
    have c5b0 : decide ((l1.length : Int) ≤ (x0_1.length : Int)) = false := decide_eq_false c5
    have c5b1 : decide (l1.length ≤ x0_1.length) = false := decide_eq_false (fun h => c5 (Int.ofNat_le.mpr h))
    clear c5
    simp only [Option.some.injEq, Prod.mk.injEq] at H
    obtain ⟨rfl, rfl⟩ := H
    obtain ⟨Ao12, co12, eo12⟩ := Kd.R_slice HO_0.out
    subst eo12
    go_wp2
    go_ret2
    exact ⟨_, er, by (with_reducible repeat (first | apply Kd.R_alloc | apply Kd.R_drewN | apply Kd.R_drew)); exact HO_0.out, bz⟩
mutual
def spec_sgUp.j0 : Nat → List Int → Bool → Option (List Int)
 | 0, _, _ => none
 | k + 1, x0, x17 => if x17 = true then (spec_sgUp.l0 k x0 (x0.length : Int) 0) else (some x0)
def spec_sgUp.l0 : Nat → List Int → Int → Int → Option (List Int)
 | 0, _, _, _ => none
 | k + 1, x0, x19, x20 => if x20 < x19 then (if 0 ≤ x20 then (if x20 < (x0.length : Int) then (spec_sgUp.l0 k (x0.set (x20 : Int).toNat (wrap64 (-(rd x0 x20)))) x19 (wrap64 (x20 + 1))) else (none)) else (none)) else (some x0)
end
def spec_sgUp.f (k : Nat) (l0 : List Int) : Option (List Int) := (spec_sgPart.f k l0).bind fun t250 => (if (t250.length : Int) > 0 then (if 0 ≤ (wrap64 ((t250.length : Int) - 1)) then (if (wrap64 ((t250.length : Int) - 1)) < (t250.length : Int) then (spec_sgUp.j0 k t250 (decide ((rd t250 (wrap64 ((t250.length : Int) - 1))) < 0))) else (none)) else (none)) else (spec_sgUp.j0 k t250 false))
set_option maxHeartbeats 8000000 in
set_option maxRecDepth 100000 in
theorem spec_sgUp.calls (k : Nat) (A0 : Option Addr) (c0 : Nat) (l0 : List Int) (r : List Int) (w : World) (hr0 : Kd.C (Kd.int .i64) w A0 l0.length l0) (hc0 : l0.length ≤ c0) (h : spec_sgUp.f k l0 = some r) :
 Calls Try.prog 90 #[.slice A0 l0.length c0] w fun e w' => ∃ v0_ : Value, e = .returned (v0_) ∧ Kd.R (Kd.int .i64) 3 w' w.heap.size (fun _ => True) v0_ r ∧ Below w.heap.size w w' := by
 have HR0 := Aside0.mk hr0
 have HC0 := Aside0.mk hc0
 clear hr0 hc0
 have HB := Aside0.mk (Below.refl w.heap.size w)
 have H : ((spec_sgPart.f k l0).bind fun t250 => (if (t250.length : Int) > 0 then (if 0 ≤ (wrap64 ((t250.length : Int) - 1)) then (if (wrap64 ((t250.length : Int) - 1)) < (t250.length : Int) then (spec_sgUp.j0 k t250 (decide ((rd t250 (wrap64 ((t250.length : Int) - 1))) < 0))) else (none)) else (none)) else (spec_sgUp.j0 k t250 false))) = some r := h
 clear h
 obtain ⟨t250, A2, H⟩ := bi H
 have HC3 := Aside0.mk H
 clear H
 go_enter Try.func90, Try.ntmps90
 go_upto_region 2 with (first | ((with_reducible refine gate_callee (f := 100) rfl ?_); refine goesL_ (some 5) rfl rfl Try.func100 kf rfl #[.slice A0 l0.length c0] rfl sm ?_; (with_reducible refine (spec_sgPart.calls k _ _ l0 t250 _ ?side1 ?side2 A2.out).mono ?_); (case side1 => exact cc HR0); (case side2 => exact HC0.out); rintro e w4 ⟨v251, rfl, ho0, hb⟩; refine ⟨_, rfl, ?_⟩; have n0_ := Aside0.mk (Kd.R_lower ho0 (below_size bz)); have n1_ := Aside0.mk (below_step bz hb); clear HB; have HO252 := n0_; have HB := n1_; clear n0_ n1_; (try clear hb); (try clear hb2); (try clear hk); (try clear hi); (try clear ho0)))
 (try simp only [Act.put, List.setIfInBounds_toArray, List.set_cons_zero, List.set_cons_succ])
 go_cut [17] (fun v17 wc => ∃ (kq : Nat) (x17_2 : Bool), v17 = .bool x17_2 ∧ Aside0 (spec_sgUp.j0 kq t250 x17_2 = some r) ∧ Aside0 (kq ≤ k) ∧ Aside0 (Kd.R (Kd.int .i64) 3 wc w.heap.size (fun _ => True) v251 t250) ∧ Aside0 (Below w.heap.size w wc))
 case first =>
  have H := HC3.out
  clear HC3
  by_cases c5 : (t250.length : Int) > 0
  ·rw [if_pos c5] at H
   have c5b0 : decide (0 < (t250.length : Int)) = true := decide_eq_true c5
   have c5b1 : decide (0 < t250.length) = true := decide_eq_true (by omega)
   clear c5
   (first | rw [c5b0] | (simp only [i64_w, i32_w]; rw [c5b0]) | skip)
   obtain ⟨ji6, hji6⟩ : ∃ j_ : Int, (wrap64 ((t250.length : Int) - 1)) = j_ := ⟨_, rfl⟩
   first | rw [hji6] at H | simp only [hji6] at H
   have hji6w : (IntKind.i64.wrap ((t250.length : Int) - 1)) = ji6 := (i64_w _).trans hji6
   by_cases c7 : 0 ≤ (ji6)
   ·rw [if_pos c7] at H
    have c7b0 : decide (0 ≤ (ji6)) = true := decide_eq_true c7
    clear c7
    by_cases c8 : (ji6) < (t250.length : Int)
    ·rw [if_pos c8] at H
     have c8b0 : decide ((ji6) < (t250.length : Int)) = true := decide_eq_true c8
     clear c8
     have H' := Aside0.mk H
     clear H
     obtain ⟨Ao9, co9, eo9⟩ := Kd.R_slice HO252.out
     subst eo9
     have p253 : 0 ≤ ((ji6) : Int) := of_decide_eq_true am
     have q253 : (ji6) < (t250.length : Int) := of_decide_eq_true am
     obtain ⟨ad253, e253, hx253_0⟩ := Kd.at_int (Kd.R_reads' HO252.out).2.2 (ji6) p253 q253
     cases e253
     replace p253 := eq_true p253
     replace q253 := eq_true q253
     go_wp2
     go_meet
     case rel => exact ⟨_, (decide ((rd t250 (ji6)) < 0)), (by first | rfl | (simp; done) | (simp only [← hji6] <;> (first | rfl | simp)) | (simp [*]; done)), H', ⟨by first | omega | exact Nat.le_refl _⟩, ⟨kr HO252⟩, ⟨bz⟩⟩
    ·rw [if_neg c8] at H
     exact absurd H (by simp)
   ·rw [if_neg c7] at H
    exact absurd H (by simp)
  ·rw [if_neg c5] at H
   have c5b0 : decide (0 < (t250.length : Int)) = false := decide_eq_false c5
   have c5b1 : decide (0 < t250.length) = false := decide_eq_false (by omega)
   clear c5
   (first | rw [c5b0] | (simp only [i64_w, i32_w]; rw [c5b0]) | skip)
   have H' := Aside0.mk H
   clear H
   obtain ⟨Ao10, co10, eo10⟩ := Kd.R_slice HO252.out
   subst eo10
   go_wp2
   go_meet
   case rel => exact ⟨_, (false), sr, H', ⟨by first | omega | exact Nat.le_refl _⟩, ⟨kr HO252⟩, ⟨bz⟩⟩
 case rest =>
  clear HC3
  try clear c1; try clear p2; try clear q2; try clear hx2; try clear c5; try clear c5b0; try clear c5b1; try clear p6; try clear c7; try clear c7b0; try clear c8; try clear c8b0; try clear c9; try clear c10; try clear hx253_0; try clear p253; try clear q253
  obtain ⟨kq, x17_2, rfl, HA, HJ2, HO_0, HB⟩ := hcut
  cases kq with
  | zero => exact absurd HA.out (by simp [spec_sgUp.j0])
  | succ kj2 =>
   have H := HA.out
   clear HA
   simp only [spec_sgUp.j0] at H
   by_cases c11 : x17_2 = true
   ·subst c11
    rw [if_pos rfl] at H
    have H' := Aside0.mk H
    clear H
    obtain ⟨Ao12, co12, eo12⟩ := Kd.R_slice HO_0.out
    subst eo12
    go_wp2
    go_loopg [20] kj2 (fun kq v20 w' => ∃ (x0_2 : List Int) (x20_2 : Int), v20 = .int .i64 x20_2 ∧ Aside0 (spec_sgUp.l0 kq x0_2 (t250.length : Int) x20_2 = some r) ∧ Aside0 (kq ≤ kj2) ∧ Aside0 (Kd.R (Kd.int .i64) 3 w' w.heap.size (fun _ => True) (.slice Ao12 t250.length co12) x0_2) ∧ Aside0 (Below w.heap.size w w'))
    case atStart => exact ⟨(t250), (0), sr, H', ⟨Nat.le_refl _⟩, ⟨kr HO_0⟩, ⟨bz⟩⟩
    case round =>
     clear H'
     try clear c1; try clear p2; try clear q2; try clear hx2; try clear c5; try clear c5b0; try clear c5b1; try clear p6; try clear c7; try clear c7b0; try clear c8; try clear c8b0; try clear c9; try clear c10; try clear c11; try clear hx253_0; try clear p2; try clear p253; try clear p6; try clear q2; try clear q253
     obtain ⟨x0_2, x20_2, rfl, HA, HK2, HO_0, HB⟩ := hrel
     have hl0_2 := (Kd.R_reads' HO_0.out).1
     rw [hl0_2] at HO_0
     (try simp only [hl0_2])
     cases gk with
     | zero => exact absurd HA.out (by simp [spec_sgUp.l0])
     | succ k2 =>
      have H := HA.out
      clear HA
      simp only [spec_sgUp.l0] at H
      by_cases c13 : x20_2 < (t250.length : Int)
      ·rw [if_pos c13] at H
       have c13b0 : decide (x20_2 < (t250.length : Int)) = true := decide_eq_true c13
       (try (have c13b0l : _ := c13b0; rw [hl0_2] at c13b0l))
       clear c13
       by_cases c14 : 0 ≤ x20_2
       ·rw [if_pos c14] at H
        have c14b0 : decide (0 ≤ x20_2) = true := decide_eq_true c14
        clear c14
        by_cases c15 : x20_2 < (x0_2.length : Int)
        ·rw [if_pos c15] at H
         have c15b0 : decide (x20_2 < (x0_2.length : Int)) = true := decide_eq_true c15
         (try (have c15b0l : _ := c15b0; rw [hl0_2] at c15b0l))
         clear c15
         obtain ⟨y255, hy255⟩ : ∃ y_ : List Int, y_ = (x0_2.set (x20_2 : Int).toNat (wrap64 (-(rd x0_2 x20_2)))) := ⟨_, rfl⟩
         replace H : (spec_sgUp.l0 k2 y255 (t250.length : Int) (wrap64 (x20_2 + 1))) = some r := by first | (rw [hy255]; with_reducible exact H) | (have H2_ := (Option.bind_some _ _).symm.trans H; rw [hy255]; with_reducible exact H2_) | (have H2_ := (Option.bind_some _ _).symm.trans H; with_reducible exact H2_) | with_reducible exact H | (rw [hy255]; exact H) | exact H
         have Ny255 := Aside0.mk hy255
         clear hy255
         have H' := Aside0.mk H
         clear H
         have p254 : 0 ≤ (x20_2 : Int) := of_decide_eq_true am
         have q254 : x20_2 < (x0_2.length : Int) := of_decide_eq_true am
         obtain ⟨ad254, e254, hx254_0⟩ := Kd.at_int (Kd.R_reads' HO_0.out).2.2 x20_2 p254 q254
         cases e254
         replace p254 := eq_true p254
         replace q254 := eq_true q254
         have p16 : 0 ≤ (x20_2 : Int) := of_decide_eq_true am
         have q16 : (x20_2 : Int) < ((x0_2.length : Int) : Int) := of_decide_eq_true am
         obtain ⟨go16, co16, eo16, gb16, gl16, cl16, HG16⟩ := Kd.R_form HO_0.out (by omega)
         (first | cases eo16 | (injection eo16 with ea_ en_ ec_; (first | subst ea_ | (injection ea_ with ea_; subst ea_)); subst ec_; clear en_))
         have GB16 := Aside0.mk gb16
         have GG16 := Aside0.mk HG16
         clear gb16 gl16 HG16
         (first | simp only [add_plain] at hx254_0 | skip)
         obtain ⟨hx16_0, hf16_0⟩ := Kd.R_celln 0 HO_0.out (x20_2 : Int) p16 q16
         replace p16 := eq_true p16
         replace q16 := eq_true q16
         have HP17 := Kd.R_putg HO_0.out (x20_2 : Int) (wrap64 (-(rd x0_2 x20_2)))
         go_wp2_with (first | ((with_reducible refine gate_store (t := 3) (p := 30) rfl ?_); refine store_event (t := 3) (p := 30) (v := ?vo_w18) (w1 := (wr.setCell ⟨go16, (x20_2 : Int).toNat, none⟩ (.int .i64 (wrap64 (-(rd x0_2 x20_2)))))) ?hg ?ho ?hn ?hr ?_; (case ho => rfl); (case hg => rfl); (case hn => rfl); (case hr => first | (go_simp; done) | (go_simp; rfl)); intro w18 hw; have hg : wr.grownBy w18 (some go16) := (by rw [hw]; exact HP17.2); have hp_ : Kd.R (Kd.int .i64) 3 w18 w.heap.size (fun _ => True) (.slice (some ⟨go16, 0, none⟩) x0_2.length co12) y255 := (by rw [hw, Ny255.out]; exact HP17.1); clear HP17; have n0_ := Aside0.mk (hp_); have n1_ := Aside0.mk ((by rw [hw]; exact below_set (HB.out) GB16.out : Below w.heap.size w w18)); clear HO_0; clear HB; have HO_0 := n0_; have HB := n1_; clear n0_ n1_; clear hg hw hp_))
         (try simp only [← hl0_2])
         (try rw [← add_plain go16 (((ji6) : Int).toNat)])
         go_roundg k2
         case measure => have := HJ2.out; have := HK2.out; omega
         case rel => exact ⟨(y255), (wrap64 (x20_2 + 1)), sr, H', ⟨by have := HJ2.out; have := HK2.out; omega⟩, ⟨by (try simp only [hl0_2]); (with_reducible repeat (first | apply Kd.R_alloc | apply Kd.R_drewN | apply Kd.R_drew)); exact HO_0.out⟩, ⟨bz⟩⟩
        ·rw [if_neg c15] at H
         exact absurd H (by simp)
       ·rw [if_neg c14] at H
        exact absurd H (by simp)
      ·rw [if_neg c13] at H
       have c13b0 : decide (x20_2 < (t250.length : Int)) = false := decide_eq_false c13
       (try (have c13b0l : _ := c13b0; rw [hl0_2] at c13b0l))
       clear c13
       obtain rfl := Option.some.inj H
       go_wp2
       go_ret
       exact ⟨_, er, by (with_reducible repeat (first | apply Kd.R_alloc | apply Kd.R_drewN | apply Kd.R_drew)); exact HO_0.out, bz⟩
   ·replace c11 := Bool.eq_false_iff.mpr c11
    subst c11
    rw [if_neg (show ¬ (false = true) by decide)] at H
    obtain rfl := Option.some.inj H
    go_wp2
    go_ret
    exact ⟨_, er, by (with_reducible repeat (first | apply Kd.R_alloc | apply Kd.R_drewN | apply Kd.R_drew)); exact HO_0.out, bz⟩
def spec_sgCommon.l0 : Nat → List Int → List Int → Option (List Int × Bool)
 | 0, _, _ => none
 | k + 1, x0, x1 => if (x1.length : Int) > 0 then ((spec_sgRemainder.f k x0 x1).bind fun bt256 => (if bt256.2 = true then (spec_sgCommon.l0 k x1 bt256.1) else (some (([] : List Int), false)))) else ((spec_sgUp.f k x0).bind fun t260 => (some (t260, true)))
def spec_sgCommon.f (k : Nat) (l0 : List Int) (l1 : List Int) : Option (List Int × Bool) := spec_sgCommon.l0 k l0 l1
set_option maxHeartbeats 8000000 in
set_option maxRecDepth 100000 in
theorem spec_sgCommon.calls (k : Nat) (P0_ : Nat → Prop) (A0 : Option Addr) (c0 : Nat) (l0 : List Int) (P1_ : Nat → Prop) (A1 : Option Addr) (c1 : Nat) (l1 : List Int) (r1 : List Int) (r2 : Bool) (w : World) (hs0 : Kd.V (Kd.int .i64) 3 w w.heap.size (fun k_ => P0_ k_) (.slice A0 l0.length c0) l0) (hs1 : Kd.V (Kd.int .i64) 3 w w.heap.size (fun k_ => P1_ k_) (.slice A1 l1.length c1) l1) (h : spec_sgCommon.f k l0 l1 = some (r1, r2)) :
 Calls Try.prog 52 #[.slice A0 l0.length c0, .slice A1 l1.length c1] w fun e w' => ∃ v0_ : Value, e = .returned (.tuple #[v0_, .bool r2]) ∧ Kd.R (Kd.int .i64) 3 w' w.heap.size (fun k_ => (w.heap.size ≤ k_)) v0_ r1 ∧ Below w.heap.size w w' := by
 have HO0 := Aside0.mk (show Kd.V (Kd.int .i64) 3 w w.heap.size (fun k_ => ((P0_ k_ ∨ P1_ k_) ∨ w.heap.size ≤ k_)) (.slice A0 l0.length c0) l0 from Kd.V_mono hs0 (fun k_ hk => .inl (.inl hk)))
 have HO1 := Aside0.mk (show Kd.V (Kd.int .i64) 3 w w.heap.size (fun k_ => ((P0_ k_ ∨ P1_ k_) ∨ w.heap.size ≤ k_)) (.slice A1 l1.length c1) l1 from Kd.V_mono hs1 (fun k_ hk => .inl (.inr hk)))
 have HB := Aside0.mk (Below.refl w.heap.size w)
 have H : (spec_sgCommon.l0 k l0 l1) = some (r1, r2) := h
 clear h
 have H' := Aside0.mk H
 clear H
 go_enter Try.func52, Try.ntmps52
 go_wp2
 go_loopg [0, 1] k (fun kq v0 v1 w' => ∃ (x0_1 : List Int) (x1_1 : List Int), Aside0 (spec_sgCommon.l0 kq x0_1 x1_1 = some (r1, r2)) ∧ Aside0 (kq ≤ k) ∧ Aside0 (Kd.V (Kd.int .i64) 3 w' w.heap.size (fun k_ => ((P0_ k_ ∨ P1_ k_) ∨ w.heap.size ≤ k_)) v0 x0_1) ∧ Aside0 (Kd.V (Kd.int .i64) 3 w' w.heap.size (fun k_ => ((P0_ k_ ∨ P1_ k_) ∨ w.heap.size ≤ k_)) v1 x1_1) ∧ Aside0 (Below w.heap.size w w'))
 case atStart => exact ⟨(l0), (l1), H', ⟨Nat.le_refl _⟩, ⟨kv HO0⟩, ⟨kv HO1⟩, ⟨bz⟩⟩
 case round =>
  clear H'
  try clear c1; try clear p2
  obtain ⟨x0_1, x1_1, HA, HK1, HO_0, HO_1, HB⟩ := hrel
  cases gk with
  | zero => exact absurd HA.out (by simp [spec_sgCommon.l0])
  | succ k1 =>
   have H := HA.out
   clear HA
   simp only [spec_sgCommon.l0] at H
   by_cases c3 : (x1_1.length : Int) > 0
   ·rw [if_pos c3] at H
    have c3b0 : decide (0 < (x1_1.length : Int)) = true := decide_eq_true c3
    have c3b1 : decide (0 < x1_1.length) = true := decide_eq_true (by omega)
    clear c3
    obtain ⟨⟨t256, t257⟩, A4, H⟩ := bi H
    try dsimp only at H
    by_cases c5 : t257 = true
    ·subst c5
     rw [if_pos rfl] at H
     have H' := Aside0.mk H
     clear H
     obtain ⟨Ao6, co6, eo6⟩ := Kd.V_slice HO_1.out
     subst eo6
     obtain ⟨Ao7, co7, eo7⟩ := Kd.V_slice HO_0.out
     subst eo7
     go_wp2_with (first | ((with_reducible refine gate_callee (f := 89) rfl ?_); refine goesL_ (some 14) rfl rfl Try.func89 kf rfl #[.slice Ao7 x0_1.length co7, .slice Ao6 x1_1.length co6] rfl sm ?_; (with_reducible refine (spec_sgRemainder.calls k1 _ _ x0_1 _ _ x1_1 t256 true _ ?side1 ?side2 ?side3 ?side4 A4.out).mono ?_); (case side1 => repeat (first | exact (Kd.V_reads' HO_0.out).2.2 | (with_reducible refine Kd.C_alloc ?_ _) | (with_reducible refine Kd.C_drewN ?_ _) | (with_reducible refine Kd.C_drew ?_))); (case side2 => exact (Kd.V_reads' HO_0.out).2.1); (case side3 => repeat (first | exact (Kd.V_reads' HO_1.out).2.2 | (with_reducible refine Kd.C_alloc ?_ _) | (with_reducible refine Kd.C_drewN ?_ _) | (with_reducible refine Kd.C_drew ?_))); (case side4 => exact (Kd.V_reads' HO_1.out).2.1); rintro e w8 ⟨v258, rfl, ho0, hb⟩; refine ⟨_, rfl, ?_⟩; have n0_ := Aside0.mk (Kd.V_elder' (kv HO_0) (Kd.R_base ho0) hb); have n1_ := Aside0.mk (Kd.V_elder' (kv HO_1) (Kd.R_base ho0) hb); have n2_ := Aside0.mk (Kd.R_lower (Kd.R_newM (M := fun k_ => (w.heap.size ≤ k_)) ho0 (below_size bz) (fun k_ h_ => h_)) (below_size bz)); have n3_ := Aside0.mk (below_step bz hb); clear HO_0; clear HO_1; clear HB; have HO_0 := n0_; have HO_1 := n1_; have HO259 := n2_; have HB := n3_; clear n0_ n1_ n2_ n3_; (try clear hb); (try clear hb2); (try clear hk); (try clear hi); (try clear ho0)))
     go_roundg k1
     case measure => have := HK1.out; omega
     case rel => exact ⟨(x1_1), (t256), H', ⟨by have := HK1.out; omega⟩, ⟨by (with_reducible repeat (first | apply Kd.V_alloc | apply Kd.V_drewN | apply Kd.V_drew)); exact Kd.V_mono HO_1.out (fun _ hk => hk.1)⟩, ⟨Kd.V_mono (Kd.R_V (by (with_reducible repeat (first | apply Kd.R_alloc | apply Kd.R_drewN | apply Kd.R_drew)); exact Kd.R_mono HO259.out (fun _ hk => hk.1))) (fun k_ hk => by first | exact ⟨(.inr (hk.1)), hk.2⟩ | exact (.inr (hk)))⟩, ⟨bz⟩⟩
    ·replace c5 := Bool.eq_false_iff.mpr c5
     subst c5
     rw [if_neg (show ¬ (false = true) by decide)] at H
     simp only [Option.some.injEq, Prod.mk.injEq] at H
     obtain ⟨rfl, rfl⟩ := H
     obtain ⟨Ao9, co9, eo9⟩ := Kd.V_slice HO_1.out
     subst eo9
     obtain ⟨Ao10, co10, eo10⟩ := Kd.V_slice HO_0.out
     subst eo10
     go_wp2_with (first | ((with_reducible refine gate_callee (f := 89) rfl ?_); refine goesL_ (some 14) rfl rfl Try.func89 kf rfl #[.slice Ao10 x0_1.length co10, .slice Ao9 x1_1.length co9] rfl sm ?_; (with_reducible refine (spec_sgRemainder.calls k1 _ _ x0_1 _ _ x1_1 t256 false _ ?side1 ?side2 ?side3 ?side4 A4.out).mono ?_); (case side1 => repeat (first | exact (Kd.V_reads' HO_0.out).2.2 | (with_reducible refine Kd.C_alloc ?_ _) | (with_reducible refine Kd.C_drewN ?_ _) | (with_reducible refine Kd.C_drew ?_))); (case side2 => exact (Kd.V_reads' HO_0.out).2.1); (case side3 => repeat (first | exact (Kd.V_reads' HO_1.out).2.2 | (with_reducible refine Kd.C_alloc ?_ _) | (with_reducible refine Kd.C_drewN ?_ _) | (with_reducible refine Kd.C_drew ?_))); (case side4 => exact (Kd.V_reads' HO_1.out).2.1); rintro e w11 ⟨v258, rfl, ho0, hb⟩; refine ⟨_, rfl, ?_⟩; have n0_ := Aside0.mk (Kd.V_elder' (kv HO_0) (Kd.R_base ho0) hb); have n1_ := Aside0.mk (Kd.V_elder' (kv HO_1) (Kd.R_base ho0) hb); have n2_ := Aside0.mk (Kd.R_lower (Kd.R_newM (M := fun k_ => (w.heap.size ≤ k_)) ho0 (below_size bz) (fun k_ h_ => h_)) (below_size bz)); have n3_ := Aside0.mk (below_step bz hb); clear HO_0; clear HO_1; clear HB; have HO_0 := n0_; have HO_1 := n1_; have HO259 := n2_; have HB := n3_; clear n0_ n1_ n2_ n3_; (try clear hb); (try clear hb2); (try clear hk); (try clear hi); (try clear ho0)))
     go_ret2
     exact ⟨_, er, by first | exact Kd.R_nil _ _ _ _ _ | exact Kd.N_nil _ _ _ _ _ | exact Kd.V_nil _ _ _ _ _ | exact Kd.Q_nil _ _ _ _ _ | exact Kd.S_nil _ _ _ _ _, bz⟩
   ·rw [if_neg c3] at H
    have c3b0 : decide (0 < (x1_1.length : Int)) = false := decide_eq_false c3
    have c3b1 : decide (0 < x1_1.length) = false := decide_eq_false (by omega)
    clear c3
    obtain ⟨t260, A12, H⟩ := bi H
    simp only [Option.some.injEq, Prod.mk.injEq] at H
    obtain ⟨rfl, rfl⟩ := H
    obtain ⟨Ao13, co13, eo13⟩ := Kd.V_slice HO_1.out
    subst eo13
    obtain ⟨Ao14, co14, eo14⟩ := Kd.V_slice HO_0.out
    subst eo14
    go_wp2_with (first | ((with_reducible refine gate_callee (f := 90) rfl ?_); refine goesL_ (some 22) rfl rfl Try.func90 kf rfl #[.slice Ao14 x0_1.length co14] rfl sm ?_; (with_reducible refine (spec_sgUp.calls k1 _ _ x0_1 t260 _ ?side1 ?side2 A12.out).mono ?_); (case side1 => repeat (first | exact (Kd.V_reads' HO_0.out).2.2 | (with_reducible refine Kd.C_alloc ?_ _) | (with_reducible refine Kd.C_drewN ?_ _) | (with_reducible refine Kd.C_drew ?_))); (case side2 => exact (Kd.V_reads' HO_0.out).2.1); rintro e w15 ⟨v261, rfl, ho0, hb⟩; refine ⟨_, rfl, ?_⟩; have n0_ := Aside0.mk (Kd.V_elder' (kv HO_0) (Kd.R_base ho0) hb); have n1_ := Aside0.mk (Kd.V_elder' (kv HO_1) (Kd.R_base ho0) hb); have n2_ := Aside0.mk (Kd.R_lower (Kd.R_newM (M := fun k_ => (w.heap.size ≤ k_)) ho0 (below_size bz) (fun k_ h_ => h_)) (below_size bz)); have n3_ := Aside0.mk (below_step bz hb); clear HO_0; clear HO_1; clear HB; have HO_0 := n0_; have HO_1 := n1_; have HO262 := n2_; have HB := n3_; clear n0_ n1_ n2_ n3_; (try clear hb); (try clear hb2); (try clear hk); (try clear hi); (try clear ho0)))
    go_ret2
    exact ⟨_, er, by (with_reducible repeat (first | apply Kd.R_alloc | apply Kd.R_drewN | apply Kd.R_drew)); exact Kd.R_mono HO262.out (fun _ hk => hk.1), bz⟩
def spec_sgDerive.l0 : Nat → List Int → List Int → Int → Int → Option (List Int)
 | 0, _, _, _, _ => none
 | k + 1, x3, x6, x7, x8 => if x8 < x7 then (if 0 ≤ x8 then (if x8 < (x6.length : Int) then (if x8 > 0 then (if x3.length < 17592186044416 then (spec_sgDerive.l0 k (x3 ++ [wrap64 (x8 * (rd x6 x8))]) x6 x7 (wrap64 (x8 + 1))) else (none)) else (spec_sgDerive.l0 k x3 x6 x7 (wrap64 (x8 + 1)))) else (none)) else (none)) else (some x3)
def spec_sgDerive.f (k : Nat) (l0 : List Int) : Option (List Int) := spec_sgDerive.l0 k ([] : List Int) l0 (l0.length : Int) 0
set_option maxHeartbeats 8000000 in
set_option maxRecDepth 100000 in
theorem spec_sgDerive.calls (k : Nat) (A0 : Option Addr) (c0 : Nat) (l0 : List Int) (r : List Int) (w : World) (hr0 : Kd.C (Kd.int .i64) w A0 l0.length l0) (hc0 : l0.length ≤ c0) (h : spec_sgDerive.f k l0 = some r) :
 Calls Try.prog 94 #[.slice A0 l0.length c0] w fun e w' => ∃ v0_ : Value, e = .returned (v0_) ∧ Kd.R (Kd.int .i64) 3 w' w.heap.size (fun _ => True) v0_ r ∧ Below w.heap.size w w' := by
 have HR0 := Aside0.mk hr0
 have HC0 := Aside0.mk hc0
 clear hr0 hc0
 have HB := Aside0.mk (Below.refl w.heap.size w)
 have H : (spec_sgDerive.l0 k ([] : List Int) l0 (l0.length : Int) 0) = some r := h
 clear h
 have H' := Aside0.mk H
 clear H
 go_enter Try.func94, Try.ntmps94
 go_wp2
 go_loopg [3, 8] k (fun kq v3 v8 w' => ∃ (x3_1 : List Int) (x8_1 : Int), v8 = .int .i64 x8_1 ∧ Aside0 (spec_sgDerive.l0 kq x3_1 l0 (l0.length : Int) x8_1 = some r) ∧ Aside0 (kq ≤ k) ∧ Aside0 (Kd.R (Kd.int .i64) 3 w' w.heap.size (fun _ => True) v3 x3_1) ∧ Aside0 (Below w.heap.size w w'))
 case atStart => exact ⟨(([] : List Int)), (0), sr, H', ⟨Nat.le_refl _⟩, ⟨by first | exact Kd.R_nil _ _ _ _ _ | exact Kd.N_nil _ _ _ _ _ | exact Kd.V_nil _ _ _ _ _ | exact Kd.Q_nil _ _ _ _ _ | exact Kd.S_nil _ _ _ _ _⟩, ⟨bz⟩⟩
 case round =>
  clear H'
  obtain ⟨x3_1, x8_1, rfl, HA, HK1, HO_3, HB⟩ := hrel
  cases gk with
  | zero => exact absurd HA.out (by simp [spec_sgDerive.l0])
  | succ k1 =>
   have H := HA.out
   clear HA
   simp only [spec_sgDerive.l0] at H
   by_cases c2 : x8_1 < (l0.length : Int)
   ·rw [if_pos c2] at H
    have c2b0 : decide (x8_1 < (l0.length : Int)) = true := decide_eq_true c2
    clear c2
    by_cases c3 : 0 ≤ x8_1
    ·rw [if_pos c3] at H
     have c3b0 : decide (0 ≤ x8_1) = true := decide_eq_true c3
     clear c3
     by_cases c4 : x8_1 < (l0.length : Int)
     ·rw [if_pos c4] at H
      have c4b0 : decide (x8_1 < (l0.length : Int)) = true := decide_eq_true c4
      clear c4
      by_cases c5 : x8_1 > 0
      ·rw [if_pos c5] at H
       have c5b0 : decide (0 < x8_1) = true := decide_eq_true c5
       clear c5
       by_cases c6 : x3_1.length < 17592186044416
       ·rw [if_pos c6] at H
        have LMc6 := Aside0.mk c6
        clear c6
        obtain ⟨y264, hy264⟩ : ∃ y_ : List Int, y_ = (x3_1 ++ [wrap64 (x8_1 * (rd l0 x8_1))]) := ⟨_, rfl⟩
        replace H : (spec_sgDerive.l0 k1 y264 l0 (l0.length : Int) (wrap64 (x8_1 + 1))) = some r := by first | (rw [hy264]; with_reducible exact H) | (have H2_ := (Option.bind_some _ _).symm.trans H; rw [hy264]; with_reducible exact H2_) | (have H2_ := (Option.bind_some _ _).symm.trans H; with_reducible exact H2_) | with_reducible exact H | (rw [hy264]; exact H) | exact H
        have Ny264 := Aside0.mk hy264
        clear hy264
        have H' := Aside0.mk H
        clear H
        have p263 : 0 ≤ (x8_1 : Int) := of_decide_eq_true am
        have q263 : x8_1 < (l0.length : Int) := of_decide_eq_true am
        obtain ⟨ad263, e263, hx263_0⟩ := Kd.at_int HR0.out x8_1 p263 q263
        cases e263
        replace hx263_0 := (HB.out.cell (World.block_lt_of_cell? w _ hx263_0)).trans hx263_0
        replace p263 := eq_true p263
        replace q263 := eq_true q263
        go_wp2_with (first | ((with_reducible refine gate_builtin (b := .append) (xs := #[.tmp 15, .tmp 19]) rfl ?_); at_builtin; refine Kd.R_append (Kd.int .i64) (w0 := w) w.heap.size rfl (.tmp 15) (.tmp 19) 22 3 (.int .i64 0) 8 rfl Try.underlying22 info3 rfl (by decide) (by omega) u3 x3_1 (wrap64 (x8_1 * (rd l0 x8_1))) [.int .i64 (wrap64 (x8_1 * (rd l0 x8_1)))] (fun _ => True) (fun _ => False) rfl rfl ?aP (fun _ hk => hk.elim) ?aF ?aO ?aB ?aS ?aL ?_; (case aP => exact rfl); (case aB => exact bz); (case aF => exact (fun _ _ => trivial)); (case aO => exact (kr HO_3)); (case aS => exact (below_size bz)); (case aL => have := LMc6.out; omega); intro v265 w7 ho hb hg hat; rw [← Ny264.out] at ho; have n0_ := Aside0.mk (hb); have n1_ := Aside0.mk (ho); clear HB; clear HO_3; have HB := n0_; have HO266 := n1_; clear n0_ n1_; clear ho hb hg hat))
        go_roundg k1
        case measure => have := HK1.out; omega
        case rel => exact ⟨(y264), (wrap64 (x8_1 + 1)), sr, H', ⟨by have := HK1.out; omega⟩, ⟨kr HO266⟩, ⟨bz⟩⟩
       ·rw [if_neg c6] at H
        exact absurd H (by simp)
      ·rw [if_neg c5] at H
       have c5b0 : decide (0 < x8_1) = false := decide_eq_false c5
       clear c5
       have H' := Aside0.mk H
       clear H
       have p263 : 0 ≤ (x8_1 : Int) := of_decide_eq_true am
       have q263 : x8_1 < (l0.length : Int) := of_decide_eq_true am
       obtain ⟨ad263, e263, hx263_0⟩ := Kd.at_int HR0.out x8_1 p263 q263
       cases e263
       replace hx263_0 := (HB.out.cell (World.block_lt_of_cell? w _ hx263_0)).trans hx263_0
       replace p263 := eq_true p263
       replace q263 := eq_true q263
       go_wp2
       go_roundg k1
       case measure => have := HK1.out; omega
       case rel => exact ⟨(x3_1), (wrap64 (x8_1 + 1)), sr, H', ⟨by have := HK1.out; omega⟩, ⟨kr HO_3⟩, ⟨bz⟩⟩
     ·rw [if_neg c4] at H
      exact absurd H (by simp)
    ·rw [if_neg c3] at H
     exact absurd H (by simp)
   ·rw [if_neg c2] at H
    have c2b0 : decide (x8_1 < (l0.length : Int)) = false := decide_eq_false c2
    clear c2
    obtain rfl := Option.some.inj H
    go_wp2
    go_ret
    exact ⟨_, er, by (with_reducible repeat (first | apply Kd.R_alloc | apply Kd.R_drewN | apply Kd.R_drew)); exact HO_3.out, bz⟩
mutual
def spec_sgDivide.l0 : Nat → List Int → List Int → List Int → Int → Option (List Int × Bool)
 | 0, _, _, _, _ => none
 | k + 1, x1, x6, x7, x8 => if x8 ≥ 0 then (if 0 ≤ (wrap64 ((wrap64 (x8 + (x1.length : Int))) - 1)) then (if (wrap64 ((wrap64 (x8 + (x1.length : Int))) - 1)) < (x6.length : Int) then (if 0 ≤ (wrap64 ((x1.length : Int) - 1)) then (if (wrap64 ((x1.length : Int) - 1)) < (x1.length : Int) then (if (rd x1 (wrap64 ((x1.length : Int) - 1))) = 0 then (none) else (if (Int.tmod (rd x6 (wrap64 ((wrap64 (x8 + (x1.length : Int))) - 1))) (rd x1 (wrap64 ((x1.length : Int) - 1)))) = 0 then ((spec_l1In.f (wrap64 (Int.tdiv (rd x6 (wrap64 ((wrap64 (x8 + (x1.length : Int))) - 1))) (rd x1 (wrap64 ((x1.length : Int) - 1))))) (-1000000000) 1000000000).bind fun t276 => (spec_sgDivide.j1 k x1 x6 x7 x8 (rd x6 (wrap64 ((wrap64 (x8 + (x1.length : Int))) - 1))) (rd x1 (wrap64 ((x1.length : Int) - 1))) (!t276))) else (spec_sgDivide.j1 k x1 x6 x7 x8 (rd x6 (wrap64 ((wrap64 (x8 + (x1.length : Int))) - 1))) (rd x1 (wrap64 ((x1.length : Int) - 1))) true))) else (none)) else (none)) else (none)) else (none)) else ((spec_l1All.f k x6 0 0).bind fun t273 => (some (x7, t273)))
def spec_sgDivide.j1 : Nat → List Int → List Int → List Int → Int → Int → Int → Bool → Option (List Int × Bool)
 | 0, _, _, _, _, _, _, _ => none
 | k + 1, x1, x6, x7, x8, x9, x10, x61 => if x61 = true then (some (([] : List Int), false)) else (if x10 = 0 then (none) else (if 0 ≤ x8 then (if x8 < (x7.length : Int) then (spec_sgDivide.l1 k x1 x6 (x7.set (x8 : Int).toNat (wrap64 (Int.tdiv x9 x10))) x8 x1 (x1.length : Int) 0) else (none)) else (none)))
def spec_sgDivide.l1 : Nat → List Int → List Int → List Int → Int → List Int → Int → Int → Option (List Int × Bool)
 | 0, _, _, _, _, _, _, _ => none
 | k + 1, x1, x6, x7, x8, x68, x69, x70 => if x70 < x69 then (if 0 ≤ x70 then (if x70 < (x68.length : Int) then (if 0 ≤ (wrap64 (x8 + x70)) then (if (wrap64 (x8 + x70)) < (x6.length : Int) then (if 0 ≤ x8 then (if x8 < (x7.length : Int) then (spec_sgDivide.l1 k x1 (x6.set ((wrap64 (x8 + x70)) : Int).toNat (wrap64 ((rd x6 (wrap64 (x8 + x70))) - (wrap64 ((rd x7 x8) * (rd x68 x70)))))) x7 x8 x68 x69 (wrap64 (x70 + 1))) else (none)) else (none)) else (none)) else (none)) else (none)) else (none)) else (spec_sgDivide.l0 k x1 x6 x7 (wrap64 (x8 - 1)))
end
def spec_sgDivide.f (k : Nat) (l0 : List Int) (l1 : List Int) : Option (List Int × Bool) := if (l0.length : Int) < (l1.length : Int) then (some (([] : List Int), ((l0.length : Int) == 0))) else ((spec_l1Own.f l0).bind fun t267 => (if 0 ≤ (wrap64 ((wrap64 ((l0.length : Int) - (l1.length : Int))) + 1)) then (if (wrap64 ((wrap64 ((l0.length : Int) - (l1.length : Int))) + 1) : Int).toNat ≤ 35184372088832 then ((some (List.replicate (wrap64 ((wrap64 ((l0.length : Int) - (l1.length : Int))) + 1) : Int).toNat 0 : List Int)).bind fun y270 => (spec_sgDivide.l0 k l1 t267 y270 (wrap64 ((y270.length : Int) - 1)))) else (none)) else (none)))
def spec_sgDivide.T8 : Bool × List (List Nat × List Nat) := (true, [([], []), ([], []), ([], []), ([2], [2]), ([1, 3], [1, 3]), ([4], [4]), ([0, 5], [0, 5]), ([6], [6]), ([], []), ([], []), ([9], [9]), ([10], [10]), ([8, 11], [8, 11]), ([12], [12]), ([7, 0, 1, 2, 3, 4, 5, 6, 7], [7]), ([13, 14, 0, 1, 2, 3, 4, 5, 6, 7, 8, 9, 10, 11, 12, 13, 14], [13])])
def spec_sgDivide.B8 : List Nat := [0, 0, 0, 4, 14, 30, 63, 127, 0, 0, 512, 1536, 3840, 7936, 255, 32767]
theorem spec_sgDivide.tab8 : rtab .any (opsOf Try.f95 8) = spec_sgDivide.T8 := by kernel_rfl
theorem spec_sgDivide.bits8 : waitsOk spec_sgDivide.T8.2 spec_sgDivide.B8 = true := by kernel_rfl
def spec_sgDivide.T15 : Bool × List (List Nat × List Nat) := (true, [([], []), ([], []), ([], []), ([1, 2], [1, 2]), ([0, 3], [0, 3]), ([4], [4]), ([], []), ([], []), ([6, 7], [6, 7]), ([8], [8]), ([], []), ([9, 10], [9, 10]), ([5, 11], [5, 11]), ([0, 3, 0, 1, 2, 3, 4, 5, 6, 7, 8, 9, 10, 11, 12], [0, 3]), ([13, 12, 0, 1, 2, 3, 4, 5, 6, 7, 8, 9, 10, 11, 12], [12, 13])])
def spec_sgDivide.B15 : List Nat := [0, 0, 0, 6, 15, 31, 0, 0, 192, 448, 0, 1984, 4095, 8191, 16383]
theorem spec_sgDivide.tab15 : rtab .any (opsOf Try.f95 15) = spec_sgDivide.T15 := by kernel_rfl
theorem spec_sgDivide.bits15 : waitsOk spec_sgDivide.T15.2 spec_sgDivide.B15 = true := by kernel_rfl
set_option maxHeartbeats 8000000 in
set_option maxRecDepth 100000 in
theorem spec_sgDivide.calls (k : Nat) (A0 : Option Addr) (c0 : Nat) (l0 : List Int) (A1 : Option Addr) (c1 : Nat) (l1 : List Int) (r1 : List Int) (r2 : Bool) (w : World) (hr0 : Kd.C (Kd.int .i64) w A0 l0.length l0) (hc0 : l0.length ≤ c0) (hr1 : Kd.C (Kd.int .i64) w A1 l1.length l1) (hc1 : l1.length ≤ c1) (h : spec_sgDivide.f k l0 l1 = some (r1, r2)) :
 Calls Try.prog 95 #[.slice A0 l0.length c0, .slice A1 l1.length c1] w fun e w' => ∃ v0_ : Value, e = .returned (.tuple #[v0_, .bool r2]) ∧ Kd.R (Kd.int .i64) 3 w' w.heap.size (fun _ => True) v0_ r1 ∧ Below w.heap.size w w' := by
 have HR0 := Aside0.mk hr0
 have HC0 := Aside0.mk hc0
 clear hr0 hc0
 have HR1 := Aside0.mk hr1
 have HC1 := Aside0.mk hc1
 clear hr1 hc1
 have HB := Aside0.mk (Below.refl w.heap.size w)
 have H : (if (l0.length : Int) < (l1.length : Int) then (some (([] : List Int), ((l0.length : Int) == 0))) else ((spec_l1Own.f l0).bind fun t267 => (if 0 ≤ (wrap64 ((wrap64 ((l0.length : Int) - (l1.length : Int))) + 1)) then (if (wrap64 ((wrap64 ((l0.length : Int) - (l1.length : Int))) + 1) : Int).toNat ≤ 35184372088832 then ((some (List.replicate (wrap64 ((wrap64 ((l0.length : Int) - (l1.length : Int))) + 1) : Int).toNat 0 : List Int)).bind fun y270 => (spec_sgDivide.l0 k l1 t267 y270 (wrap64 ((y270.length : Int) - 1)))) else (none)) else (none)))) = some (r1, r2) := h
 clear h
 by_cases c3 : (l0.length : Int) < (l1.length : Int)
 ·rw [if_pos c3] at H
  have c3b0 : decide ((l0.length : Int) < (l1.length : Int)) = true := decide_eq_true c3
  have c3b1 : decide (l0.length < l1.length) = true := decide_eq_true (Int.ofNat_lt.mp c3)
  clear c3
  simp only [Option.some.injEq, Prod.mk.injEq] at H
  obtain ⟨rfl, rfl⟩ := H
  go_enter Try.func95, Try.ntmps95
  go_wp2
  go_ret2
  exact ⟨_, er, by first | exact Kd.R_nil _ _ _ _ _ | exact Kd.N_nil _ _ _ _ _ | exact Kd.V_nil _ _ _ _ _ | exact Kd.Q_nil _ _ _ _ _ | exact Kd.S_nil _ _ _ _ _, bz⟩
 ·rw [if_neg c3] at H
  have c3b0 : decide ((l0.length : Int) < (l1.length : Int)) = false := decide_eq_false c3
  have c3b1 : decide (l0.length < l1.length) = false := decide_eq_false (fun h => c3 (Int.ofNat_lt.mpr h))
  clear c3
  obtain ⟨t267, A4, H⟩ := bi H
  obtain ⟨ji5, hji5⟩ : ∃ j_ : Int, (wrap64 ((wrap64 ((l0.length : Int) - (l1.length : Int))) + 1)) = j_ := ⟨_, rfl⟩
  first | rw [hji5] at H | simp only [hji5] at H
  (try rw [hji5] at A4)
  have hji5w : (IntKind.i64.wrap ((wrap64 ((l0.length : Int) - (l1.length : Int))) + 1)) = ji5 := (i64_w _).trans hji5
  by_cases c6 : 0 ≤ (ji5)
  ·rw [if_pos c6] at H
   have c6b0 := eq_true c6
   have c6b1 : decide (0 ≤ (ji5)) = true := decide_eq_true c6
   clear c6
   by_cases c7 : (ji5 : Int).toNat ≤ 35184372088832
   ·rw [if_pos c7] at H
    have c7b0 := eq_true c7
    have c7b1 : decide ((ji5 : Int).toNat ≤ 35184372088832) = true := decide_eq_true c7
    clear c7
    obtain ⟨y270, hy270⟩ : ∃ y_ : List Int, y_ = (List.replicate (ji5 : Int).toNat 0) := ⟨_, rfl⟩
    replace H : (spec_sgDivide.l0 k l1 t267 y270 (wrap64 ((y270.length : Int) - 1))) = some (r1, r2) := by first | (rw [hy270]; with_reducible exact H) | (have H2_ := (Option.bind_some _ _).symm.trans H; rw [hy270]; with_reducible exact H2_) | (have H2_ := (Option.bind_some _ _).symm.trans H; with_reducible exact H2_) | with_reducible exact H | (rw [hy270]; exact H) | exact H
    have Ny270 := Aside0.mk hy270
    clear hy270
    have H' := Aside0.mk H
    clear H
    go_enter Try.func95, Try.ntmps95
    go_wp2_with (first | ((with_reducible refine gate_callee (f := 121) rfl ?_); refine goesL_ (some 22) rfl rfl Try.func121 kf rfl #[.slice A0 l0.length c0] rfl sm ?_; (with_reducible refine (spec_l1Own.calls _ _ l0 t267 _ ?side1 ?side2 A4.out).mono ?_); (case side1 => exact cc HR0); (case side2 => exact HC0.out); rintro e w8 ⟨v268, rfl, ho0, hb⟩; refine ⟨_, rfl, ?_⟩; have n0_ := Aside0.mk (Kd.R_lower ho0 (below_size bz)); have n1_ := Aside0.mk (below_step bz hb); clear HB; have HO269 := n0_; have HB := n1_; clear n0_ n1_; (try clear hb); (try clear hb2); (try clear hk); (try clear hi); (try clear ho0)) | ((with_reducible refine gate_dst (N := 29) rfl ?_); refine Kd.R_make (Kd.int .i64) _ 3 rfl (N := 29) rfl 22 _ _ rfl ji5 rfl rfl Try.underlying22 (.int .i64 0) 8 info3 rfl (by decide) (by omega) 0 (ok := fun _ => True) (okp := fun _ => True) rfl (fun _ hk => hk) trivial (of_decide_eq_true am) (Nat.le_trans (Nat.mul_le_mul_right _ (of_decide_eq_true am : ji5.toNat ≤ 35184372088832)) (by omega)) (Below.refl _ _) (Nat.le_refl _) ?_; intro v271 w9 ho10 hb hg_ hnew_; clear hg_ hnew_; (first | rw [← Ny270.out] at ho10 | (simp only [Int.reduceToNat] at ho10; rw [← Ny270.out] at ho10)); have n0_ := Aside0.mk (Kd.R_elder' (kr HO269) (Kd.R_base ho10) hb); have n1_ := Aside0.mk (Kd.R_lower (Kd.R_new' ho10 (Kd.R_lt (kr HO269))) (below_size bz)); have n2_ := Aside0.mk (below_step bz hb); clear HO269; clear HB; have HO269 := n0_; have HO272 := n1_; have HB := n2_; clear n0_ n1_ n2_; clear hb ho10; obtain ⟨Ao11, co11, eo11⟩ := Kd.R_slice HO272.out; subst eo11))
    go_loopg [8] k (fun kq v8 w' => ∃ (x6_1 : List Int) (x7_1 : List Int) (x8_1 : Int), v8 = .int .i64 x8_1 ∧ Aside0 (spec_sgDivide.l0 kq l1 x6_1 x7_1 x8_1 = some (r1, r2)) ∧ Aside0 (kq ≤ k) ∧ Aside0 (Kd.R (Kd.int .i64) 3 w' w.heap.size (fun k_ => some k_ ≠ ((.slice Ao11 y270.length co11) : Value).ownBlock) v268 x6_1) ∧ Aside0 (Kd.R (Kd.int .i64) 3 w' w.heap.size (fun k_ => some k_ ≠ (v268 : Value).ownBlock) (.slice Ao11 y270.length co11) x7_1) ∧ Aside0 (Below w.heap.size w w'))
    case atStart => exact ⟨(t267), (y270), (wrap64 ((y270.length : Int) - 1)), sr, H', ⟨Nat.le_refl _⟩, ⟨by (with_reducible repeat (first | apply Kd.R_alloc | apply Kd.R_drewN | apply Kd.R_drew)); exact Kd.R_mono HO269.out (fun _ hk => hk.2)⟩, ⟨by (with_reducible repeat (first | apply Kd.R_alloc | apply Kd.R_drewN | apply Kd.R_drew)); exact Kd.R_mono HO272.out (fun _ hk => hk.2)⟩, ⟨bz⟩⟩
    case round =>
     clear H'
     try clear c1; try clear p2; try clear c3; try clear c3b0; try clear c3b1; try clear c6; try clear c6b0; try clear c6b1; try clear p6; try clear c7; try clear c7b0; try clear c7b1; try clear c9
     obtain ⟨x6_1, x7_1, x8_1, rfl, HA, HK1, HO_6, HO_7, HB⟩ := hrel
     have hl7_1 := (Kd.R_reads' HO_7.out).1
     rw [hl7_1] at HO_7
     (try simp only [hl7_1])
     (try simp only [hl7_1] at HO_6)
     cases gk with
     | zero => exact absurd HA.out (by simp [spec_sgDivide.l0])
     | succ k1 =>
      have H := HA.out
      clear HA
      simp only [spec_sgDivide.l0] at H
      by_cases c12 : x8_1 ≥ 0
      ·rw [if_pos c12] at H
       have c12b0 : decide (0 ≤ x8_1) = true := decide_eq_true c12
       clear c12
       obtain ⟨ji13, hji13⟩ : ∃ j_ : Int, (wrap64 ((wrap64 (x8_1 + (l1.length : Int))) - 1)) = j_ := ⟨_, rfl⟩
       first | rw [hji13] at H | simp only [hji13] at H
       have hji13w : (IntKind.i64.wrap ((wrap64 (x8_1 + (l1.length : Int))) - 1)) = ji13 := (i64_w _).trans hji13
       by_cases c14 : 0 ≤ (ji13)
       ·rw [if_pos c14] at H
        have c14b0 : decide (0 ≤ (ji13)) = true := decide_eq_true c14
        clear c14
        by_cases c15 : (ji13) < (x6_1.length : Int)
        ·rw [if_pos c15] at H
         have c15b0 : decide ((ji13) < (x6_1.length : Int)) = true := decide_eq_true c15
         (try (have c15b0l : _ := c15b0; rw [hl7_1] at c15b0l))
         clear c15
         obtain ⟨ji16, hji16⟩ : ∃ j_ : Int, (wrap64 ((l1.length : Int) - 1)) = j_ := ⟨_, rfl⟩
         first | rw [hji16] at H | simp only [hji16] at H
         have hji16w : (IntKind.i64.wrap ((l1.length : Int) - 1)) = ji16 := (i64_w _).trans hji16
         by_cases c17 : 0 ≤ (ji16)
         ·rw [if_pos c17] at H
          have c17b0 : decide (0 ≤ (ji16)) = true := decide_eq_true c17
          clear c17
          by_cases c18 : (ji16) < (l1.length : Int)
          ·rw [if_pos c18] at H
           have c18b0 : decide ((ji16) < (l1.length : Int)) = true := decide_eq_true c18
           (try (have c18b0l : _ := c18b0; rw [hl7_1] at c18b0l))
           clear c18
           have HC19 := Aside0.mk H
           clear H
           try go_wp2
           have n0_ := Aside0.mk (Kd.R_drew HO_6.out)
           have n1_ := Aside0.mk (Kd.R_drew HO_7.out)
           have n2_ := Aside0.mk (below_drew1 HB.out)
           clear HO_6 HO_7 HB
           have HO_6 := n0_
           have HO_7 := n1_
           have HB := n2_
           clear n0_ n1_ n2_
           obtain ⟨Ao21, co21, eo21⟩ := Kd.R_slice HO_6.out
           (first | subst eo21 | (injection eo21 with f1_ f2_ f3_; have f4_ := f1_.symm; have f5_ := f3_.symm; clear f1_ f2_ f3_; subst f4_; subst f5_))
           have p274 : 0 ≤ ((ji13) : Int) := of_decide_eq_true am
           have q274 : (ji13) < (x6_1.length : Int) := of_decide_eq_true am
           obtain ⟨ad274, e274, hx274_0⟩ := Kd.at_int (Kd.R_reads' HO_6.out).2.2 (ji13) p274 q274
           cases e274
           replace p274 := eq_true p274
           replace q274 := eq_true q274
           have p275 : 0 ≤ ((ji16) : Int) := of_decide_eq_true am
           have q275 : (ji16) < (l1.length : Int) := of_decide_eq_true am
           obtain ⟨ad275, e275, hx275_0⟩ := Kd.at_int HR1.out (ji16) p275 q275
           have hw275_0 := hx275_0
           cases e275
           replace hx275_0 := (HB.out.cell (World.block_lt_of_cell? w _ hx275_0)).trans hx275_0
           replace p275 := eq_true p275
           replace q275 := eq_true q275
           refine start_ (n := 16) (S := fun w' => w'.cell? (ad274.add ((ji13)).toNat) = some (.int .i64 (rd x6_1 (ji13))) ∧ w'.cell? (ad275.add ((ji16)).toNat) = some (.int .i64 (rd l1 (ji16)))) (ds := []) #[fF, fF, fF, fF, fF, fF, fF, fF, fF, fF, fF, fF, fF, fF, fF, fF] kf rfl rfl ⟨hx274_0, ((HB.out.cell (World.block_lt_of_cell? w _ hw275_0)).trans hw275_0)⟩ (fun hHeld => ?_); refine with_tabW spec_sgDivide.tab8 spec_sgDivide.bits8 (fun HT_ HW_ => ?_)
           generalize wr.drew = w20 at HO_6 HO_7 HB hx274_0 hx275_0 hHeld ⊢
           refine pq (i := 0) (N := some 37) #[tT, fF, fF, fF, fF, fF, fF, fF, fF, fF, fF, fF, fF, fF, fF, fF] rfl rfl HT_.out ?_
           refine pq (i := 1) (N := some 38) #[tT, tT, fF, fF, fF, fF, fF, fF, fF, fF, fF, fF, fF, fF, fF, fF] rfl rfl HT_.out ?_
           refine pq (i := 2) (N := some 39) #[tT, tT, tT, fF, fF, fF, fF, fF, fF, fF, fF, fF, fF, fF, fF, fF] rfl rfl HT_.out ?_
           refine pq (i := 3) (N := some 40) #[tT, tT, tT, tT, fF, fF, fF, fF, fF, fF, fF, fF, fF, fF, fF, fF] rfl rfl HT_.out ?_
           refine pq (i := 4) (N := some 41) #[tT, tT, tT, tT, tT, fF, fF, fF, fF, fF, fF, fF, fF, fF, fF, fF] rfl rfl HT_.out ?_
           refine pq (i := 5) (N := some 42) #[tT, tT, tT, tT, tT, tT, fF, fF, fF, fF, fF, fF, fF, fF, fF, fF] rfl rfl HT_.out ?_
           refine pq (i := 6) (N := some 43) #[tT, tT, tT, tT, tT, tT, tT, fF, fF, fF, fF, fF, fF, fF, fF, fF] rfl rfl HT_.out ?_
           refine pq (i := 8) (N := some 45) #[tT, tT, tT, tT, tT, tT, tT, fF, tT, fF, fF, fF, fF, fF, fF, fF] rfl rfl HT_.out ?_
           refine pq (i := 9) (N := some 46) #[tT, tT, tT, tT, tT, tT, tT, fF, tT, tT, fF, fF, fF, fF, fF, fF] rfl rfl HT_.out ?_
           refine pq (i := 10) (N := some 47) #[tT, tT, tT, tT, tT, tT, tT, fF, tT, tT, tT, fF, fF, fF, fF, fF] rfl rfl HT_.out ?_
           refine pq (i := 11) (N := some 48) #[tT, tT, tT, tT, tT, tT, tT, fF, tT, tT, tT, tT, fF, fF, fF, fF] rfl rfl HT_.out ?_
           refine pq (i := 12) (N := some 49) #[tT, tT, tT, tT, tT, tT, tT, fF, tT, tT, tT, tT, tT, fF, fF, fF] rfl rfl HT_.out ?_
           refine tq2 (i := 7) (N := some 44) #[tT, tT, tT, tT, tT, tT, tT, tT, tT, tT, tT, tT, tT, fF, fF, fF] rfl rfl HT_.out HW_.out hHeld ?_
           refine pq (i := 14) (N := some 9) #[tT, tT, tT, tT, tT, tT, tT, tT, tT, tT, tT, tT, tT, fF, tT, fF] rfl rfl HT_.out ?_
           refine tq2 (i := 13) (N := some 50) #[tT, tT, tT, tT, tT, tT, tT, tT, tT, tT, tT, tT, tT, tT, tT, fF] rfl rfl HT_.out HW_.out hHeld ?_
           refine pq (i := 15) (N := some 10) #[tT, tT, tT, tT, tT, tT, tT, tT, tT, tT, tT, tT, tT, tT, tT, tT] rfl rfl HT_.out ?_
           refine done_ (done_of HT_.out kf) ?_
           go_upto_region 9 with (fail)
           go_cut [61] (fun v61 wc => ∃ (kq : Nat) (x61_18 : Bool), v61 = .bool x61_18 ∧ Aside0 (spec_sgDivide.j1 kq l1 x6_1 x7_1 x8_1 (rd x6_1 (ji13)) (rd l1 (ji16)) x61_18 = some (r1, r2)) ∧ Aside0 (kq ≤ k1) ∧ Aside0 (Kd.R (Kd.int .i64) 3 wc w.heap.size (fun k_ => some k_ ≠ ((.slice Ao11 x7_1.length co11) : Value).ownBlock) (.slice (some ad274) x6_1.length co21) x6_1) ∧ Aside0 (Kd.R (Kd.int .i64) 3 wc w.heap.size (fun k_ => some k_ ≠ ((.slice (some ad274) x6_1.length co21) : Value).ownBlock) (.slice Ao11 x7_1.length co11) x7_1) ∧ Aside0 (Below w.heap.size w wc))
           case first =>
            have H := HC19.out
            clear HC19
            by_cases c22 : (rd l1 (ji16)) = 0
            ·rw [if_pos c22] at H
             exact absurd H (by simp)
            ·rw [if_neg c22] at H
             have c22b0 : ((rd l1 (ji16)) == 0) = false := beq_eq_false_iff_ne.mpr c22
             have c22b1 : ((rd l1 (ji16)) != 0) = true := bne_iff_ne.mpr c22
             (first | rw [c22b0] | (simp only [i64_w, i32_w]; rw [c22b0]) | skip)
             by_cases c23 : (Int.tmod (rd x6_1 (ji13)) (rd l1 (ji16))) = 0
             ·rw [if_pos c23] at H
              have c23b0 : ((Int.tmod (rd x6_1 (ji13)) (rd l1 (ji16))) == 0) = true := beq_iff_eq.mpr c23
              have c23b1 : ((Int.tmod (rd x6_1 (ji13)) (rd l1 (ji16))) != 0) = false := bne_eq_false_iff_eq.mpr c23
              clear c23
              obtain ⟨t276, A24, H⟩ := bi H
              have H' := Aside0.mk H
              clear H
              go_wp2_with (first | (go_at_call 78; (with_reducible refine (spec_l1In.calls (wrap64 (Int.tdiv (rd x6_1 (ji13)) (rd l1 (ji16)))) (-1000000000) 1000000000 t276 _ A24.out).mono ?_); rintro e w' ⟨rfl, ⟨nd, rfl⟩⟩))
              go_meet
              case rel => exact ⟨_, (!t276), sr, H', ⟨by have := HK1.out; first | omega | exact Nat.le_refl _⟩, ⟨by (try simp only [hl7_1]); (with_reducible repeat (first | apply Kd.R_alloc | apply Kd.R_drewN | apply Kd.R_drew)); exact HO_6.out⟩, ⟨by (try simp only [hl7_1]); (with_reducible repeat (first | apply Kd.R_alloc | apply Kd.R_drewN | apply Kd.R_drew)); exact HO_7.out⟩, ⟨bz⟩⟩
             ·rw [if_neg c23] at H
              have c23b0 : ((Int.tmod (rd x6_1 (ji13)) (rd l1 (ji16))) == 0) = false := beq_eq_false_iff_ne.mpr c23
              have c23b1 : ((Int.tmod (rd x6_1 (ji13)) (rd l1 (ji16))) != 0) = true := bne_iff_ne.mpr c23
              have H' := Aside0.mk H
              clear H
              go_wp2
              go_meet
              case rel => exact ⟨_, (true), sr, H', ⟨by have := HK1.out; first | omega | exact Nat.le_refl _⟩, ⟨by (try simp only [hl7_1]); (with_reducible repeat (first | apply Kd.R_alloc | apply Kd.R_drewN | apply Kd.R_drew)); exact HO_6.out⟩, ⟨by (try simp only [hl7_1]); (with_reducible repeat (first | apply Kd.R_alloc | apply Kd.R_drewN | apply Kd.R_drew)); exact HO_7.out⟩, ⟨bz⟩⟩
           case rest =>
            clear HC19
            try clear c1; try clear c2; try clear p2; try clear q2; try clear hx2; try clear c3; try clear c3b0; try clear c3b1; try clear c6; try clear c6b0; try clear c6b1; try clear p6; try clear c7; try clear c7b0; try clear c7b1; try clear c9; try clear c12; try clear c12b0; try clear c14; try clear c14b0; try clear c15; try clear c15b0; try clear c17; try clear c17b0; try clear c18; try clear c18b0; try clear c22; try clear c22b0; try clear c22b1; try clear c23; try clear c23b0; try clear c23b1; try clear hx274_0; try clear hx275_0; try clear p2; try clear p274; try clear p275; try clear p6; try clear q274; try clear q275
            obtain ⟨kq, x61_18, rfl, HA, HJ18, HO_6, HO_7, HB⟩ := hcut
            cases kq with
            | zero => exact absurd HA.out (by simp [spec_sgDivide.j1])
            | succ kj18 =>
             have H := HA.out
             clear HA
             simp only [spec_sgDivide.j1] at H
             by_cases c25 : x61_18 = true
             ·subst c25
              rw [if_pos rfl] at H
              simp only [Option.some.injEq, Prod.mk.injEq] at H
              obtain ⟨rfl, rfl⟩ := H
              go_wp2
              go_ret2
              exact ⟨_, by first | rfl | (simp [errW_none, errW_some] <;> rfl) | (simp only [← hji5, ← hji13, ← hji16]; first | rfl | (simp [errW_none, errW_some] <;> rfl)) | (simp [*, errW_none, errW_some] <;> rfl), by first | exact Kd.R_nil _ _ _ _ _ | exact Kd.N_nil _ _ _ _ _ | exact Kd.V_nil _ _ _ _ _ | exact Kd.Q_nil _ _ _ _ _ | exact Kd.S_nil _ _ _ _ _, bz⟩
             ·replace c25 := Bool.eq_false_iff.mpr c25
              subst c25
              rw [if_neg (show ¬ (false = true) by decide)] at H
              by_cases c26 : (rd l1 (ji16)) = 0
              ·rw [if_pos c26] at H
               exact absurd H (by simp)
              ·rw [if_neg c26] at H
               have c26b0 : ((rd l1 (ji16)) == 0) = false := beq_eq_false_iff_ne.mpr c26
               have c26b1 : ((rd l1 (ji16)) != 0) = true := bne_iff_ne.mpr c26
               by_cases c27 : 0 ≤ x8_1
               ·rw [if_pos c27] at H
                have c27b0 : decide (0 ≤ x8_1) = true := decide_eq_true c27
                clear c27
                by_cases c28 : x8_1 < (x7_1.length : Int)
                ·rw [if_pos c28] at H
                 have c28b0 : decide (x8_1 < (x7_1.length : Int)) = true := decide_eq_true c28
                 (try (have c28b0l : _ := c28b0; rw [hl7_1] at c28b0l))
                 clear c28
                 obtain ⟨y277, hy277⟩ : ∃ y_ : List Int, y_ = (x7_1.set (x8_1 : Int).toNat (wrap64 (Int.tdiv (rd x6_1 (ji13)) (rd l1 (ji16))))) := ⟨_, rfl⟩
                 replace H : (spec_sgDivide.l1 kj18 l1 x6_1 y277 x8_1 l1 (l1.length : Int) 0) = some (r1, r2) := by first | (rw [hy277]; with_reducible exact H) | (have H2_ := (Option.bind_some _ _).symm.trans H; rw [hy277]; with_reducible exact H2_) | (have H2_ := (Option.bind_some _ _).symm.trans H; with_reducible exact H2_) | with_reducible exact H | (rw [hy277]; exact H) | exact H
                 have Ny277 := Aside0.mk hy277
                 clear hy277
                 have H' := Aside0.mk H
                 clear H
                 have p29 : 0 ≤ (x8_1 : Int) := of_decide_eq_true am
                 have q29 : (x8_1 : Int) < ((x7_1.length : Int) : Int) := of_decide_eq_true am
                 obtain ⟨go29, co29, eo29, gb29, gl29, cl29, HG29⟩ := Kd.R_form HO_7.out (by omega)
                 (first | cases eo29 | (injection eo29 with ea_ en_ ec_; (first | subst ea_ | (injection ea_ with ea_; subst ea_)); subst ec_; clear en_))
                 have GB29 := Aside0.mk gb29
                 have GG29 := Aside0.mk HG29
                 clear gb29 gl29 HG29
                 obtain ⟨hx29_0, hf29_0⟩ := Kd.R_celln 0 HO_7.out (x8_1 : Int) p29 q29
                 replace p29 := eq_true p29
                 replace q29 := eq_true q29
                 have HP30 := Kd.R_putg HO_7.out (x8_1 : Int) (wrap64 (Int.tdiv (rd x6_1 (ji13)) (rd l1 (ji16))))
                 go_wp2_with (first | ((with_reducible refine gate_store (t := 3) (p := 67) rfl ?_); refine store_event (t := 3) (p := 67) (v := ?vo_w31) (w1 := (wc.setCell ⟨go29, (x8_1 : Int).toNat, none⟩ (.int .i64 (wrap64 (Int.tdiv (rd x6_1 (ji13)) (rd l1 (ji16))))))) ?hg ?ho ?hn ?hr ?_; (case ho => rfl); (case hg => rfl); (case hn => rfl); (case hr => first | (go_simp; done) | (go_simp; rfl)); intro w31 hw; have hg : wc.grownBy w31 (some go29) := (by rw [hw]; exact HP30.2); have hp_ : Kd.R (Kd.int .i64) 3 w31 w.heap.size (fun k_ => some k_ ≠ (.slice (some ad274) x6_1.length co21 : Value).ownBlock) (.slice (some ⟨go29, 0, none⟩) x7_1.length co11) y277 := (by rw [hw, Ny277.out]; exact HP30.1); clear HP30; have n0_ := Aside0.mk (Kd.R_after (v := (.slice (some ⟨go29, 0, none⟩) x7_1.length co11)) (v1 := (.slice (some ⟨go29, 0, none⟩) x7_1.length co11)) (ok := (fun _ => True)) (by (with_reducible repeat (first | apply Kd.R_alloc | apply Kd.R_drewN | apply Kd.R_drew)); exact Kd.R_mono HO_6.out (fun _ hk => ⟨trivial, hk⟩)) hg (.inl rfl)); have n1_ := Aside0.mk (hp_); have n2_ := Aside0.mk ((by rw [hw]; exact below_set (HB.out) GB29.out : Below w.heap.size w w31)); clear HO_6; clear HO_7; clear HB; have HO_6 := n0_; have HO_7 := n1_; have HB := n2_; clear n0_ n1_ n2_; clear hg hw hp_))
                 go_loopg [70] kj18 (fun kq v70 w' => ∃ (x6_3 : List Int) (x70_3 : Int), v70 = .int .i64 x70_3 ∧ Aside0 (spec_sgDivide.l1 kq l1 x6_3 y277 x8_1 l1 (l1.length : Int) x70_3 = some (r1, r2)) ∧ Aside0 (kq ≤ kj18) ∧ Aside0 (Kd.R (Kd.int .i64) 3 w' w.heap.size (fun k_ => some k_ ≠ ((.slice (some ⟨go29, 0, none⟩) x7_1.length co11) : Value).ownBlock) (.slice (some ad274) x6_1.length co21) x6_3) ∧ Aside0 (Kd.R (Kd.int .i64) 3 w' w.heap.size (fun k_ => some k_ ≠ ((.slice (some ad274) x6_1.length co21) : Value).ownBlock) (.slice (some ⟨go29, 0, none⟩) x7_1.length co11) y277) ∧ Aside0 (Below w.heap.size w w'))
                 case atStart => exact ⟨(x6_1), (0), sr, H', ⟨Nat.le_refl _⟩, ⟨by (try simp only [hl7_1]); (with_reducible repeat (first | apply Kd.R_alloc | apply Kd.R_drewN | apply Kd.R_drew)); exact Kd.R_mono HO_6.out (fun _ hk => hk.2)⟩, ⟨by (try simp only [hl7_1]); (with_reducible repeat (first | apply Kd.R_alloc | apply Kd.R_drewN | apply Kd.R_drew)); exact HO_7.out⟩, ⟨bz⟩⟩
                 case round =>
                  clear H'
                  try clear c1; try clear c2; try clear p2; try clear q2; try clear hx2; try clear hf2; try clear c3; try clear c3b0; try clear c3b1; try clear c6; try clear c6b0; try clear c6b1; try clear p6; try clear c7; try clear c7b0; try clear c7b1; try clear c9; try clear c12; try clear c12b0; try clear c14; try clear c14b0; try clear c15; try clear c15b0; try clear c17; try clear c17b0; try clear c18; try clear c18b0; try clear c22; try clear c22b0; try clear c22b1; try clear c23; try clear c23b0; try clear c23b1; try clear c25; try clear c26; try clear c26b0; try clear c26b1; try clear c27; try clear c27b0; try clear p27; try clear q27; try clear hx27; try clear c28; try clear c28b0; try clear p29; try clear q29; try clear hx29; try clear hf29; try clear hx274_0; try clear hx275_0; try clear hx29_0; try clear p2; try clear p274; try clear p275; try clear p29; try clear p6; try clear q2; try clear q274; try clear q275; try clear q29
                  obtain ⟨x6_3, x70_3, rfl, HA, HK3, HO_6, HO_7, HB⟩ := hrel
                  have hl6_3 := (Kd.R_reads' HO_6.out).1
                  rw [hl6_3] at HO_6
                  (try simp only [hl6_3])
                  (try simp only [hl6_3] at HO_7)
                  have hl7_3 := (Kd.R_reads' HO_7.out).1
                  rw [hl7_3] at HO_7
                  (try simp only [hl7_3])
                  (try simp only [hl7_3] at HO_6)
                  cases gk with
                  | zero => exact absurd HA.out (by simp [spec_sgDivide.l1])
                  | succ k3 =>
                   have H := HA.out
                   clear HA
                   simp only [spec_sgDivide.l1] at H
                   by_cases c32 : x70_3 < (l1.length : Int)
                   ·rw [if_pos c32] at H
                    have c32b0 : decide (x70_3 < (l1.length : Int)) = true := decide_eq_true c32
                    (try (have c32b0l : _ := c32b0; rw [hl7_1] at c32b0l))
                    (try (have c32b0l : _ := c32b0; rw [hl6_3] at c32b0l))
                    (try (have c32b0l : _ := c32b0; rw [hl7_3] at c32b0l))
                    clear c32
                    by_cases c33 : 0 ≤ x70_3
                    ·rw [if_pos c33] at H
                     have c33b0 : decide (0 ≤ x70_3) = true := decide_eq_true c33
                     clear c33
                     by_cases c34 : x70_3 < (l1.length : Int)
                     ·rw [if_pos c34] at H
                      have c34b0 : decide (x70_3 < (l1.length : Int)) = true := decide_eq_true c34
                      (try (have c34b0l : _ := c34b0; rw [hl7_1] at c34b0l))
                      (try (have c34b0l : _ := c34b0; rw [hl6_3] at c34b0l))
                      (try (have c34b0l : _ := c34b0; rw [hl7_3] at c34b0l))
                      clear c34
                      obtain ⟨ji35, hji35⟩ : ∃ j_ : Int, (wrap64 (x8_1 + x70_3)) = j_ := ⟨_, rfl⟩
                      first | rw [hji35] at H | simp only [hji35] at H
                      have hji35w : (IntKind.i64.wrap (x8_1 + x70_3)) = ji35 := (i64_w _).trans hji35
                      by_cases c36 : 0 ≤ (ji35)
                      ·rw [if_pos c36] at H
                       have c36b0 : decide (0 ≤ (ji35)) = true := decide_eq_true c36
                       clear c36
                       by_cases c37 : (ji35) < (x6_3.length : Int)
                       ·rw [if_pos c37] at H
                        have c37b0 : decide ((ji35) < (x6_3.length : Int)) = true := decide_eq_true c37
                        (try (have c37b0l : _ := c37b0; rw [hl7_1] at c37b0l))
                        (try (have c37b0l : _ := c37b0; rw [hl6_3] at c37b0l))
                        (try (have c37b0l : _ := c37b0; rw [hl7_3] at c37b0l))
                        clear c37
                        by_cases c38 : 0 ≤ x8_1
                        ·rw [if_pos c38] at H
                         have c38b0 : decide (0 ≤ x8_1) = true := decide_eq_true c38
                         clear c38
                         by_cases c39 : x8_1 < (y277.length : Int)
                         ·rw [if_pos c39] at H
                          have c39b0 : decide (x8_1 < (y277.length : Int)) = true := decide_eq_true c39
                          (try (have c39b0l : _ := c39b0; rw [hl7_1] at c39b0l))
                          (try (have c39b0l : _ := c39b0; rw [hl6_3] at c39b0l))
                          (try (have c39b0l : _ := c39b0; rw [hl7_3] at c39b0l))
                          clear c39
                          obtain ⟨y281, hy281⟩ : ∃ y_ : List Int, y_ = (x6_3.set ((ji35) : Int).toNat (wrap64 ((rd x6_3 (ji35)) - (wrap64 ((rd y277 x8_1) * (rd l1 x70_3)))))) := ⟨_, rfl⟩
                          replace H : (spec_sgDivide.l1 k3 l1 y281 y277 x8_1 l1 (l1.length : Int) (wrap64 (x70_3 + 1))) = some (r1, r2) := by first | (rw [hy281]; with_reducible exact H) | (have H2_ := (Option.bind_some _ _).symm.trans H; rw [hy281]; with_reducible exact H2_) | (have H2_ := (Option.bind_some _ _).symm.trans H; with_reducible exact H2_) | with_reducible exact H | (rw [hy281]; exact H) | exact H
                          have Ny281 := Aside0.mk hy281
                          clear hy281
                          have H' := Aside0.mk H
                          clear H
                          have p278 : 0 ≤ (x70_3 : Int) := of_decide_eq_true am
                          have q278 : x70_3 < (l1.length : Int) := of_decide_eq_true am
                          obtain ⟨ad278, e278, hx278_0⟩ := Kd.at_int HR1.out x70_3 p278 q278
                          obtain rfl : ad275 = ad278 := (by injection e278)
                          replace hx278_0 := (HB.out.cell (World.block_lt_of_cell? w _ hx278_0)).trans hx278_0
                          replace p278 := eq_true p278
                          replace q278 := eq_true q278
                          try go_wp2
                          have n0_ := Aside0.mk (Kd.R_drew HO_6.out)
                          have n1_ := Aside0.mk (Kd.R_drew HO_7.out)
                          have n2_ := Aside0.mk (below_drew1 HB.out)
                          clear HO_6 HO_7 HB
                          have HO_6 := n0_
                          have HO_7 := n1_
                          have HB := n2_
                          clear n0_ n1_ n2_
                          have p279 : 0 ≤ ((ji35) : Int) := of_decide_eq_true am
                          have q279 : (ji35) < (x6_3.length : Int) := of_decide_eq_true am
                          obtain ⟨ad279, e279, hx279_0⟩ := Kd.at_int (Kd.R_reads' HO_6.out).2.2 (ji35) p279 q279
                          obtain rfl : ad274 = ad279 := (by injection e279)
                          replace p279 := eq_true p279
                          replace q279 := eq_true q279
                          have p280 : 0 ≤ (x8_1 : Int) := of_decide_eq_true am
                          have q280 : x8_1 < (y277.length : Int) := of_decide_eq_true am
                          obtain ⟨ad280, e280, hx280_0⟩ := Kd.at_int (Kd.R_reads' HO_7.out).2.2 x8_1 p280 q280
                          obtain rfl : (⟨go29, 0, none⟩ : Addr) = ad280 := (by injection e280)
                          (first | simp only [add_plain] at hx280_0 | simp only [add_at] at hx280_0 | simp only [Addr.add, Nat.zero_add] at hx280_0 | skip)
                          replace p280 := eq_true p280
                          replace q280 := eq_true q280
                          have p40 : 0 ≤ ((ji35) : Int) := of_decide_eq_true am
                          have q40 : ((ji35) : Int) < ((x6_3.length : Int) : Int) := of_decide_eq_true am
                          obtain ⟨go40, co40, eo40, gb40, gl40, cl40, HG40⟩ := Kd.R_form HO_6.out (by omega)
                          (first | cases eo40 | (injection eo40 with ea_ en_ ec_; (first | subst ea_ | (injection ea_ with ea_; subst ea_)); subst ec_; clear en_))
                          have GB40 := Aside0.mk gb40
                          have GG40 := Aside0.mk HG40
                          clear gb40 gl40 HG40
                          (first | simp only [add_plain] at hx274_0 | skip)
                          (first | simp only [add_plain] at hx279_0 | skip)
                          obtain ⟨hx40_0, hf40_0⟩ := Kd.R_celln 0 HO_6.out ((ji35) : Int) p40 q40
                          replace p40 := eq_true p40
                          replace q40 := eq_true q40
                          have HP42 := Kd.R_putn HO_6.out ((ji35) : Int) (wrap64 ((rd x6_3 (ji35)) - (wrap64 ((rd y277 x8_1) * (rd l1 x70_3)))))
                          rw [← Ny281.out] at HP42
                          have HQ42 := Aside0.mk HP42
                          clear HP42
                          refine start_ (n := 15) (S := fun w' => w'.cell? ⟨go40, ((ji35)).toNat, none⟩ = some (.int .i64 (rd x6_3 (ji35))) ∧ w'.cell? ⟨go29, (x8_1).toNat, none⟩ = some (.int .i64 (rd y277 x8_1))) (ds := [14]) #[fF, fF, fF, fF, fF, fF, fF, fF, fF, fF, fF, fF, fF, fF, fF] kf rfl rfl ⟨hx279_0, hx280_0⟩ (fun hHeld => ?_); refine with_tabW spec_sgDivide.tab15 spec_sgDivide.bits15 (fun HT_ HW_ => ?_)
                          generalize wr.drew = w41 at HO_6 HO_7 HB GG40 HQ42 hf40_0 hx279_0 hx280_0 hx40_0 hHeld ⊢
                          refine pq (i := 0) (N := some 75) #[tT, fF, fF, fF, fF, fF, fF, fF, fF, fF, fF, fF, fF, fF, fF] rfl rfl HT_.out ?_
                          refine pq (i := 1) (N := some 76) #[tT, tT, fF, fF, fF, fF, fF, fF, fF, fF, fF, fF, fF, fF, fF] rfl rfl HT_.out ?_
                          refine pq (i := 2) (N := some 77) #[tT, tT, tT, fF, fF, fF, fF, fF, fF, fF, fF, fF, fF, fF, fF] rfl rfl HT_.out ?_
                          refine pq (i := 3) (N := some 78) #[tT, tT, tT, tT, fF, fF, fF, fF, fF, fF, fF, fF, fF, fF, fF] rfl rfl HT_.out ?_
                          refine pq (i := 4) (N := some 79) #[tT, tT, tT, tT, tT, fF, fF, fF, fF, fF, fF, fF, fF, fF, fF] rfl rfl HT_.out ?_
                          refine pq (i := 6) (N := some 81) #[tT, tT, tT, tT, tT, fF, tT, fF, fF, fF, fF, fF, fF, fF, fF] rfl rfl HT_.out ?_
                          refine pq (i := 7) (N := some 82) #[tT, tT, tT, tT, tT, fF, tT, tT, fF, fF, fF, fF, fF, fF, fF] rfl rfl HT_.out ?_
                          refine pq (i := 8) (N := some 83) #[tT, tT, tT, tT, tT, fF, tT, tT, tT, fF, fF, fF, fF, fF, fF] rfl rfl HT_.out ?_
                          refine pq (i := 10) (N := some 85) #[tT, tT, tT, tT, tT, fF, tT, tT, tT, fF, tT, fF, fF, fF, fF] rfl rfl HT_.out ?_
                          refine tq2 (i := 5) (N := some 80) #[tT, tT, tT, tT, tT, tT, tT, tT, tT, fF, tT, fF, fF, fF, fF] rfl rfl HT_.out HW_.out hHeld ?_
                          refine tq2 (i := 9) (N := some 84) #[tT, tT, tT, tT, tT, tT, tT, tT, tT, tT, tT, fF, fF, fF, fF] rfl rfl HT_.out HW_.out hHeld ?_
                          refine pq (i := 11) (N := some 86) #[tT, tT, tT, tT, tT, tT, tT, tT, tT, tT, tT, tT, fF, fF, fF] rfl rfl HT_.out ?_
                          refine pq (i := 12) (N := some 87) #[tT, tT, tT, tT, tT, tT, tT, tT, tT, tT, tT, tT, tT, fF, fF] rfl rfl HT_.out ?_
                          refine pq (i := 13) (N := some 88) #[tT, tT, tT, tT, tT, tT, tT, tT, tT, tT, tT, tT, tT, tT, fF] rfl rfl HT_.out ?_
                          refine last_ (i := 14) (N := none) #[tT, tT, tT, tT, tT, tT, tT, tT, tT, tT, tT, tT, tT, tT, tT] rfl rfl (one_of HT_.out kf) (by decide) (fun K hK => ?_)
                          refine skip_ (w1 := ?_) (by rfl) rfl ?_ ?_
                          rotate_left
                          ·go_simp
                           rfl
                          refine hK.out _ _ ?_
                          clear hK K
                          refine done_ (done_of HT_.out kf) ?_
                          try go_wp2
                          (try simp only [← hl6_3, ← hl7_3])
                          (try rw [← add_plain go40 (((ji13) : Int).toNat)])
                          go_roundg k3
                          case measure => have := HK1.out; have := HJ18.out; have := HK3.out; omega
                          case rel => exact ⟨(y281), (wrap64 (x70_3 + 1)), sr, H', ⟨by have := HK1.out; have := HJ18.out; have := HK3.out; omega⟩, ⟨by (try simp only [hl7_1]); (try simp only [hl6_3]); (try simp only [hl7_3]); (with_reducible repeat (first | apply Kd.R_alloc | apply Kd.R_drewN | apply Kd.R_drew)); exact HQ42.out⟩, ⟨by (try simp only [hl7_1]); (try simp only [hl6_3]); (try simp only [hl7_3]); (with_reducible repeat (first | apply Kd.R_alloc | apply Kd.R_drewN | apply Kd.R_drew)); exact Kd.R_mono (Kd.R_far (p := ⟨go40, ((ji35) : Int).toNat, none⟩) (Kd.R_mono HO_7.out (fun k_ hk => (⟨hk, fun e_ => hk (by rw [e_]; rfl)⟩ : _ ∧ k_ ≠ go40))) (fun _ hk => hk.2) (.int .i64 (wrap64 ((rd x6_3 (ji35)) - (wrap64 ((rd y277 x8_1) * (rd l1 x70_3))))))) (fun _ hk => hk.1)⟩, ⟨bz1 GB40⟩⟩
                         ·rw [if_neg c39] at H
                          exact absurd H (by simp)
                        ·rw [if_neg c38] at H
                         exact absurd H (by simp)
                       ·rw [if_neg c37] at H
                        exact absurd H (by simp)
                      ·rw [if_neg c36] at H
                       exact absurd H (by simp)
                     ·rw [if_neg c34] at H
                      exact absurd H (by simp)
                    ·rw [if_neg c33] at H
                     exact absurd H (by simp)
                   ·rw [if_neg c32] at H
                    have c32b0 : decide (x70_3 < (l1.length : Int)) = false := decide_eq_false c32
                    (try (have c32b0l : _ := c32b0; rw [hl7_1] at c32b0l))
                    (try (have c32b0l : _ := c32b0; rw [hl6_3] at c32b0l))
                    (try (have c32b0l : _ := c32b0; rw [hl7_3] at c32b0l))
                    clear c32
                    have H' := Aside0.mk H
                    clear H
                    go_wp2
                    (try simp only [← hl7_1, ← hl6_3, ← hl7_3])
                    (try rw [← add_plain go40 (((ji13) : Int).toNat)])
                    go_roundg k3
                    case measure => have := HK1.out; have := HJ18.out; have := HK3.out; omega
                    case rel => exact ⟨(x6_3), (y277), (wrap64 (x8_1 - 1)), sr, H', ⟨by have := HK1.out; have := HJ18.out; have := HK3.out; omega⟩, ⟨by (try simp only [hl7_1]); (try simp only [hl6_3]); (try simp only [hl7_3]); (with_reducible repeat (first | apply Kd.R_alloc | apply Kd.R_drewN | apply Kd.R_drew)); exact HO_6.out⟩, ⟨by (try simp only [hl7_1]); (try simp only [hl6_3]); (try simp only [hl7_3]); (with_reducible repeat (first | apply Kd.R_alloc | apply Kd.R_drewN | apply Kd.R_drew)); exact HO_7.out⟩, ⟨bz⟩⟩
                ·rw [if_neg c28] at H
                 exact absurd H (by simp)
               ·rw [if_neg c27] at H
                exact absurd H (by simp)
          ·rw [if_neg c18] at H
           exact absurd H (by simp)
         ·rw [if_neg c17] at H
          exact absurd H (by simp)
        ·rw [if_neg c15] at H
         exact absurd H (by simp)
       ·rw [if_neg c14] at H
        exact absurd H (by simp)
      ·rw [if_neg c12] at H
       have c12b0 : decide (0 ≤ x8_1) = false := decide_eq_false c12
       clear c12
       obtain ⟨t273, A43, H⟩ := bi H
       simp only [Option.some.injEq, Prod.mk.injEq] at H
       obtain ⟨rfl, rfl⟩ := H
       obtain ⟨Ao44, co44, eo44⟩ := Kd.R_slice HO_6.out
       subst eo44
       go_wp2_with (first | ((with_reducible refine gate_callee (f := 76) rfl ?_); refine goesL_ (some 92) rfl rfl Try.func76 kf rfl #[.slice Ao44 x6_1.length co44, .int .i64 0, .int .i64 0] rfl sm ?_; (with_reducible refine (spec_l1All.calls k1 _ _ x6_1 0 0 t273 _ ?side1 ?side2 A43.out).mono ?_); (case side1 => exact cr HO_6); (case side2 => exact (Kd.R_reads' HO_6.out).2.1); rintro e w' ⟨rfl, ⟨nd, rfl⟩⟩; refine ⟨_, rfl, ?_⟩))
       go_ret2
       exact ⟨_, by first | rfl | (simp [errW_none, errW_some] <;> rfl) | (simp only [← hji5]; first | rfl | (simp [errW_none, errW_some] <;> rfl)) | (simp [*, errW_none, errW_some] <;> rfl), by (with_reducible repeat (first | apply Kd.R_alloc | apply Kd.R_drewN | apply Kd.R_drew)); exact Kd.R_mono HO_7.out (fun _ hk => trivial), bz⟩
   ·rw [if_neg c7] at H
    exact absurd H (by simp)
  ·rw [if_neg c6] at H
   exact absurd H (by simp)
end Go.Proofs.Ytcgcgifndkeeoaa.QSt
