import Derived.Test.YtgkpbbmacjgilaaZFnSinglesSq
import Derived.Test.YtgkpbbmacjgilaaZFnSinglesQSgsx2
import Derived.Test.YtgkpbbmacjgilaaZFnSinglesQSgsx4
namespace Go.Proofs.Ytgkpbbmacjgilaa.QSgs
open Go.RowKit Go.Proofs.YtgkpbbmacjgilaaW.PrintWords Go.Proofs.YtgkpbbmacjgilaaW.PrintLast Go.Proofs.YtgkpbbmacjgilaaW.PrintMore
attribute [local go_sem] max2_int min2_int max_two min_two max_three min_three max_four min_four
set_option linter.unusedVariables false
set_option linter.unusedSimpArgs false
mutual
def impl_quotient.l0 : Nat → List Int → List Int → Int → List Int → Int → Option (List Int × Bool)
 | 0, _, _, _, _, _ => none
 | k + 1, x1, x6, x7, x8, x9 => if x9 ≥ 0 then (if 0 ≤ (wrap64 ((wrap64 (x9 + (x1.length : Int))) - 1)) then (if (wrap64 ((wrap64 (x9 + (x1.length : Int))) - 1)) < (x6.length : Int) then (if x7 = 0 then (none) else (if (Int.tmod (rd x6 (wrap64 ((wrap64 (x9 + (x1.length : Int))) - 1))) x7) = 0 then (if 0 ≤ x9 then (if x9 < (x8.length : Int) then (impl_quotient.l1 k x1 x6 x7 (x8.set (x9 : Int).toNat (wrap64 (Int.tdiv (rd x6 (wrap64 ((wrap64 (x9 + (x1.length : Int))) - 1))) x7))) x9 x1 (x1.length : Int) 0) else (none)) else (none)) else (some (([] : List Int), false)))) else (none)) else (none)) else ((impl_stripped.f k x6).bind fun t411 => (if (t411.length : Int) > 0 then (some (([] : List Int), false)) else ((impl_stripped.f k x8).bind fun t414 => (some (t414, true)))))
def impl_quotient.l1 : Nat → List Int → List Int → Int → List Int → Int → List Int → Int → Int → Option (List Int × Bool)
 | 0, _, _, _, _, _, _, _, _ => none
 | k + 1, x1, x6, x7, x8, x9, x54, x55, x56 => if x56 < x55 then (if 0 ≤ x56 then (if x56 < (x54.length : Int) then (if 0 ≤ (wrap64 (x9 + x56)) then (if (wrap64 (x9 + x56)) < (x6.length : Int) then (if 0 ≤ x9 then (if x9 < (x8.length : Int) then (impl_quotient.l1 k x1 (x6.set ((wrap64 (x9 + x56)) : Int).toNat (wrap64 ((rd x6 (wrap64 (x9 + x56))) - (wrap64 ((rd x8 x9) * (rd x54 x56)))))) x7 x8 x9 x54 x55 (wrap64 (x56 + 1))) else (none)) else (none)) else (none)) else (none)) else (none)) else (none)) else (impl_quotient.l0 k x1 x6 x7 x8 (wrap64 (x9 - 1)))
end
def impl_quotient.f (k : Nat) (l0 : List Int) (l1 : List Int) : Option (List Int × Bool) := (slices_Clone_int_int.f l0).bind fun t398 => (if 0 ≤ (wrap64 ((l1.length : Int) - 1)) then (if (wrap64 ((l1.length : Int) - 1)) < (l1.length : Int) then (if 0 ≤ (mx (wrap64 ((wrap64 ((l0.length : Int) - (l1.length : Int))) + 1)) 0) then (if (mx (wrap64 ((wrap64 ((l0.length : Int) - (l1.length : Int))) + 1)) 0 : Int).toNat ≤ 35184372088832 then ((some (List.replicate (mx (wrap64 ((wrap64 ((l0.length : Int) - (l1.length : Int))) + 1)) 0 : Int).toNat 0 : List Int)).bind fun y402 => (impl_quotient.l0 k l1 t398 (rd l1 (wrap64 ((l1.length : Int) - 1))) y402 (wrap64 ((y402.length : Int) - 1)))) else (none)) else (none)) else (none)) else (none))
def impl_quotient.T14 : Bool × List (List Nat × List Nat) := (true, [([], []), ([], []), ([], []), ([1, 2], [1, 2]), ([0, 3], [0, 3]), ([4], [4]), ([], []), ([], []), ([6, 7], [6, 7]), ([8], [8]), ([], []), ([9, 10], [9, 10]), ([5, 11], [5, 11]), ([0, 3, 0, 1, 2, 3, 4, 5, 6, 7, 8, 9, 10, 11, 12], [0, 3]), ([13, 12, 0, 1, 2, 3, 4, 5, 6, 7, 8, 9, 10, 11, 12], [12, 13])])
def impl_quotient.B14 : List Nat := [0, 0, 0, 6, 15, 31, 0, 0, 192, 448, 0, 1984, 4095, 8191, 16383]
theorem impl_quotient.tab14 : rtab .any (opsOf Try.f33 14) = impl_quotient.T14 := by kernel_rfl
theorem impl_quotient.bits14 : waitsOk impl_quotient.T14.2 impl_quotient.B14 = true := by kernel_rfl
set_option maxHeartbeats 8000000 in
set_option maxRecDepth 100000 in
theorem impl_quotient.calls (k : Nat) (A0 : Option Addr) (c0 : Nat) (l0 : List Int) (A1 : Option Addr) (c1 : Nat) (l1 : List Int) (r1 : List Int) (r2 : Bool) (w : World) (hr0 : Kd.C (Kd.int .i64) w A0 l0.length l0) (hc0 : l0.length ≤ c0) (hr1 : Kd.C (Kd.int .i64) w A1 l1.length l1) (hc1 : l1.length ≤ c1) (h : impl_quotient.f k l0 l1 = some (r1, r2)) :
 Calls Try.prog 33 #[.slice A0 l0.length c0, .slice A1 l1.length c1] w fun e w' => ∃ v0_ : Value, e = .returned (.tuple #[v0_, .bool r2]) ∧ Kd.R (Kd.int .i64) 3 w' w.heap.size (fun _ => True) v0_ r1 ∧ Below w.heap.size w w' := by
 have HR0 := Aside0.mk hr0
 have HC0 := Aside0.mk hc0
 clear hr0 hc0
 have HR1 := Aside0.mk hr1
 have HC1 := Aside0.mk hc1
 clear hr1 hc1
 have HB := Aside0.mk (Below.refl w.heap.size w)
 have H : ((slices_Clone_int_int.f l0).bind fun t398 => (if 0 ≤ (wrap64 ((l1.length : Int) - 1)) then (if (wrap64 ((l1.length : Int) - 1)) < (l1.length : Int) then (if 0 ≤ (mx (wrap64 ((wrap64 ((l0.length : Int) - (l1.length : Int))) + 1)) 0) then (if (mx (wrap64 ((wrap64 ((l0.length : Int) - (l1.length : Int))) + 1)) 0 : Int).toNat ≤ 35184372088832 then ((some (List.replicate (mx (wrap64 ((wrap64 ((l0.length : Int) - (l1.length : Int))) + 1)) 0 : Int).toNat 0 : List Int)).bind fun y402 => (impl_quotient.l0 k l1 t398 (rd l1 (wrap64 ((l1.length : Int) - 1))) y402 (wrap64 ((y402.length : Int) - 1)))) else (none)) else (none)) else (none)) else (none))) = some (r1, r2) := h
 clear h
 obtain ⟨t398, A3, H⟩ := bi H
 obtain ⟨ji4, hji4⟩ : ∃ j_ : Int, (wrap64 ((l1.length : Int) - 1)) = j_ := ⟨_, rfl⟩
 first | rw [hji4] at H | simp only [hji4] at H
 (try rw [hji4] at A3)
 have hji4w : (IntKind.i64.wrap ((l1.length : Int) - 1)) = ji4 := (i64_w _).trans hji4
 by_cases c5 : 0 ≤ (ji4)
 ·rw [if_pos c5] at H
  have c5b0 : decide (0 ≤ (ji4)) = true := decide_eq_true c5
  clear c5
  by_cases c6 : (ji4) < (l1.length : Int)
  ·rw [if_pos c6] at H
   have c6b0 : decide ((ji4) < (l1.length : Int)) = true := decide_eq_true c6
   clear c6
   obtain ⟨ji7, hji7⟩ : ∃ j_ : Int, (mx (wrap64 ((wrap64 ((l0.length : Int) - (l1.length : Int))) + 1)) 0) = j_ := ⟨_, rfl⟩
   first | rw [hji7] at H | simp only [hji7] at H
   (try rw [hji7] at A3)
   (try (have hji7l : 0 ≤ ji7 := by (rw [← hji7]; unfold mx; (repeat' split) <;> omega)))
   (try (have hji7m : 0 ≤ ji7 := by omega))
   have hji7_ : (if (wrap64 ((wrap64 ((l0.length : Int) - (l1.length : Int))) + 1)) < 0 then 0 else (wrap64 ((wrap64 ((l0.length : Int) - (l1.length : Int))) + 1))) = ji7 := hji7
   by_cases c8 : 0 ≤ (ji7)
   ·rw [if_pos c8] at H
    have c8b0 := eq_true c8
    have c8b1 : decide (0 ≤ (ji7)) = true := decide_eq_true c8
    clear c8
    by_cases c9 : (ji7 : Int).toNat ≤ 35184372088832
    ·rw [if_pos c9] at H
     have c9b0 := eq_true c9
     have c9b1 : decide ((ji7 : Int).toNat ≤ 35184372088832) = true := decide_eq_true c9
     clear c9
     obtain ⟨y402, hy402⟩ : ∃ y_ : List Int, y_ = (List.replicate (ji7 : Int).toNat 0) := ⟨_, rfl⟩
     replace H : (impl_quotient.l0 k l1 t398 (rd l1 (ji4)) y402 (wrap64 ((y402.length : Int) - 1))) = some (r1, r2) := by first | (rw [hy402]; with_reducible exact H) | (have H2_ := (Option.bind_some _ _).symm.trans H; rw [hy402]; with_reducible exact H2_) | (have H2_ := (Option.bind_some _ _).symm.trans H; with_reducible exact H2_) | with_reducible exact H | (rw [hy402]; exact H) | exact H
     have Ny402 := Aside0.mk hy402
     clear hy402
     have H' := Aside0.mk H
     clear H
     go_enter Try.func33, Try.ntmps33
     go_wp2_with (first | ((with_reducible refine gate_callee (f := 54) rfl ?_); refine goesL_ (some 14) rfl rfl Try.func54 kf rfl #[.slice A0 l0.length c0] rfl sm ?_; (with_reducible refine (slices_Clone_int_int.calls _ _ l0 t398 _ ?side1 ?side2 A3.out).mono ?_); (case side1 => exact cc HR0); (case side2 => exact HC0.out); rintro e w10 ⟨v399, rfl, ho0, hb⟩; refine ⟨_, rfl, ?_⟩; have n0_ := Aside0.mk (Kd.R_lower ho0 (below_size bz)); have n1_ := Aside0.mk (below_step bz hb); clear HB; have HO400 := n0_; have HB := n1_; clear n0_ n1_; (try clear hb); (try clear hb2); (try clear hk); (try clear hi); (try clear ho0); have p401 : 0 ≤ ((ji4) : Int) := of_decide_eq_true am; have q401 : (ji4) < (l1.length : Int) := of_decide_eq_true am; obtain ⟨ad401, e401, hx401_0⟩ := Kd.at_int HR1.out (ji4) p401 q401; cases e401; replace hx401_0 := (HB.out.cell (World.block_lt_of_cell? w _ hx401_0)).trans hx401_0; replace p401 := eq_true p401; replace q401 := eq_true q401) | ((with_reducible refine gate_dst (N := 28) rfl ?_); refine Kd.R_make (Kd.int .i64) _ 3 rfl (N := 28) rfl 24 _ _ rfl ji7 rfl rfl Try.underlying24 (.int .i64 0) 8 info3 rfl (by decide) (by omega) 0 (ok := fun _ => True) (okp := fun _ => True) rfl (fun _ hk => hk) trivial (of_decide_eq_true am) (Nat.le_trans (Nat.mul_le_mul_right _ (of_decide_eq_true am : ji7.toNat ≤ 35184372088832)) (by omega)) (Below.refl _ _) (Nat.le_refl _) ?_; intro v403 w11 ho12 hb hg_ hnew_; clear hg_ hnew_; (first | rw [← Ny402.out] at ho12 | (simp only [Int.reduceToNat] at ho12; rw [← Ny402.out] at ho12)); have n0_ := Aside0.mk (Kd.R_elder' (kr HO400) (Kd.R_base ho12) hb); have n1_ := Aside0.mk (Kd.R_lower (Kd.R_new' ho12 (Kd.R_lt (kr HO400))) (below_size bz)); have n2_ := Aside0.mk (below_step bz hb); clear HO400; clear HB; have HO400 := n0_; have HO404 := n1_; have HB := n2_; clear n0_ n1_ n2_; clear hb ho12; obtain ⟨Ao13, co13, eo13⟩ := Kd.R_slice HO404.out; subst eo13))
     go_loopg [9] k (fun kq v9 w' => ∃ (x6_1 : List Int) (x8_1 : List Int) (x9_1 : Int), v9 = .int .i64 x9_1 ∧ Aside0 (impl_quotient.l0 kq l1 x6_1 (rd l1 (ji4)) x8_1 x9_1 = some (r1, r2)) ∧ Aside0 (kq ≤ k) ∧ Aside0 (Kd.R (Kd.int .i64) 3 w' w.heap.size (fun k_ => some k_ ≠ ((.slice Ao13 y402.length co13) : Value).ownBlock) v399 x6_1) ∧ Aside0 (Kd.R (Kd.int .i64) 3 w' w.heap.size (fun k_ => some k_ ≠ (v399 : Value).ownBlock) (.slice Ao13 y402.length co13) x8_1) ∧ Aside0 (Below w.heap.size w w'))
     case atStart => exact ⟨(t398), (y402), (wrap64 ((y402.length : Int) - 1)), sr, H', ⟨Nat.le_refl _⟩, ⟨by (with_reducible repeat (first | apply Kd.R_alloc | apply Kd.R_drewN | apply Kd.R_drew)); exact Kd.R_mono HO400.out (fun _ hk => hk.2)⟩, ⟨by (with_reducible repeat (first | apply Kd.R_alloc | apply Kd.R_drewN | apply Kd.R_drew)); exact Kd.R_mono HO404.out (fun _ hk => hk.2)⟩, ⟨bz⟩⟩
     case round =>
      clear H'
      try clear c1; try clear p2; try clear c3; try clear p4; try clear q4; try clear hx4; try clear c5; try clear c5b0; try clear c6; try clear c6b0; try clear p6; try clear c8; try clear c8b0; try clear c8b1; try clear c9; try clear c9b0; try clear c9b1; try clear hx401_0; try clear p401; try clear q401
      obtain ⟨x6_1, x8_1, x9_1, rfl, HA, HK1, HO_6, HO_8, HB⟩ := hrel
      have hl8_1 := (Kd.R_reads' HO_8.out).1
      rw [hl8_1] at HO_8
      (try simp only [hl8_1])
      (try simp only [hl8_1] at HO_6)
      cases gk with
      | zero => exact absurd HA.out (by simp [impl_quotient.l0])
      | succ k1 =>
       have H := HA.out
       clear HA
       simp only [impl_quotient.l0] at H
       by_cases c14 : x9_1 ≥ 0
       ·rw [if_pos c14] at H
        have c14b0 : decide (0 ≤ x9_1) = true := decide_eq_true c14
        clear c14
        obtain ⟨ji15, hji15⟩ : ∃ j_ : Int, (wrap64 ((wrap64 (x9_1 + (l1.length : Int))) - 1)) = j_ := ⟨_, rfl⟩
        first | rw [hji15] at H | simp only [hji15] at H
        have hji15w : (IntKind.i64.wrap ((wrap64 (x9_1 + (l1.length : Int))) - 1)) = ji15 := (i64_w _).trans hji15
        by_cases c16 : 0 ≤ (ji15)
        ·rw [if_pos c16] at H
         have c16b0 : decide (0 ≤ (ji15)) = true := decide_eq_true c16
         clear c16
         by_cases c17 : (ji15) < (x6_1.length : Int)
         ·rw [if_pos c17] at H
          have c17b0 : decide ((ji15) < (x6_1.length : Int)) = true := decide_eq_true c17
          (try (have c17b0l : _ := c17b0; rw [hl8_1] at c17b0l))
          clear c17
          by_cases c18 : (rd l1 (ji4)) = 0
          ·rw [if_pos c18] at H
           exact absurd H (by simp)
          ·rw [if_neg c18] at H
           have c18b0 : ((rd l1 (ji4)) == 0) = false := beq_eq_false_iff_ne.mpr c18
           have c18b1 : ((rd l1 (ji4)) != 0) = true := bne_iff_ne.mpr c18
           by_cases c19 : (Int.tmod (rd x6_1 (ji15)) (rd l1 (ji4))) = 0
           ·rw [if_pos c19] at H
            have c19b0 : ((Int.tmod (rd x6_1 (ji15)) (rd l1 (ji4))) == 0) = true := beq_iff_eq.mpr c19
            have c19b1 : ((Int.tmod (rd x6_1 (ji15)) (rd l1 (ji4))) != 0) = false := bne_eq_false_iff_eq.mpr c19
            clear c19
            by_cases c20 : 0 ≤ x9_1
            ·rw [if_pos c20] at H
             have c20b0 : decide (0 ≤ x9_1) = true := decide_eq_true c20
             clear c20
             by_cases c21 : x9_1 < (x8_1.length : Int)
             ·rw [if_pos c21] at H
              have c21b0 : decide (x9_1 < (x8_1.length : Int)) = true := decide_eq_true c21
              (try (have c21b0l : _ := c21b0; rw [hl8_1] at c21b0l))
              clear c21
              obtain ⟨y406, hy406⟩ : ∃ y_ : List Int, y_ = (x8_1.set (x9_1 : Int).toNat (wrap64 (Int.tdiv (rd x6_1 (ji15)) (rd l1 (ji4))))) := ⟨_, rfl⟩
              replace H : (impl_quotient.l1 k1 l1 x6_1 (rd l1 (ji4)) y406 x9_1 l1 (l1.length : Int) 0) = some (r1, r2) := by first | (rw [hy406]; with_reducible exact H) | (have H2_ := (Option.bind_some _ _).symm.trans H; rw [hy406]; with_reducible exact H2_) | (have H2_ := (Option.bind_some _ _).symm.trans H; with_reducible exact H2_) | with_reducible exact H | (rw [hy406]; exact H) | exact H
              have Ny406 := Aside0.mk hy406
              clear hy406
              have H' := Aside0.mk H
              clear H
              obtain ⟨Ao23, co23, eo23⟩ := Kd.R_slice HO_6.out
              subst eo23
              have p405 : 0 ≤ ((ji15) : Int) := of_decide_eq_true am
              have q405 : (ji15) < (x6_1.length : Int) := of_decide_eq_true am
              obtain ⟨ad405, e405, hx405_0⟩ := Kd.at_int (Kd.R_reads' HO_6.out).2.2 (ji15) p405 q405
              cases e405
              replace p405 := eq_true p405
              replace q405 := eq_true q405
              have p22 : 0 ≤ (x9_1 : Int) := of_decide_eq_true am
              have q22 : (x9_1 : Int) < ((x8_1.length : Int) : Int) := of_decide_eq_true am
              obtain ⟨go22, co22, eo22, gb22, gl22, cl22, HG22⟩ := Kd.R_form HO_8.out (by omega)
              (first | cases eo22 | (injection eo22 with ea_ en_ ec_; (first | subst ea_ | (injection ea_ with ea_; subst ea_)); subst ec_; clear en_))
              have GB22 := Aside0.mk gb22
              have GG22 := Aside0.mk HG22
              clear gb22 gl22 HG22
              obtain ⟨hx22_0, hf22_0⟩ := Kd.R_celln 0 HO_8.out (x9_1 : Int) p22 q22
              replace p22 := eq_true p22
              replace q22 := eq_true q22
              have HP24 := Kd.R_putg HO_8.out (x9_1 : Int) (wrap64 (Int.tdiv (rd x6_1 (ji15)) (rd l1 (ji4))))
              go_wp2_with (first | ((with_reducible refine gate_store (t := 3) (p := 53) rfl ?_); refine store_event (t := 3) (p := 53) (v := ?vo_w25) (w1 := (wr.setCell ⟨go22, (x9_1 : Int).toNat, none⟩ (.int .i64 (wrap64 (Int.tdiv (rd x6_1 (ji15)) (rd l1 (ji4))))))) ?hg ?ho ?hn ?hr ?_; (case ho => rfl); (case hg => rfl); (case hn => rfl); (case hr => first | (go_simp; done) | (go_simp; rfl)); intro w25 hw; have hg : wr.grownBy w25 (some go22) := (by rw [hw]; exact HP24.2); have hp_ : Kd.R (Kd.int .i64) 3 w25 w.heap.size (fun k_ => some k_ ≠ (.slice (some ad405) x6_1.length co23 : Value).ownBlock) (.slice (some ⟨go22, 0, none⟩) x8_1.length co13) y406 := (by rw [hw, Ny406.out]; exact HP24.1); clear HP24; have n0_ := Aside0.mk (Kd.R_after (v := (.slice (some ⟨go22, 0, none⟩) x8_1.length co13)) (v1 := (.slice (some ⟨go22, 0, none⟩) x8_1.length co13)) (ok := (fun _ => True)) (by (with_reducible repeat (first | apply Kd.R_alloc | apply Kd.R_drewN | apply Kd.R_drew)); exact Kd.R_mono HO_6.out (fun _ hk => ⟨trivial, hk⟩)) hg (.inl rfl)); have n1_ := Aside0.mk (hp_); have n2_ := Aside0.mk ((by rw [hw]; exact below_set (HB.out) GB22.out : Below w.heap.size w w25)); clear HO_6; clear HO_8; clear HB; have HO_6 := n0_; have HO_8 := n1_; have HB := n2_; clear n0_ n1_ n2_; clear hg hw hp_))
              go_loopg [56] k1 (fun kq v56 w' => ∃ (x6_2 : List Int) (x56_2 : Int), v56 = .int .i64 x56_2 ∧ Aside0 (impl_quotient.l1 kq l1 x6_2 (rd l1 (ji4)) y406 x9_1 l1 (l1.length : Int) x56_2 = some (r1, r2)) ∧ Aside0 (kq ≤ k1) ∧ Aside0 (Kd.R (Kd.int .i64) 3 w' w.heap.size (fun k_ => some k_ ≠ ((.slice (some ⟨go22, 0, none⟩) x8_1.length co13) : Value).ownBlock) (.slice (some ad405) x6_1.length co23) x6_2) ∧ Aside0 (Kd.R (Kd.int .i64) 3 w' w.heap.size (fun k_ => some k_ ≠ ((.slice (some ad405) x6_1.length co23) : Value).ownBlock) (.slice (some ⟨go22, 0, none⟩) x8_1.length co13) y406) ∧ Aside0 (Below w.heap.size w w'))
              case atStart => exact ⟨(x6_1), (0), sr, H', ⟨Nat.le_refl _⟩, ⟨by (try simp only [hl8_1]); (with_reducible repeat (first | apply Kd.R_alloc | apply Kd.R_drewN | apply Kd.R_drew)); exact Kd.R_mono HO_6.out (fun _ hk => hk.2)⟩, ⟨by (try simp only [hl8_1]); (with_reducible repeat (first | apply Kd.R_alloc | apply Kd.R_drewN | apply Kd.R_drew)); exact HO_8.out⟩, ⟨bz⟩⟩
              case round =>
               clear H'
               try clear c1; try clear c2; try clear p2; try clear q2; try clear hx2; try clear hf2; try clear c3; try clear p4; try clear q4; try clear hx4; try clear c5; try clear c5b0; try clear c6; try clear c6b0; try clear p6; try clear c8; try clear c8b0; try clear c8b1; try clear c9; try clear c9b0; try clear c9b1; try clear c14; try clear c14b0; try clear c16; try clear c16b0; try clear c17; try clear c17b0; try clear c18; try clear c18b0; try clear c18b1; try clear c19; try clear c19b0; try clear c19b1; try clear c20; try clear c20b0; try clear c21; try clear c21b0; try clear p22; try clear q22; try clear hx22; try clear hf22; try clear hx22_0; try clear hx401_0; try clear hx405_0; try clear p2; try clear p22; try clear p4; try clear p401; try clear p405; try clear p6; try clear q22; try clear q4; try clear q401; try clear q405
               obtain ⟨x6_2, x56_2, rfl, HA, HK2, HO_6, HO_8, HB⟩ := hrel
               have hl6_2 := (Kd.R_reads' HO_6.out).1
               rw [hl6_2] at HO_6
               (try simp only [hl6_2])
               (try simp only [hl6_2] at HO_8)
               have hl8_2 := (Kd.R_reads' HO_8.out).1
               rw [hl8_2] at HO_8
               (try simp only [hl8_2])
               (try simp only [hl8_2] at HO_6)
               cases gk with
               | zero => exact absurd HA.out (by simp [impl_quotient.l1])
               | succ k2 =>
                have H := HA.out
                clear HA
                simp only [impl_quotient.l1] at H
                by_cases c26 : x56_2 < (l1.length : Int)
                ·rw [if_pos c26] at H
                 have c26b0 : decide (x56_2 < (l1.length : Int)) = true := decide_eq_true c26
                 (try (have c26b0l : _ := c26b0; rw [hl8_1] at c26b0l))
                 (try (have c26b0l : _ := c26b0; rw [hl6_2] at c26b0l))
                 (try (have c26b0l : _ := c26b0; rw [hl8_2] at c26b0l))
                 clear c26
                 by_cases c27 : 0 ≤ x56_2
                 ·rw [if_pos c27] at H
                  have c27b0 : decide (0 ≤ x56_2) = true := decide_eq_true c27
                  clear c27
                  by_cases c28 : x56_2 < (l1.length : Int)
                  ·rw [if_pos c28] at H
                   have c28b0 : decide (x56_2 < (l1.length : Int)) = true := decide_eq_true c28
                   (try (have c28b0l : _ := c28b0; rw [hl8_1] at c28b0l))
                   (try (have c28b0l : _ := c28b0; rw [hl6_2] at c28b0l))
                   (try (have c28b0l : _ := c28b0; rw [hl8_2] at c28b0l))
                   clear c28
                   obtain ⟨ji29, hji29⟩ : ∃ j_ : Int, (wrap64 (x9_1 + x56_2)) = j_ := ⟨_, rfl⟩
                   first | rw [hji29] at H | simp only [hji29] at H
                   have hji29w : (IntKind.i64.wrap (x9_1 + x56_2)) = ji29 := (i64_w _).trans hji29
                   by_cases c30 : 0 ≤ (ji29)
                   ·rw [if_pos c30] at H
                    have c30b0 : decide (0 ≤ (ji29)) = true := decide_eq_true c30
                    clear c30
                    by_cases c31 : (ji29) < (x6_2.length : Int)
                    ·rw [if_pos c31] at H
                     have c31b0 : decide ((ji29) < (x6_2.length : Int)) = true := decide_eq_true c31
                     (try (have c31b0l : _ := c31b0; rw [hl8_1] at c31b0l))
                     (try (have c31b0l : _ := c31b0; rw [hl6_2] at c31b0l))
                     (try (have c31b0l : _ := c31b0; rw [hl8_2] at c31b0l))
                     clear c31
                     by_cases c32 : 0 ≤ x9_1
                     ·rw [if_pos c32] at H
                      have c32b0 : decide (0 ≤ x9_1) = true := decide_eq_true c32
                      clear c32
                      by_cases c33 : x9_1 < (y406.length : Int)
                      ·rw [if_pos c33] at H
                       have c33b0 : decide (x9_1 < (y406.length : Int)) = true := decide_eq_true c33
                       (try (have c33b0l : _ := c33b0; rw [hl8_1] at c33b0l))
                       (try (have c33b0l : _ := c33b0; rw [hl6_2] at c33b0l))
                       (try (have c33b0l : _ := c33b0; rw [hl8_2] at c33b0l))
                       clear c33
                       obtain ⟨y410, hy410⟩ : ∃ y_ : List Int, y_ = (x6_2.set ((ji29) : Int).toNat (wrap64 ((rd x6_2 (ji29)) - (wrap64 ((rd y406 x9_1) * (rd l1 x56_2)))))) := ⟨_, rfl⟩
                       replace H : (impl_quotient.l1 k2 l1 y410 (rd l1 (ji4)) y406 x9_1 l1 (l1.length : Int) (wrap64 (x56_2 + 1))) = some (r1, r2) := by first | (rw [hy410]; with_reducible exact H) | (have H2_ := (Option.bind_some _ _).symm.trans H; rw [hy410]; with_reducible exact H2_) | (have H2_ := (Option.bind_some _ _).symm.trans H; with_reducible exact H2_) | with_reducible exact H | (rw [hy410]; exact H) | exact H
                       have Ny410 := Aside0.mk hy410
                       clear hy410
                       have H' := Aside0.mk H
                       clear H
                       have p407 : 0 ≤ (x56_2 : Int) := of_decide_eq_true am
                       have q407 : x56_2 < (l1.length : Int) := of_decide_eq_true am
                       obtain ⟨ad407, e407, hx407_0⟩ := Kd.at_int HR1.out x56_2 p407 q407
                       obtain rfl : ad401 = ad407 := (by injection e407)
                       replace hx407_0 := (HB.out.cell (World.block_lt_of_cell? w _ hx407_0)).trans hx407_0
                       replace p407 := eq_true p407
                       replace q407 := eq_true q407
                       try go_wp2
                       have n0_ := Aside0.mk (Kd.R_drew HO_6.out)
                       have n1_ := Aside0.mk (Kd.R_drew HO_8.out)
                       have n2_ := Aside0.mk (below_drew1 HB.out)
                       clear HO_6 HO_8 HB
                       have HO_6 := n0_
                       have HO_8 := n1_
                       have HB := n2_
                       clear n0_ n1_ n2_
                       have p408 : 0 ≤ ((ji29) : Int) := of_decide_eq_true am
                       have q408 : (ji29) < (x6_2.length : Int) := of_decide_eq_true am
                       obtain ⟨ad408, e408, hx408_0⟩ := Kd.at_int (Kd.R_reads' HO_6.out).2.2 (ji29) p408 q408
                       obtain rfl : ad405 = ad408 := (by injection e408)
                       replace p408 := eq_true p408
                       replace q408 := eq_true q408
                       have p409 : 0 ≤ (x9_1 : Int) := of_decide_eq_true am
                       have q409 : x9_1 < (y406.length : Int) := of_decide_eq_true am
                       obtain ⟨ad409, e409, hx409_0⟩ := Kd.at_int (Kd.R_reads' HO_8.out).2.2 x9_1 p409 q409
                       obtain rfl : (⟨go22, 0, none⟩ : Addr) = ad409 := (by injection e409)
                       (first | simp only [add_plain] at hx409_0 | simp only [add_at] at hx409_0 | simp only [Addr.add, Nat.zero_add] at hx409_0 | skip)
                       replace p409 := eq_true p409
                       replace q409 := eq_true q409
                       have p34 : 0 ≤ ((ji29) : Int) := of_decide_eq_true am
                       have q34 : ((ji29) : Int) < ((x6_2.length : Int) : Int) := of_decide_eq_true am
                       obtain ⟨go34, co34, eo34, gb34, gl34, cl34, HG34⟩ := Kd.R_form HO_6.out (by omega)
                       (first | cases eo34 | (injection eo34 with ea_ en_ ec_; (first | subst ea_ | (injection ea_ with ea_; subst ea_)); subst ec_; clear en_))
                       have GB34 := Aside0.mk gb34
                       have GG34 := Aside0.mk HG34
                       clear gb34 gl34 HG34
                       (first | simp only [add_plain] at hx405_0 | skip)
                       (first | simp only [add_plain] at hx408_0 | skip)
                       obtain ⟨hx34_0, hf34_0⟩ := Kd.R_celln 0 HO_6.out ((ji29) : Int) p34 q34
                       replace p34 := eq_true p34
                       replace q34 := eq_true q34
                       have HP36 := Kd.R_putn HO_6.out ((ji29) : Int) (wrap64 ((rd x6_2 (ji29)) - (wrap64 ((rd y406 x9_1) * (rd l1 x56_2)))))
                       rw [← Ny410.out] at HP36
                       have HQ36 := Aside0.mk HP36
                       clear HP36
                       refine start_ (n := 15) (S := fun w' => w'.cell? ⟨go34, ((ji29)).toNat, none⟩ = some (.int .i64 (rd x6_2 (ji29))) ∧ w'.cell? ⟨go22, (x9_1).toNat, none⟩ = some (.int .i64 (rd y406 x9_1))) (ds := [14]) #[fF, fF, fF, fF, fF, fF, fF, fF, fF, fF, fF, fF, fF, fF, fF] kf rfl rfl ⟨hx408_0, hx409_0⟩ (fun hHeld => ?_); refine with_tabW impl_quotient.tab14 impl_quotient.bits14 (fun HT_ HW_ => ?_)
                       generalize wr.drew = w35 at HO_6 HO_8 HB GG34 HQ36 hf34_0 hx34_0 hx408_0 hx409_0 hHeld ⊢
                       refine pq (i := 0) (N := some 61) #[tT, fF, fF, fF, fF, fF, fF, fF, fF, fF, fF, fF, fF, fF, fF] rfl rfl HT_.out ?_
                       refine pq (i := 1) (N := some 62) #[tT, tT, fF, fF, fF, fF, fF, fF, fF, fF, fF, fF, fF, fF, fF] rfl rfl HT_.out ?_
                       refine pq (i := 2) (N := some 63) #[tT, tT, tT, fF, fF, fF, fF, fF, fF, fF, fF, fF, fF, fF, fF] rfl rfl HT_.out ?_
                       refine pq (i := 3) (N := some 64) #[tT, tT, tT, tT, fF, fF, fF, fF, fF, fF, fF, fF, fF, fF, fF] rfl rfl HT_.out ?_
                       refine pq (i := 4) (N := some 65) #[tT, tT, tT, tT, tT, fF, fF, fF, fF, fF, fF, fF, fF, fF, fF] rfl rfl HT_.out ?_
                       refine pq (i := 6) (N := some 67) #[tT, tT, tT, tT, tT, fF, tT, fF, fF, fF, fF, fF, fF, fF, fF] rfl rfl HT_.out ?_
                       refine pq (i := 7) (N := some 68) #[tT, tT, tT, tT, tT, fF, tT, tT, fF, fF, fF, fF, fF, fF, fF] rfl rfl HT_.out ?_
                       refine pq (i := 8) (N := some 69) #[tT, tT, tT, tT, tT, fF, tT, tT, tT, fF, fF, fF, fF, fF, fF] rfl rfl HT_.out ?_
                       refine pq (i := 10) (N := some 71) #[tT, tT, tT, tT, tT, fF, tT, tT, tT, fF, tT, fF, fF, fF, fF] rfl rfl HT_.out ?_
                       refine tq2 (i := 5) (N := some 66) #[tT, tT, tT, tT, tT, tT, tT, tT, tT, fF, tT, fF, fF, fF, fF] rfl rfl HT_.out HW_.out hHeld ?_
                       refine tq2 (i := 9) (N := some 70) #[tT, tT, tT, tT, tT, tT, tT, tT, tT, tT, tT, fF, fF, fF, fF] rfl rfl HT_.out HW_.out hHeld ?_
                       refine pq (i := 11) (N := some 72) #[tT, tT, tT, tT, tT, tT, tT, tT, tT, tT, tT, tT, fF, fF, fF] rfl rfl HT_.out ?_
                       refine pq (i := 12) (N := some 73) #[tT, tT, tT, tT, tT, tT, tT, tT, tT, tT, tT, tT, tT, fF, fF] rfl rfl HT_.out ?_
                       refine pq (i := 13) (N := some 74) #[tT, tT, tT, tT, tT, tT, tT, tT, tT, tT, tT, tT, tT, tT, fF] rfl rfl HT_.out ?_
                       refine last_ (i := 14) (N := none) #[tT, tT, tT, tT, tT, tT, tT, tT, tT, tT, tT, tT, tT, tT, tT] rfl rfl (one_of HT_.out kf) (by decide) (fun K hK => ?_)
                       refine skip_ (w1 := ?_) (by rfl) rfl ?_ ?_
                       rotate_left
                       ·go_simp
                        rfl
                       refine hK.out _ _ ?_
                       clear hK K
                       refine done_ (done_of HT_.out kf) ?_
                       try go_wp2
                       (try simp only [← hl6_2, ← hl8_2])
                       (try rw [← add_plain go34 (((ji15) : Int).toNat)])
                       go_roundg k2
                       case measure => have := HK1.out; have := HK2.out; omega
                       case rel => exact ⟨(y410), (wrap64 (x56_2 + 1)), sr, H', ⟨by have := HK1.out; have := HK2.out; omega⟩, ⟨by (try simp only [hl8_1]); (try simp only [hl6_2]); (try simp only [hl8_2]); (with_reducible repeat (first | apply Kd.R_alloc | apply Kd.R_drewN | apply Kd.R_drew)); exact HQ36.out⟩, ⟨by (try simp only [hl8_1]); (try simp only [hl6_2]); (try simp only [hl8_2]); (with_reducible repeat (first | apply Kd.R_alloc | apply Kd.R_drewN | apply Kd.R_drew)); exact Kd.R_mono (Kd.R_far (p := ⟨go34, ((ji29) : Int).toNat, none⟩) (Kd.R_mono HO_8.out (fun k_ hk => (⟨hk, fun e_ => hk (by rw [e_]; rfl)⟩ : _ ∧ k_ ≠ go34))) (fun _ hk => hk.2) (.int .i64 (wrap64 ((rd x6_2 (ji29)) - (wrap64 ((rd y406 x9_1) * (rd l1 x56_2))))))) (fun _ hk => hk.1)⟩, ⟨bz1 GB34⟩⟩
                      ·rw [if_neg c33] at H
                       exact absurd H (by simp)
                     ·rw [if_neg c32] at H
                      exact absurd H (by simp)
                    ·rw [if_neg c31] at H
                     exact absurd H (by simp)
                   ·rw [if_neg c30] at H
                    exact absurd H (by simp)
                  ·rw [if_neg c28] at H
                   exact absurd H (by simp)
                 ·rw [if_neg c27] at H
                  exact absurd H (by simp)
                ·rw [if_neg c26] at H
                 have c26b0 : decide (x56_2 < (l1.length : Int)) = false := decide_eq_false c26
                 (try (have c26b0l : _ := c26b0; rw [hl8_1] at c26b0l))
                 (try (have c26b0l : _ := c26b0; rw [hl6_2] at c26b0l))
                 (try (have c26b0l : _ := c26b0; rw [hl8_2] at c26b0l))
                 clear c26
                 have H' := Aside0.mk H
                 clear H
                 go_wp2
                 (try simp only [← hl8_1, ← hl6_2, ← hl8_2])
                 (try rw [← add_plain go34 (((ji15) : Int).toNat)])
                 go_roundg k2
                 case measure => have := HK1.out; have := HK2.out; omega
                 case rel => exact ⟨(x6_2), (y406), (wrap64 (x9_1 - 1)), sr, H', ⟨by have := HK1.out; have := HK2.out; omega⟩, ⟨by (try simp only [hl8_1]); (try simp only [hl6_2]); (try simp only [hl8_2]); (with_reducible repeat (first | apply Kd.R_alloc | apply Kd.R_drewN | apply Kd.R_drew)); exact HO_6.out⟩, ⟨by (try simp only [hl8_1]); (try simp only [hl6_2]); (try simp only [hl8_2]); (with_reducible repeat (first | apply Kd.R_alloc | apply Kd.R_drewN | apply Kd.R_drew)); exact HO_8.out⟩, ⟨bz⟩⟩
             ·rw [if_neg c21] at H
              exact absurd H (by simp)
            ·rw [if_neg c20] at H
             exact absurd H (by simp)
           ·rw [if_neg c19] at H
            have c19b0 : ((Int.tmod (rd x6_1 (ji15)) (rd l1 (ji4))) == 0) = false := beq_eq_false_iff_ne.mpr c19
            have c19b1 : ((Int.tmod (rd x6_1 (ji15)) (rd l1 (ji4))) != 0) = true := bne_iff_ne.mpr c19
            simp only [Option.some.injEq, Prod.mk.injEq] at H
            obtain ⟨rfl, rfl⟩ := H
            obtain ⟨Ao37, co37, eo37⟩ := Kd.R_slice HO_6.out
            subst eo37
            have p405 : 0 ≤ ((ji15) : Int) := of_decide_eq_true am
            have q405 : (ji15) < (x6_1.length : Int) := of_decide_eq_true am
            obtain ⟨ad405, e405, hx405_0⟩ := Kd.at_int (Kd.R_reads' HO_6.out).2.2 (ji15) p405 q405
            cases e405
            replace p405 := eq_true p405
            replace q405 := eq_true q405
            go_wp2
            go_ret2
            exact ⟨_, by first | rfl | (simp [errW_none, errW_some] <;> rfl) | (simp only [← hji4, ← hji7, ← hji15]; first | rfl | (simp [errW_none, errW_some] <;> rfl)) | (simp [*, errW_none, errW_some] <;> rfl), by first | exact Kd.R_nil _ _ _ _ _ | exact Kd.N_nil _ _ _ _ _ | exact Kd.V_nil _ _ _ _ _ | exact Kd.Q_nil _ _ _ _ _ | exact Kd.S_nil _ _ _ _ _, bz⟩
         ·rw [if_neg c17] at H
          exact absurd H (by simp)
        ·rw [if_neg c16] at H
         exact absurd H (by simp)
       ·rw [if_neg c14] at H
        have c14b0 : decide (0 ≤ x9_1) = false := decide_eq_false c14
        clear c14
        obtain ⟨t411, A38, H⟩ := bi H
        by_cases c39 : (t411.length : Int) > 0
        ·rw [if_pos c39] at H
         have c39b0 : decide (0 < (t411.length : Int)) = true := decide_eq_true c39
         (try (have c39b0l : _ := c39b0; rw [hl8_1] at c39b0l))
         (try (have c39b0l : _ := c39b0; rw [hl6_2] at c39b0l))
         (try (have c39b0l : _ := c39b0; rw [hl8_2] at c39b0l))
         have c39b1 : decide (0 < t411.length) = true := decide_eq_true (by omega)
         clear c39
         simp only [Option.some.injEq, Prod.mk.injEq] at H
         obtain ⟨rfl, rfl⟩ := H
         obtain ⟨Ao40, co40, eo40⟩ := Kd.R_slice HO_6.out
         subst eo40
         go_wp2_with (first | ((with_reducible refine gate_callee (f := 47) rfl ?_); refine goesL_ (some 77) rfl rfl Try.func47 kf rfl #[.slice Ao40 x6_1.length co40] rfl sm ?_; (with_reducible refine (impl_stripped.calls k1 (fun k_ => some k_ = (.slice Ao40 x6_1.length co40 : Value).ownBlock) _ _ x6_1 t411 _ ?side1 A38.out).mono ?_); (case side1 => exact Kd.R_V (Kd.R_tight rfl (HO_6.out))); rintro e w41 ⟨v412, rfl, ho0, hb⟩; refine ⟨_, rfl, ?_⟩; have n0_ := Aside0.mk (Kd.R_elder' (kr HO_6) (Kd.R_base ho0) hb); have n1_ := Aside0.mk (Kd.R_elder' (kr HO_8) (Kd.R_base ho0) hb); have n2_ := Aside0.mk (Kd.R_lower (Kd.R_new' (Kd.R_new' (Kd.R_mono (ok' := fun k_ => True) ho0 (fun _ hk_ => trivial)) (Kd.R_lt (kr HO_6))) (Kd.R_lt (kr HO_8))) (below_size bz)); have n3_ := Aside0.mk (below_step bz hb); clear HO_6; clear HO_8; clear HB; have HO_6 := n0_; have HO_8 := n1_; have HO413 := n2_; have HB := n3_; clear n0_ n1_ n2_ n3_; (try clear hb); (try clear hb2); (try clear hk); (try clear hi); (try clear ho0); obtain ⟨Ao42, co42, eo42⟩ := Kd.R_slice HO413.out; subst eo42))
         go_ret2
         exact ⟨_, by first | rfl | (simp [errW_none, errW_some] <;> rfl) | (simp only [← hji4, ← hji7]; first | rfl | (simp [errW_none, errW_some] <;> rfl)) | (simp [*, errW_none, errW_some] <;> rfl), by first | exact Kd.R_nil _ _ _ _ _ | exact Kd.N_nil _ _ _ _ _ | exact Kd.V_nil _ _ _ _ _ | exact Kd.Q_nil _ _ _ _ _ | exact Kd.S_nil _ _ _ _ _, bz⟩
        ·rw [if_neg c39] at H
         have c39b0 : decide (0 < (t411.length : Int)) = false := decide_eq_false c39
         (try (have c39b0l : _ := c39b0; rw [hl8_1] at c39b0l))
         (try (have c39b0l : _ := c39b0; rw [hl6_2] at c39b0l))
         (try (have c39b0l : _ := c39b0; rw [hl8_2] at c39b0l))
         have c39b1 : decide (0 < t411.length) = false := decide_eq_false (by omega)
         clear c39
         obtain ⟨t414, A43, H⟩ := bi H
         simp only [Option.some.injEq, Prod.mk.injEq] at H
         obtain ⟨rfl, rfl⟩ := H
         obtain ⟨Ao44, co44, eo44⟩ := Kd.R_slice HO_6.out
         subst eo44
         go_wp2_with (first | ((with_reducible refine gate_callee (f := 47) rfl ?_); refine goesL_ (some 77) rfl rfl Try.func47 kf rfl #[.slice Ao44 x6_1.length co44] rfl sm ?_; (with_reducible refine (impl_stripped.calls k1 (fun k_ => some k_ = (.slice Ao44 x6_1.length co44 : Value).ownBlock) _ _ x6_1 t411 _ ?side1 A38.out).mono ?_); (case side1 => exact Kd.R_V (Kd.R_tight rfl (HO_6.out))); rintro e w45 ⟨v412, rfl, ho0, hb⟩; refine ⟨_, rfl, ?_⟩; have n0_ := Aside0.mk (Kd.R_elder' (kr HO_6) (Kd.R_base ho0) hb); have n1_ := Aside0.mk (Kd.R_elder' (kr HO_8) (Kd.R_base ho0) hb); have n2_ := Aside0.mk (Kd.R_lower (Kd.R_new' (Kd.R_new' (Kd.R_mono (ok' := fun k_ => True) ho0 (fun _ hk_ => trivial)) (Kd.R_lt (kr HO_6))) (Kd.R_lt (kr HO_8))) (below_size bz)); have n3_ := Aside0.mk (below_step bz hb); clear HO_6; clear HO_8; clear HB; have HO_6 := n0_; have HO_8 := n1_; have HO413 := n2_; have HB := n3_; clear n0_ n1_ n2_ n3_; (try clear hb); (try clear hb2); (try clear hk); (try clear hi); (try clear ho0); obtain ⟨Ao46, co46, eo46⟩ := Kd.R_slice HO413.out; subst eo46) | ((with_reducible refine gate_callee (f := 47) rfl ?_); refine goesL_ (some 81) rfl rfl Try.func47 kf rfl #[.slice Ao13 x8_1.length co13] rfl sm ?_; (with_reducible refine (impl_stripped.calls k1 (fun k_ => some k_ = (.slice Ao13 x8_1.length co13 : Value).ownBlock) _ _ x8_1 t414 _ ?side1 A43.out).mono ?_); (case side1 => exact Kd.R_V (Kd.R_tight rfl (HO_8.out))); rintro e w47 ⟨v415, rfl, ho0, hb⟩; refine ⟨_, rfl, ?_⟩; have n0_ := Aside0.mk (Kd.R_elder' (kr HO_6) (Kd.R_base ho0) hb); have n1_ := Aside0.mk (Kd.R_elder' (kr HO_8) (Kd.R_base ho0) hb); have n2_ := Aside0.mk (Kd.R_elder' (kr HO413) (Kd.R_base ho0) hb); have n3_ := Aside0.mk (Kd.R_lower (Kd.R_new' (Kd.R_new' (Kd.R_new' (Kd.R_mono (ok' := fun k_ => True) ho0 (fun _ hk_ => trivial)) (Kd.R_lt (kr HO_6))) (Kd.R_lt (kr HO_8))) (Kd.R_lt (kr HO413))) (below_size bz)); have n4_ := Aside0.mk (below_step bz hb); clear HO_6; clear HO_8; clear HO413; clear HB; have HO_6 := n0_; have HO_8 := n1_; have HO413 := n2_; have HO416 := n3_; have HB := n4_; clear n0_ n1_ n2_ n3_ n4_; (try clear hb); (try clear hb2); (try clear hk); (try clear hi); (try clear ho0)))
         go_ret2
         exact ⟨_, by first | rfl | (simp [errW_none, errW_some] <;> rfl) | (simp only [← hji4, ← hji7]; first | rfl | (simp [errW_none, errW_some] <;> rfl)) | (simp [*, errW_none, errW_some] <;> rfl), by (with_reducible repeat (first | apply Kd.R_alloc | apply Kd.R_drewN | apply Kd.R_drew)); exact Kd.R_mono HO416.out (fun _ hk => trivial), bz⟩
    ·rw [if_neg c9] at H
     exact absurd H (by simp)
   ·rw [if_neg c8] at H
    exact absurd H (by simp)
  ·rw [if_neg c6] at H
   exact absurd H (by simp)
 ·rw [if_neg c5] at H
  exact absurd H (by simp)
def impl_QuotientOf.j0 : Nat → List Int → List Int → Bool → Option (List Int × Bool)
 | 0, _, _, _ => none
 | k + 1, x0, x1, x18 => if x18 = true then (some (([] : List Int), false)) else ((impl_quotient.f k x0 x1).bind fun bt419 => ((impl_singleResult.f k bt419.1 bt419.2).bind fun bt423 => (some (bt423.1, bt423.2))))
def impl_QuotientOf.f (k : Nat) (l0 : List Int) (l1 : List Int) : Option (List Int × Bool) := (impl_isSingle.f k l0).bind fun t417 => (if t417 = true then ((impl_isSingle.f k l1).bind fun t418 => (if t418 = true then (impl_QuotientOf.j0 k l0 l1 ((l1.length : Int) == 0)) else (impl_QuotientOf.j0 k l0 l1 true))) else (impl_QuotientOf.j0 k l0 l1 true))
set_option maxHeartbeats 8000000 in
set_option maxRecDepth 100000 in
theorem impl_QuotientOf.calls (k : Nat) (A0 : Option Addr) (c0 : Nat) (l0 : List Int) (A1 : Option Addr) (c1 : Nat) (l1 : List Int) (r1 : List Int) (r2 : Bool) (w : World) (hr0 : Kd.C (Kd.int .i64) w A0 l0.length l0) (hc0 : l0.length ≤ c0) (hr1 : Kd.C (Kd.int .i64) w A1 l1.length l1) (hc1 : l1.length ≤ c1) (h : impl_QuotientOf.f k l0 l1 = some (r1, r2)) :
 Calls Try.prog 11 #[.slice A0 l0.length c0, .slice A1 l1.length c1] w fun e w' => ∃ v0_ : Value, e = .returned (.tuple #[v0_, .bool r2]) ∧ Kd.R (Kd.int .i64) 3 w' w.heap.size (fun _ => True) v0_ r1 ∧ Below w.heap.size w w' := by
 have HR0 := Aside0.mk hr0
 have HC0 := Aside0.mk hc0
 clear hr0 hc0
 have HR1 := Aside0.mk hr1
 have HC1 := Aside0.mk hc1
 clear hr1 hc1
 have HB := Aside0.mk (Below.refl w.heap.size w)
 have H : ((impl_isSingle.f k l0).bind fun t417 => (if t417 = true then ((impl_isSingle.f k l1).bind fun t418 => (if t418 = true then (impl_QuotientOf.j0 k l0 l1 ((l1.length : Int) == 0)) else (impl_QuotientOf.j0 k l0 l1 true))) else (impl_QuotientOf.j0 k l0 l1 true))) = some (r1, r2) := h
 clear h
 have HC3 := Aside0.mk H
 clear H
 go_enter Try.func11, Try.ntmps11
 go_upto_region 1 with (fail)
 go_cut [18] (fun v18 wc => ∃ (kq : Nat) (x18_2 : Bool), v18 = .bool x18_2 ∧ Aside0 (impl_QuotientOf.j0 kq l0 l1 x18_2 = some (r1, r2)) ∧ Aside0 (kq ≤ k) ∧ Aside0 (Below w.heap.size w wc))
 case first =>
  have H := HC3.out
  clear HC3
  obtain ⟨t417, A4, H⟩ := bi H
  by_cases c5 : t417 = true
  ·subst c5
   rw [if_pos rfl] at H
   obtain ⟨t418, A6, H⟩ := bi H
   by_cases c7 : t418 = true
   ·subst c7
    rw [if_pos rfl] at H
    have H' := Aside0.mk H
    clear H
    go_wp2_with (first | ((with_reducible refine gate_callee (f := 25) rfl ?_); refine goesL_ (some 7) rfl rfl Try.func25 kf rfl #[.slice A0 l0.length c0] rfl sm ?_; (with_reducible refine (impl_isSingle.calls k _ _ l0 true _ ?side1 ?side2 A4.out).mono ?_); (case side1 => exact cb HR0); (case side2 => exact HC0.out); rintro e w' ⟨rfl, ⟨nd, rfl⟩⟩; refine ⟨_, rfl, ?_⟩) | (go_at_call 25; (with_reducible refine (impl_isSingle.calls k _ _ l1 true _ ?side1 ?side2 A6.out).mono ?_); (case side1 => repeat (first | exact (Kd.C_below HR1.out bz) | (with_reducible refine Kd.C_alloc ?_ _) | (with_reducible refine Kd.C_drewN ?_ _) | (with_reducible refine Kd.C_drew ?_))); (case side2 => exact HC1.out); rintro e w' ⟨rfl, ⟨nd, rfl⟩⟩))
    go_meet
    case rel => exact ⟨_, (((l1.length : Int) == 0)), sr, H', ⟨by first | omega | exact Nat.le_refl _⟩, ⟨bz⟩⟩
   ·replace c7 := Bool.eq_false_iff.mpr c7
    subst c7
    rw [if_neg (show ¬ (false = true) by decide)] at H
    have H' := Aside0.mk H
    clear H
    go_wp2_with (first | ((with_reducible refine gate_callee (f := 25) rfl ?_); refine goesL_ (some 7) rfl rfl Try.func25 kf rfl #[.slice A0 l0.length c0] rfl sm ?_; (with_reducible refine (impl_isSingle.calls k _ _ l0 true _ ?side1 ?side2 A4.out).mono ?_); (case side1 => exact cb HR0); (case side2 => exact HC0.out); rintro e w' ⟨rfl, ⟨nd, rfl⟩⟩; refine ⟨_, rfl, ?_⟩) | (go_at_call 25; (with_reducible refine (impl_isSingle.calls k _ _ l1 false _ ?side1 ?side2 A6.out).mono ?_); (case side1 => repeat (first | exact (Kd.C_below HR1.out bz) | (with_reducible refine Kd.C_alloc ?_ _) | (with_reducible refine Kd.C_drewN ?_ _) | (with_reducible refine Kd.C_drew ?_))); (case side2 => exact HC1.out); rintro e w' ⟨rfl, ⟨nd, rfl⟩⟩))
    go_meet
    case rel => exact ⟨_, (true), sr, H', ⟨by first | omega | exact Nat.le_refl _⟩, ⟨bz⟩⟩
  ·replace c5 := Bool.eq_false_iff.mpr c5
   subst c5
   rw [if_neg (show ¬ (false = true) by decide)] at H
   have H' := Aside0.mk H
   clear H
   go_wp2_with (first | ((with_reducible refine gate_callee (f := 25) rfl ?_); refine goesL_ (some 7) rfl rfl Try.func25 kf rfl #[.slice A0 l0.length c0] rfl sm ?_; (with_reducible refine (impl_isSingle.calls k _ _ l0 false _ ?side1 ?side2 A4.out).mono ?_); (case side1 => exact cb HR0); (case side2 => exact HC0.out); rintro e w' ⟨rfl, ⟨nd, rfl⟩⟩; refine ⟨_, rfl, ?_⟩))
   go_meet
   case rel => exact ⟨_, (true), sr, H', ⟨by first | omega | exact Nat.le_refl _⟩, ⟨bz⟩⟩
 case rest =>
  clear HC3
  try clear c1; try clear c2; try clear p2; try clear c5; try clear c7
  obtain ⟨kq, x18_2, rfl, HA, HJ2, HB⟩ := hcut
  cases kq with
  | zero => exact absurd HA.out (by simp [impl_QuotientOf.j0])
  | succ kj2 =>
   have H := HA.out
   clear HA
   simp only [impl_QuotientOf.j0] at H
   by_cases c8 : x18_2 = true
   ·subst c8
    rw [if_pos rfl] at H
    simp only [Option.some.injEq, Prod.mk.injEq] at H
    obtain ⟨rfl, rfl⟩ := H
    go_wp2
    go_ret2
    exact ⟨_, er, by first | exact Kd.R_nil _ _ _ _ _ | exact Kd.N_nil _ _ _ _ _ | exact Kd.V_nil _ _ _ _ _ | exact Kd.Q_nil _ _ _ _ _ | exact Kd.S_nil _ _ _ _ _, bz⟩
   ·replace c8 := Bool.eq_false_iff.mpr c8
    subst c8
    rw [if_neg (show ¬ (false = true) by decide)] at H
    obtain ⟨⟨t419, t420⟩, A9, H⟩ := bi H
    try dsimp only at H
    obtain ⟨⟨t423, t426⟩, A10, H⟩ := bi H
    try dsimp only at H
    simp only [Option.some.injEq, Prod.mk.injEq] at H
    obtain ⟨rfl, rfl⟩ := H
    go_wp2_with (first | ((with_reducible refine gate_callee (f := 33) rfl ?_); refine goesL_ (some 21) rfl rfl Try.func33 kf rfl #[.slice A0 l0.length c0, .slice A1 l1.length c1] rfl sm ?_; (with_reducible refine (impl_quotient.calls kj2 _ _ l0 _ _ l1 t419 t420 _ ?side1 ?side2 ?side3 ?side4 A9.out).mono ?_); (case side1 => exact cb HR0); (case side2 => exact HC0.out); (case side3 => exact cb HR1); (case side4 => exact HC1.out); rintro e w11 ⟨v421, rfl, ho0, hb⟩; refine ⟨_, rfl, ?_⟩; have n0_ := Aside0.mk (Kd.R_lower ho0 (below_size bz)); have n1_ := Aside0.mk (below_step bz hb); clear HB; have HO422 := n0_; have HB := n1_; clear n0_ n1_; (try clear hb); (try clear hb2); (try clear hk); (try clear hi); (try clear ho0); obtain ⟨Ao12, co12, eo12⟩ := Kd.R_slice HO422.out; subst eo12) | ((with_reducible refine gate_callee (f := 26) rfl ?_); refine goesL_ (some 24) rfl rfl Try.func26 kf rfl #[.slice Ao12 t419.length co12, .bool t420] rfl sm ?_; (with_reducible refine (impl_singleResult.calls kj2 (fun k_ => some k_ = (.slice Ao12 t419.length co12 : Value).ownBlock) (.slice Ao12 t419.length co12) t419 t420 t423 t426 w _ ?side1 ?side2 A10.out).mono ?_); (case side1 => repeat (first | (with_reducible first | exact HB.out | apply below_alloc | apply pw_below_drewN | apply below_drew1) | exact HB.out)); (case side2 => exact Kd.R_tight rfl HO422.out); rintro e w13 ⟨v424, rfl, ho0, hb, hkp⟩; refine ⟨_, rfl, ?_⟩; have n0_ := Aside0.mk (Kd.R_mono (ok' := fun k_ => True) ho0 (fun k_ hk_ => trivial)); have n1_ := Aside0.mk (hb); clear HB; clear HO422; have HO425 := n0_; have HB := n1_; clear n0_ n1_; (try clear hb); (try clear hkp); (try clear ho0)))
    go_ret2
    exact ⟨_, er, by (with_reducible repeat (first | apply Kd.R_alloc | apply Kd.R_drewN | apply Kd.R_drew)); exact HO425.out, bz⟩
end Go.Proofs.Ytgkpbbmacjgilaa.QSgs
