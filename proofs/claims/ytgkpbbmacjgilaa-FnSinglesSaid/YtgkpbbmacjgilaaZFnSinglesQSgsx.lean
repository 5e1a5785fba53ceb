import Derived.Test.YtgkpbbmacjgilaaZFnSinglesSq
import Derived.Test.YtgkpbbmacjgilaaZFnSinglesQSgsx2
import Derived.Test.YtgkpbbmacjgilaaZFnSinglesQSgsx4
import Derived.Test.YtgkpbbmacjgilaaZFnSinglesQSgsx7
import Derived.Test.YtgkpbbmacjgilaaZFnSinglesQSgsx13
import Derived.Test.YtgkpbbmacjgilaaZFnSinglesQSgsx9
import Derived.Test.YtgkpbbmacjgilaaZFnSinglesQSgsx10
import Derived.Test.YtgkpbbmacjgilaaZFnSinglesQSgsx12
import Derived.Test.YtgkpbbmacjgilaaZFnSinglesQSgsx3
import Derived.Test.YtgkpbbmacjgilaaZFnSinglesQSgsx5
namespace Go.Proofs.Ytgkpbbmacjgilaa.QSgs
open Go.RowKit Go.Proofs.YtgkpbbmacjgilaaW.PrintWords Go.Proofs.YtgkpbbmacjgilaaW.PrintLast Go.Proofs.YtgkpbbmacjgilaaW.PrintMore
attribute [local go_sem] max2_int min2_int max_two min_two max_three min_three max_four min_four
set_option linter.unusedVariables false
set_option linter.unusedSimpArgs false
mutual
def laws_FnSingles.j0 : Nat → List Int → List Int → List Int → List Int → Bool → Bool → Option (Bool)
 | 0, _, _, _, _, _, _ => none
 | k + 1, x1, x5, x6, x11, x12, x103 => if x103 = true then (none) else (if x12 = true then (laws_FnSingles.j1 k x1 x5 x6 x11 (decide ((x6.length : Int) > 0))) else (laws_FnSingles.j1 k x1 x5 x6 x11 false))
def laws_FnSingles.j1 : Nat → List Int → List Int → List Int → List Int → Bool → Option (Bool)
 | 0, _, _, _, _, _ => none
 | k + 1, x1, x5, x6, x11, x109 => if x109 = true then ((impl_QuotientOf.f k x11 x6).bind fun bt610 => (if bt610.2 = true then ((laws_sameInts.f k bt610.1 x5).bind fun t614 => (if t614 = true then (laws_FnSingles.j2 k x1) else (none))) else (none))) else (laws_FnSingles.j2 k x1)
def laws_FnSingles.j2 : Nat → List Int → Option (Bool)
 | 0, _ => none
 | k + 1, x1 => (spec_DrawCommonDivisor.f k x1).bind fun bt615 => ((impl_CommonDivisor.f k bt615.1 bt615.2).bind fun bt621 => ((spec_CommonDivisor.f k bt615.1 bt615.2).bind fun bt625 => (if (bt621.2 != bt625.2) = true then (none) else ((laws_sameInts.f k bt621.1 bt625.1).bind fun t629 => (if t629 = true then (if bt621.2 = true then ((impl_ContentOf.f k bt621.1).bind fun bt630 => (if bt630.2 = true then (if bt630.1 = 1 then (if 0 ≤ (wrap64 ((bt625.1.length : Int) - 1)) then (if (wrap64 ((bt625.1.length : Int) - 1)) < (bt625.1.length : Int) then (if (rd bt625.1 (wrap64 ((bt625.1.length : Int) - 1))) < 1 then (none) else ((some (([bt615.1, bt615.2] : List (List Int)) : List (List Int))).bind fun y633 => (laws_FnSingles.l0 k x1 bt621.1 bt625.1 y633 (y633.length : Int) 0))) else (none)) else (none)) else (none)) else (none))) else (laws_FnSingles.j4 k x1)) else (none))))))
def laws_FnSingles.j4 : Nat → List Int → Option (Bool)
 | 0, _ => none
 | k + 1, x1 => (spec_DrawQuotientOf.f k x1).bind fun bt646 => ((impl_QuotientOf.f k bt646.1 bt646.2).bind fun bt652 => ((spec_QuotientOf.f k bt646.1 bt646.2).bind fun bt656 => (if (bt652.2 != bt656.2) = true then (none) else ((laws_sameInts.f k bt652.1 bt656.1).bind fun t660 => (if t660 = true then (if bt652.2 = true then ((impl_MultiplySingle.f k bt652.1 bt646.2).bind fun bt661 => (if bt661.2 = true then ((laws_sameInts.f k bt661.1 bt646.1).bind fun t665 => (if t665 = true then (laws_FnSingles.j5 k x1) else (none))) else (none))) else (laws_FnSingles.j5 k x1)) else (none))))))
def laws_FnSingles.j5 : Nat → List Int → Option (Bool)
 | 0, _ => none
 | k + 1, x1 => (spec_DrawDeriveSingle.f k x1).bind fun t666 => ((impl_DeriveSingle.f k t666).bind fun bt669 => ((spec_DeriveSingle.f k t666).bind fun bt673 => (if (bt669.2 == bt673.2) = true then ((laws_sameInts.f k bt669.1 bt673.1).bind fun t677 => (if t677 = true then ((impl_IsSingle.f k t666).bind fun t678 => ((spec_IsSingle.f k t666).bind fun t679 => (some (t678 == t679)))) else (none))) else (none))))
def laws_FnSingles.l0 : Nat → List Int → List Int → List Int → List (List Int) → Int → Int → Option (Bool)
 | 0, _, _, _, _, _, _ => none
 | k + 1, x1, x19, x21, x173, x174, x175 => if x175 < x174 then (if 0 ≤ x175 then (if x175 < (x173.length : Int) then ((impl_RemainderOf.f k (rd_L2 x173 x175) x19).bind fun bt637 => ((spec_RemainderOf.f k (rd_L2 x173 x175) x21).bind fun bt641 => (if (bt637.2 != bt641.2) = true then (none) else ((laws_sameInts.f k bt637.1 bt641.1).bind fun t645 => (if t645 = true then (if bt641.2 = true then (if (bt641.1.length : Int) > 0 then (none) else (laws_FnSingles.l0 k x1 x19 x21 x173 x174 (wrap64 (x175 + 1)))) else (laws_FnSingles.l0 k x1 x19 x21 x173 x174 (wrap64 (x175 + 1)))) else (none)))))) else (none)) else (none)) else (laws_FnSingles.j4 k x1)
end
def laws_FnSingles.f (k : Nat) (l0 : List Int) (l1 : List Int) : Option (Bool) := (laws_big.f l0 l1).bind fun t585 => (if t585 = true then (some true) else ((spec_DrawRemainderOf.f k l0).bind fun bt586 => ((impl_RemainderOf.f k bt586.1 bt586.2).bind fun bt592 => ((spec_RemainderOf.f k bt586.1 bt586.2).bind fun bt596 => ((impl_MultiplySingle.f k bt586.1 bt586.2).bind fun bt600 => ((spec_MultiplySingle.f k bt586.1 bt586.2).bind fun bt604 => (if (bt592.2 != bt596.2) = true then (none) else ((laws_sameInts.f k bt592.1 bt596.1).bind fun t608 => (if t608 = true then (if (bt600.2 != bt604.2) = true then (none) else ((laws_sameInts.f k bt600.1 bt604.1).bind fun t609 => (if t609 = true then (if bt592.2 = true then (laws_FnSingles.j0 k l1 bt586.1 bt586.2 bt600.1 bt600.2 (decide ((bt596.1.length : Int) ≥ (bt586.2.length : Int)))) else (laws_FnSingles.j0 k l1 bt586.1 bt586.2 bt600.1 bt600.2 false)) else (none)))) else (none))))))))))
set_option maxHeartbeats 8000000 in
set_option maxRecDepth 100000 in
theorem laws_FnSingles.calls (k : Nat) (A0 : Option Addr) (c0 : Nat) (l0 : List Int) (A1 : Option Addr) (c1 : Nat) (l1 : List Int) (r : Bool) (w : World) (hr0 : Kd.C (Kd.int .u8) w A0 l0.length l0) (hc0 : l0.length ≤ c0) (hr1 : Kd.C (Kd.int .u8) w A1 l1.length l1) (hc1 : l1.length ≤ c1) (h : laws_FnSingles.f k l0 l1 = some r) :
 Calls Try.prog 3 #[.slice A0 l0.length c0, .slice A1 l1.length c1] w fun e w' => e = .returned (.bool r) ∧ Below w.heap.size w w' := by
 have HR0 := Aside0.mk hr0
 have HC0 := Aside0.mk hc0
 clear hr0 hc0
 have HR1 := Aside0.mk hr1
 have HC1 := Aside0.mk hc1
 clear hr1 hc1
 have HB := Aside0.mk (Below.refl w.heap.size w)
 have H : ((laws_big.f l0 l1).bind fun t585 => (if t585 = true then (some true) else ((spec_DrawRemainderOf.f k l0).bind fun bt586 => ((impl_RemainderOf.f k bt586.1 bt586.2).bind fun bt592 => ((spec_RemainderOf.f k bt586.1 bt586.2).bind fun bt596 => ((impl_MultiplySingle.f k bt586.1 bt586.2).bind fun bt600 => ((spec_MultiplySingle.f k bt586.1 bt586.2).bind fun bt604 => (if (bt592.2 != bt596.2) = true then (none) else ((laws_sameInts.f k bt592.1 bt596.1).bind fun t608 => (if t608 = true then (if (bt600.2 != bt604.2) = true then (none) else ((laws_sameInts.f k bt600.1 bt604.1).bind fun t609 => (if t609 = true then (if bt592.2 = true then (laws_FnSingles.j0 k l1 bt586.1 bt586.2 bt600.1 bt600.2 (decide ((bt596.1.length : Int) ≥ (bt586.2.length : Int)))) else (laws_FnSingles.j0 k l1 bt586.1 bt586.2 bt600.1 bt600.2 false)) else (none)))) else (none))))))))))) = some r := h
 clear h
 obtain ⟨t585, A3, H⟩ := bi H
 by_cases c4 : t585 = true
 ·subst c4
  rw [if_pos rfl] at H
  obtain rfl := Option.some.inj H
  go_enter Try.func3, Try.ntmps3
  go_wp2_with (first | ((with_reducible refine gate_callee (f := 4) rfl ?_); refine goesL_ (some 46) rfl rfl Try.func4 kf rfl #[.slice A0 l0.length c0, .slice A1 l1.length c1] rfl sm ?_; (with_reducible refine (laws_big.calls _ _ l0 _ _ l1 true _ ?side1 ?side2 ?side3 ?side4 A3.out).mono ?_); (case side1 => exact cc HR0); (case side2 => exact HC0.out); (case side3 => exact cc HR1); (case side4 => exact HC1.out); rintro e w' ⟨rfl, ⟨nd, rfl⟩⟩; refine ⟨_, rfl, ?_⟩))
  go_ret
  exact ⟨er, bz⟩
 ·replace c4 := Bool.eq_false_iff.mpr c4
  subst c4
  rw [if_neg (show ¬ (false = true) by decide)] at H
  obtain ⟨⟨t586, t587⟩, A5, H⟩ := bi H
  try dsimp only at H
  obtain ⟨⟨t592, t593⟩, A6, H⟩ := bi H
  try dsimp only at H
  obtain ⟨⟨t596, t597⟩, A7, H⟩ := bi H
  try dsimp only at H
  obtain ⟨⟨t600, t601⟩, A8, H⟩ := bi H
  try dsimp only at H
  obtain ⟨⟨t604, t605⟩, A9, H⟩ := bi H
  try dsimp only at H
  by_cases c10 : (t593 != t597) = true
  ·rw [if_pos c10] at H
   exact absurd H (by simp)
  ·rw [if_neg c10] at H
   have c10b0 : (t593 != t597) = false := by simpa using c10
   (try (have c10b1 : decide (t593 = t597) = true := by simpa using c10))
   (try (have c10b2 : (t593 == t597) = true := by simpa using c10))
   clear c10
   obtain ⟨t608, A11, H⟩ := bi H
   by_cases c12 : t608 = true
   ·subst c12
    rw [if_pos rfl] at H
    by_cases c13 : (t601 != t605) = true
    ·rw [if_pos c13] at H
     exact absurd H (by simp)
    ·rw [if_neg c13] at H
     have c13b0 : (t601 != t605) = false := by simpa using c13
     (try (have c13b1 : decide (t601 = t605) = true := by simpa using c13))
     (try (have c13b2 : (t601 == t605) = true := by simpa using c13))
     clear c13
     obtain ⟨t609, A14, H⟩ := bi H
     by_cases c15 : t609 = true
     ·subst c15
      rw [if_pos rfl] at H
      have HC16 := Aside0.mk H
      clear H
      go_enter Try.func3, Try.ntmps3
      go_upto_region 10 with (first | ((with_reducible refine gate_callee (f := 4) rfl ?_); refine goesL_ (some 46) rfl rfl Try.func4 kf rfl #[.slice A0 l0.length c0, .slice A1 l1.length c1] rfl sm ?_; (with_reducible refine (laws_big.calls _ _ l0 _ _ l1 false _ ?side1 ?side2 ?side3 ?side4 A3.out).mono ?_); (case side1 => exact cc HR0); (case side2 => exact HC0.out); (case side3 => exact cc HR1); (case side4 => exact HC1.out); rintro e w' ⟨rfl, ⟨nd, rfl⟩⟩; refine ⟨_, rfl, ?_⟩) | ((with_reducible refine gate_callee (f := 5) rfl ?_); refine goesL_ (some 49) rfl rfl Try.func5 kf rfl #[.slice A0 l0.length c0] rfl sm ?_; (with_reducible refine (spec_DrawRemainderOf.calls k _ _ l0 t586 t587 _ ?side1 ?side2 A5.out).mono ?_); (case side1 => exact cc HR0); (case side2 => exact HC0.out); rintro e w17 ⟨v588, v590, rfl, ho0, ho1, hb⟩; refine ⟨_, rfl, ?_⟩; have n0_ := Aside0.mk (Kd.R_lower ho0 (below_size bz)); have n1_ := Aside0.mk (Kd.Q_lower ho1 (below_size bz)); have n2_ := Aside0.mk (below_step bz hb); clear HB; have HO589 := n0_; have HO591 := n1_; have HB := n2_; clear n0_ n1_ n2_; (try clear hb); (try clear hb2); (try clear hk); (try clear hi); (try clear ho0); (try clear ho1); obtain ⟨Ao18, co18, eo18⟩ := Kd.R_slice HO589.out; subst eo18; obtain ⟨Ao19, co19, eo19, _⟩ := Kd.Q_slice HO591.out; subst eo19) | ((with_reducible refine gate_callee (f := 6) rfl ?_); refine goesL_ (some 55) rfl rfl Try.func6 kf rfl #[.slice Ao18 t586.length co18, .slice Ao19 t587.length co19] rfl sm ?_; (with_reducible refine (impl_RemainderOf.calls k _ _ t586 _ _ t587 t592 t593 _ ?side1 ?side2 ?side3 ?side4 A6.out).mono ?_); (case side1 => exact cr HO589); (case side2 => exact (Kd.R_reads' HO589.out).2.1); (case side3 => repeat (first | exact (Kd.Q_reads' HO591.out).2.2 | (with_reducible refine Kd.C_alloc ?_ _) | (with_reducible refine Kd.C_drewN ?_ _) | (with_reducible refine Kd.C_drew ?_))); (case side4 => exact (Kd.Q_reads' HO591.out).2.1); rintro e w20 ⟨v594, rfl, ho0, hb⟩; refine ⟨_, rfl, ?_⟩; have n0_ := Aside0.mk (Kd.R_elder' (kr HO589) (Kd.R_base ho0) hb); have n1_ := Aside0.mk (Kd.Q_elder' (by (with_reducible repeat (first | apply Kd.Q_alloc | apply Kd.Q_drewN | apply Kd.Q_drew)); exact HO591.out) (Kd.R_base ho0) hb); have n2_ := Aside0.mk (Kd.R_lower (Kd.R_new' (Kd.R_new' ho0 (Kd.R_lt (kr HO589))) (Kd.Q_lt (by (with_reducible repeat (first | apply Kd.Q_alloc | apply Kd.Q_drewN | apply Kd.Q_drew)); exact HO591.out))) (below_size bz)); have n3_ := Aside0.mk (below_step bz hb); clear HO589; clear HO591; clear HB; have HO589 := n0_; have HO591 := n1_; have HO595 := n2_; have HB := n3_; clear n0_ n1_ n2_ n3_; (try clear hb); (try clear hb2); (try clear hk); (try clear hi); (try clear ho0)) | ((with_reducible refine gate_callee (f := 7) rfl ?_); refine goesL_ (some 61) rfl rfl Try.func7 kf rfl #[.slice Ao18 t586.length co18, .slice Ao19 t587.length co19] rfl sm ?_; (with_reducible refine (spec_RemainderOf.calls k _ _ t586 _ _ t587 t596 t597 _ ?side1 ?side2 ?side3 ?side4 A7.out).mono ?_); (case side1 => exact cr HO589); (case side2 => exact (Kd.R_reads' HO589.out).2.1); (case side3 => repeat (first | exact (Kd.Q_reads' HO591.out).2.2 | (with_reducible refine Kd.C_alloc ?_ _) | (with_reducible refine Kd.C_drewN ?_ _) | (with_reducible refine Kd.C_drew ?_))); (case side4 => exact (Kd.Q_reads' HO591.out).2.1); rintro e w21 ⟨v598, rfl, ho0, hb⟩; refine ⟨_, rfl, ?_⟩; have n0_ := Aside0.mk (Kd.R_elder' (kr HO589) (Kd.R_base ho0) hb); have n1_ := Aside0.mk (Kd.Q_elder' (by (with_reducible repeat (first | apply Kd.Q_alloc | apply Kd.Q_drewN | apply Kd.Q_drew)); exact HO591.out) (Kd.R_base ho0) hb); have n2_ := Aside0.mk (Kd.R_elder' (kr HO595) (Kd.R_base ho0) hb); have n3_ := Aside0.mk (Kd.R_lower (Kd.R_new' (Kd.R_new' (Kd.R_new' ho0 (Kd.R_lt (kr HO589))) (Kd.Q_lt (by (with_reducible repeat (first | apply Kd.Q_alloc | apply Kd.Q_drewN | apply Kd.Q_drew)); exact HO591.out))) (Kd.R_lt (kr HO595))) (below_size bz)); have n4_ := Aside0.mk (below_step bz hb); clear HO589; clear HO591; clear HO595; clear HB; have HO589 := n0_; have HO591 := n1_; have HO595 := n2_; have HO599 := n3_; have HB := n4_; clear n0_ n1_ n2_ n3_ n4_; (try clear hb); (try clear hb2); (try clear hk); (try clear hi); (try clear ho0)) | ((with_reducible refine gate_callee (f := 8) rfl ?_); refine goesL_ (some 67) rfl rfl Try.func8 kf rfl #[.slice Ao18 t586.length co18, .slice Ao19 t587.length co19] rfl sm ?_; (with_reducible refine (impl_MultiplySingle.calls k _ _ t586 _ _ t587 t600 t601 _ ?side1 ?side2 ?side3 ?side4 A8.out).mono ?_); (case side1 => exact cr HO589); (case side2 => exact (Kd.R_reads' HO589.out).2.1); (case side3 => repeat (first | exact (Kd.Q_reads' HO591.out).2.2 | (with_reducible refine Kd.C_alloc ?_ _) | (with_reducible refine Kd.C_drewN ?_ _) | (with_reducible refine Kd.C_drew ?_))); (case side4 => exact (Kd.Q_reads' HO591.out).2.1); rintro e w22 ⟨v602, rfl, ho0, hb⟩; refine ⟨_, rfl, ?_⟩; have n0_ := Aside0.mk (Kd.R_elder' (kr HO589) (Kd.R_base ho0) hb); have n1_ := Aside0.mk (Kd.Q_elder' (by (with_reducible repeat (first | apply Kd.Q_alloc | apply Kd.Q_drewN | apply Kd.Q_drew)); exact HO591.out) (Kd.R_base ho0) hb); have n2_ := Aside0.mk (Kd.R_elder' (kr HO595) (Kd.R_base ho0) hb); have n3_ := Aside0.mk (Kd.R_elder' (kr HO599) (Kd.R_base ho0) hb); have n4_ := Aside0.mk (Kd.R_lower (Kd.R_new' (Kd.R_new' (Kd.R_new' (Kd.R_new' ho0 (Kd.R_lt (kr HO589))) (Kd.Q_lt (by (with_reducible repeat (first | apply Kd.Q_alloc | apply Kd.Q_drewN | apply Kd.Q_drew)); exact HO591.out))) (Kd.R_lt (kr HO595))) (Kd.R_lt (kr HO599))) (below_size bz)); have n5_ := Aside0.mk (below_step bz hb); clear HO589; clear HO591; clear HO595; clear HO599; clear HB; have HO589 := n0_; have HO591 := n1_; have HO595 := n2_; have HO599 := n3_; have HO603 := n4_; have HB := n5_; clear n0_ n1_ n2_ n3_ n4_ n5_; (try clear hb); (try clear hb2); (try clear hk); (try clear hi); (try clear ho0)) | ((with_reducible refine gate_callee (f := 9) rfl ?_); refine goesL_ (some 73) rfl rfl Try.func9 kf rfl #[.slice Ao18 t586.length co18, .slice Ao19 t587.length co19] rfl sm ?_; (with_reducible refine (spec_MultiplySingle.calls k _ _ t586 _ _ t587 t604 t605 _ ?side1 ?side2 ?side3 ?side4 A9.out).mono ?_); (case side1 => exact cr HO589); (case side2 => exact (Kd.R_reads' HO589.out).2.1); (case side3 => repeat (first | exact (Kd.Q_reads' HO591.out).2.2 | (with_reducible refine Kd.C_alloc ?_ _) | (with_reducible refine Kd.C_drewN ?_ _) | (with_reducible refine Kd.C_drew ?_))); (case side4 => exact (Kd.Q_reads' HO591.out).2.1); rintro e w23 ⟨v606, rfl, ho0, hb⟩; refine ⟨_, rfl, ?_⟩; have n0_ := Aside0.mk (Kd.R_elder' (kr HO589) (Kd.R_base ho0) hb); have n1_ := Aside0.mk (Kd.Q_elder' (by (with_reducible repeat (first | apply Kd.Q_alloc | apply Kd.Q_drewN | apply Kd.Q_drew)); exact HO591.out) (Kd.R_base ho0) hb); have n2_ := Aside0.mk (Kd.R_elder' (kr HO595) (Kd.R_base ho0) hb); have n3_ := Aside0.mk (Kd.R_elder' (kr HO599) (Kd.R_base ho0) hb); have n4_ := Aside0.mk (Kd.R_elder' (kr HO603) (Kd.R_base ho0) hb); have n5_ := Aside0.mk (Kd.R_lower (Kd.R_new' (Kd.R_new' (Kd.R_new' (Kd.R_new' (Kd.R_new' ho0 (Kd.R_lt (kr HO589))) (Kd.Q_lt (by (with_reducible repeat (first | apply Kd.Q_alloc | apply Kd.Q_drewN | apply Kd.Q_drew)); exact HO591.out))) (Kd.R_lt (kr HO595))) (Kd.R_lt (kr HO599))) (Kd.R_lt (kr HO603))) (below_size bz)); have n6_ := Aside0.mk (below_step bz hb); clear HO589; clear HO591; clear HO595; clear HO599; clear HO603; clear HB; have HO589 := n0_; have HO591 := n1_; have HO595 := n2_; have HO599 := n3_; have HO603 := n4_; have HO607 := n5_; have HB := n6_; clear n0_ n1_ n2_ n3_ n4_ n5_ n6_; (try clear hb); (try clear hb2); (try clear hk); (try clear hi); (try clear ho0); obtain ⟨Ao24, co24, eo24⟩ := Kd.R_slice HO595.out; subst eo24; obtain ⟨Ao25, co25, eo25⟩ := Kd.R_slice HO599.out; subst eo25) | (go_at_call 10; (with_reducible refine (laws_sameInts.calls k _ _ t592 _ _ t596 true _ ?side1 ?side2 ?side3 ?side4 A11.out).mono ?_); (case side1 => exact cr HO595); (case side2 => exact (Kd.R_reads' HO595.out).2.1); (case side3 => exact cr HO599); (case side4 => exact (Kd.R_reads' HO599.out).2.1); rintro e w' ⟨rfl, ⟨nd, rfl⟩⟩; obtain ⟨Ao26, co26, eo26⟩ := Kd.R_slice HO603.out; subst eo26; obtain ⟨Ao27, co27, eo27⟩ := Kd.R_slice HO607.out; subst eo27) | (go_at_call 10; (with_reducible refine (laws_sameInts.calls k _ _ t600 _ _ t604 true _ ?side1 ?side2 ?side3 ?side4 A14.out).mono ?_); (case side1 => exact cr HO603); (case side2 => exact (Kd.R_reads' HO603.out).2.1); (case side3 => exact cr HO607); (case side4 => exact (Kd.R_reads' HO607.out).2.1); rintro e w' ⟨rfl, ⟨nd, rfl⟩⟩))
      (try simp only [Act.put, List.setIfInBounds_toArray, List.set_cons_zero, List.set_cons_succ])
      go_cut [103] (fun v103 wc => ∃ (kq : Nat) (x103_15 : Bool), v103 = .bool x103_15 ∧ Aside0 (laws_FnSingles.j0 kq l1 t586 t587 t600 t601 x103_15 = some r) ∧ Aside0 (kq ≤ k) ∧ Aside0 (Kd.R (Kd.int .i64) 3 wc w.heap.size (fun k_ => some k_ ≠ ((.slice Ao19 t587.length co19) : Value).ownBlock ∧ some k_ ≠ ((.slice Ao26 t600.length co26) : Value).ownBlock) (.slice Ao18 t586.length co18) t586) ∧ Aside0 (Kd.Q (Kd.int .i64) 3 wc w.heap.size (fun k_ => some k_ ≠ ((.slice Ao18 t586.length co18) : Value).ownBlock ∧ some k_ ≠ ((.slice Ao26 t600.length co26) : Value).ownBlock) (.slice Ao19 t587.length co19) t587) ∧ Aside0 (Kd.R (Kd.int .i64) 3 wc w.heap.size (fun k_ => some k_ ≠ ((.slice Ao18 t586.length co18) : Value).ownBlock ∧ some k_ ≠ ((.slice Ao19 t587.length co19) : Value).ownBlock) (.slice Ao26 t600.length co26) t600) ∧ Aside0 (Below w.heap.size w wc))
      case first =>
       as_aux_lemma =>
        have H := HC16.out
        clear HC16
        by_cases c28 : t593 = true
        ·subst c28
         rw [if_pos rfl] at H
         have H' := Aside0.mk H
         clear H
         go_wp2
         go_meet
         case rel => exact ⟨_, (decide ((t596.length : Int) ≥ (t587.length : Int))), sr, H', ⟨by first | omega | exact Nat.le_refl _⟩, ⟨by (with_reducible repeat (first | apply Kd.R_alloc | apply Kd.R_drewN | apply Kd.R_drew)); exact Kd.R_mono HO589.out (fun _ hk => ⟨hk.1.1.1.1, hk.1.2⟩)⟩, ⟨by (with_reducible repeat (first | apply Kd.Q_alloc | apply Kd.Q_drewN | apply Kd.Q_drew)); exact Kd.Q_mono HO591.out (fun _ hk => ⟨hk.1.1.1.1, hk.1.2⟩)⟩, ⟨by (with_reducible repeat (first | apply Kd.R_alloc | apply Kd.R_drewN | apply Kd.R_drew)); exact Kd.R_mono HO603.out (fun _ hk => ⟨hk.1.1.1.1.2, hk.1.1.1.2⟩)⟩, ⟨bz⟩⟩
        ·replace c28 := Bool.eq_false_iff.mpr c28
         subst c28
         rw [if_neg (show ¬ (false = true) by decide)] at H
         have H' := Aside0.mk H
         clear H
         go_wp2
         go_meet
         case rel => exact ⟨_, (false), sr, H', ⟨by first | omega | exact Nat.le_refl _⟩, ⟨by (with_reducible repeat (first | apply Kd.R_alloc | apply Kd.R_drewN | apply Kd.R_drew)); exact Kd.R_mono HO589.out (fun _ hk => ⟨hk.1.1.1.1, hk.1.2⟩)⟩, ⟨by (with_reducible repeat (first | apply Kd.Q_alloc | apply Kd.Q_drewN | apply Kd.Q_drew)); exact Kd.Q_mono HO591.out (fun _ hk => ⟨hk.1.1.1.1, hk.1.2⟩)⟩, ⟨by (with_reducible repeat (first | apply Kd.R_alloc | apply Kd.R_drewN | apply Kd.R_drew)); exact Kd.R_mono HO603.out (fun _ hk => ⟨hk.1.1.1.1.2, hk.1.1.1.2⟩)⟩, ⟨bz⟩⟩
      case rest =>
       as_aux_lemma =>
        clear HC16
        try clear c1; try clear c2; try clear p2; try clear c3; try clear c4; try clear c5; try clear c6; try clear c7; try clear c8; try clear c9; try clear c10; try clear c10b0; try clear c10b1; try clear c10b2; try clear c12; try clear c13; try clear c13b0; try clear c13b1; try clear c13b2; try clear c15; try clear c28
        obtain ⟨kq, x103_15, rfl, HA, HJ15, HO_5, HO_6, HO_11, HB⟩ := hcut
        cases kq with
        | zero => exact absurd HA.out (by simp [laws_FnSingles.j0])
        | succ kj15 =>
         have H := HA.out
         clear HA
         simp only [laws_FnSingles.j0] at H
         by_cases c29 : x103_15 = true
         ·subst c29
          rw [if_pos rfl] at H
          exact absurd H (by simp)
         ·replace c29 := Bool.eq_false_iff.mpr c29
          subst c29
          rw [if_neg (show ¬ (false = true) by decide)] at H
          have HC30 := Aside0.mk H
          clear H
          go_upto_region 12 with (fail)
          go_cut [109] (fun v109 wc => ∃ (kq : Nat) (x109_29 : Bool), v109 = .bool x109_29 ∧ Aside0 (laws_FnSingles.j1 kq l1 t586 t587 t600 x109_29 = some r) ∧ Aside0 (kq ≤ kj15) ∧ Aside0 (Kd.R (Kd.int .i64) 3 wc w.heap.size (fun k_ => some k_ ≠ ((.slice Ao19 t587.length co19) : Value).ownBlock ∧ some k_ ≠ ((.slice Ao26 t600.length co26) : Value).ownBlock) (.slice Ao18 t586.length co18) t586) ∧ Aside0 (Kd.Q (Kd.int .i64) 3 wc w.heap.size (fun k_ => some k_ ≠ ((.slice Ao18 t586.length co18) : Value).ownBlock ∧ some k_ ≠ ((.slice Ao26 t600.length co26) : Value).ownBlock) (.slice Ao19 t587.length co19) t587) ∧ Aside0 (Kd.R (Kd.int .i64) 3 wc w.heap.size (fun k_ => some k_ ≠ ((.slice Ao18 t586.length co18) : Value).ownBlock ∧ some k_ ≠ ((.slice Ao19 t587.length co19) : Value).ownBlock) (.slice Ao26 t600.length co26) t600) ∧ Aside0 (Below w.heap.size w wc))
          case first =>
           as_aux_lemma =>
            have H := HC30.out
            clear HC30
            by_cases c31 : t601 = true
            ·subst c31
             rw [if_pos rfl] at H
             have H' := Aside0.mk H
             clear H
             go_wp2
             go_meet
             case rel => exact ⟨_, (decide ((t587.length : Int) > 0)), sr, H', ⟨by have := HJ15.out; first | omega | exact Nat.le_refl _⟩, ⟨kr HO_5⟩, ⟨by (with_reducible repeat (first | apply Kd.Q_alloc | apply Kd.Q_drewN | apply Kd.Q_drew)); exact HO_6.out⟩, ⟨kr HO_11⟩, ⟨bz⟩⟩
            ·replace c31 := Bool.eq_false_iff.mpr c31
             subst c31
             rw [if_neg (show ¬ (false = true) by decide)] at H
             have H' := Aside0.mk H
             clear H
             go_wp2
             go_meet
             case rel => exact ⟨_, (false), sr, H', ⟨by have := HJ15.out; first | omega | exact Nat.le_refl _⟩, ⟨kr HO_5⟩, ⟨by (with_reducible repeat (first | apply Kd.Q_alloc | apply Kd.Q_drewN | apply Kd.Q_drew)); exact HO_6.out⟩, ⟨kr HO_11⟩, ⟨bz⟩⟩
          case rest =>
           as_aux_lemma =>
            clear HC30
            try clear c1; try clear c2; try clear p2; try clear c3; try clear c4; try clear c5; try clear c6; try clear c7; try clear c8; try clear c9; try clear c10; try clear c10b0; try clear c10b1; try clear c10b2; try clear c12; try clear c13; try clear c13b0; try clear c13b1; try clear c13b2; try clear c15; try clear c28; try clear c29; try clear c31; try clear p2
            obtain ⟨kq, x109_29, rfl, HA, HJ29, HO_5, HO_6, HO_11, HB⟩ := hcut
            cases kq with
            | zero => exact absurd HA.out (by simp [laws_FnSingles.j1])
            | succ kj29 =>
             have H := HA.out
             clear HA
             simp only [laws_FnSingles.j1] at H
             have HC32 := Aside0.mk H
             clear H
             go_upto_if 109 with (fail)
             go_cut [] (fun wc => ∃ (kq : Nat), Aside0 (laws_FnSingles.j2 kq l1 = some r) ∧ Aside0 (kq ≤ kj29) ∧ Aside0 (Below w.heap.size w wc))
             case first =>
              as_aux_lemma =>
               have H := HC32.out
               clear HC32
               by_cases c33 : x109_29 = true
               ·subst c33
                rw [if_pos rfl] at H
                obtain ⟨⟨t610, t611⟩, A34, H⟩ := bi H
                try dsimp only at H
                by_cases c35 : t611 = true
                ·subst c35
                 rw [if_pos rfl] at H
                 obtain ⟨t614, A36, H⟩ := bi H
                 by_cases c37 : t614 = true
                 ·subst c37
                  rw [if_pos rfl] at H
                  have H' := Aside0.mk H
                  clear H
                  go_wp2_with (first | ((with_reducible refine gate_callee (f := 11) rfl ?_); refine goesL_ (some 113) rfl rfl Try.func11 kf rfl #[.slice Ao26 t600.length co26, .slice Ao19 t587.length co19] rfl sm ?_; (with_reducible refine (impl_QuotientOf.calls kj29 _ _ t600 _ _ t587 t610 true _ ?side1 ?side2 ?side3 ?side4 A34.out).mono ?_); (case side1 => exact cr HO_11); (case side2 => exact (Kd.R_reads' HO_11.out).2.1); (case side3 => repeat (first | exact (Kd.Q_reads' HO_6.out).2.2 | (with_reducible refine Kd.C_alloc ?_ _) | (with_reducible refine Kd.C_drewN ?_ _) | (with_reducible refine Kd.C_drew ?_))); (case side4 => exact (Kd.Q_reads' HO_6.out).2.1); rintro e w38 ⟨v612, rfl, ho0, hb⟩; refine ⟨_, rfl, ?_⟩; have n0_ := Aside0.mk (Kd.R_elder' (kr HO_5) (Kd.R_base ho0) hb); have n1_ := Aside0.mk (Kd.Q_elder' (by (with_reducible repeat (first | apply Kd.Q_alloc | apply Kd.Q_drewN | apply Kd.Q_drew)); exact HO_6.out) (Kd.R_base ho0) hb); have n2_ := Aside0.mk (Kd.R_elder' (kr HO_11) (Kd.R_base ho0) hb); have n3_ := Aside0.mk (Kd.R_lower (Kd.R_new' (Kd.R_new' (Kd.R_new' ho0 (Kd.R_lt (kr HO_5))) (Kd.Q_lt (by (with_reducible repeat (first | apply Kd.Q_alloc | apply Kd.Q_drewN | apply Kd.Q_drew)); exact HO_6.out))) (Kd.R_lt (kr HO_11))) (below_size bz)); have n4_ := Aside0.mk (below_step bz hb); clear HO_5; clear HO_6; clear HO_11; clear HB; have HO_5 := n0_; have HO_6 := n1_; have HO_11 := n2_; have HO613 := n3_; have HB := n4_; clear n0_ n1_ n2_ n3_ n4_; (try clear hb); (try clear hb2); (try clear hk); (try clear hi); (try clear ho0); obtain ⟨Ao39, co39, eo39⟩ := Kd.R_slice HO613.out; subst eo39) | (go_at_call 10; (with_reducible refine (laws_sameInts.calls kj29 _ _ t610 _ _ t586 true _ ?side1 ?side2 ?side3 ?side4 A36.out).mono ?_); (case side1 => exact cr HO613); (case side2 => exact (Kd.R_reads' HO613.out).2.1); (case side3 => exact cr HO_5); (case side4 => exact (Kd.R_reads' HO_5.out).2.1); rintro e w' ⟨rfl, ⟨nd, rfl⟩⟩))
                  go_meet
                  case rel => exact ⟨_, H', ⟨by have := HJ15.out; have := HJ29.out; first | omega | exact Nat.le_refl _⟩, ⟨bz⟩⟩
                 ·replace c37 := Bool.eq_false_iff.mpr c37
                  subst c37
                  rw [if_neg (show ¬ (false = true) by decide)] at H
                  exact absurd H (by simp)
                ·replace c35 := Bool.eq_false_iff.mpr c35
                 subst c35
                 rw [if_neg (show ¬ (false = true) by decide)] at H
                 exact absurd H (by simp)
               ·replace c33 := Bool.eq_false_iff.mpr c33
                subst c33
                rw [if_neg (show ¬ (false = true) by decide)] at H
                have H' := Aside0.mk H
                clear H
                go_wp2
                go_meet
                case rel => exact ⟨_, H', ⟨by have := HJ15.out; have := HJ29.out; first | omega | exact Nat.le_refl _⟩, ⟨bz⟩⟩
             case rest =>
              as_aux_lemma =>
               clear HC32
               try clear c1; try clear c2; try clear p2; try clear c3; try clear c4; try clear c5; try clear c6; try clear c7; try clear c8; try clear c9; try clear c10; try clear c10b0; try clear c10b1; try clear c10b2; try clear c11; try clear c12; try clear c13; try clear c13b0; try clear c13b1; try clear c13b2; try clear c15; try clear c28; try clear c29; try clear c31; try clear c33; try clear c35; try clear c37; try clear p2
               obtain ⟨kq, HA, HJ31, HB⟩ := hcut
               cases kq with
               | zero => exact absurd HA.out (by simp [laws_FnSingles.j2])
               | succ kj31 =>
                have H := HA.out
                clear HA
                simp only [laws_FnSingles.j2] at H
                obtain ⟨⟨t615, t616⟩, A40, H⟩ := bi H
                try dsimp only at H
                obtain ⟨⟨t621, t622⟩, A41, H⟩ := bi H
                try dsimp only at H
                obtain ⟨⟨t625, t626⟩, A42, H⟩ := bi H
                try dsimp only at H
                by_cases c43 : (t622 != t626) = true
                ·rw [if_pos c43] at H
                 exact absurd H (by simp)
                ·rw [if_neg c43] at H
                 have c43b0 : (t622 != t626) = false := by simpa using c43
                 (try (have c43b1 : decide (t622 = t626) = true := by simpa using c43))
                 (try (have c43b2 : (t622 == t626) = true := by simpa using c43))
                 clear c43
                 obtain ⟨t629, A44, H⟩ := bi H
                 by_cases c45 : t629 = true
                 ·subst c45
                  rw [if_pos rfl] at H
                  have HC46 := Aside0.mk H
                  clear H
                  go_upto_if 150 with (first | ((with_reducible refine gate_callee (f := 12) rfl ?_); refine goesL_ (some 126) rfl rfl Try.func12 kf rfl #[.slice A1 l1.length c1] rfl sm ?_; (with_reducible refine (spec_DrawCommonDivisor.calls kj31 _ _ l1 t615 t616 _ ?side1 ?side2 A40.out).mono ?_); (case side1 => exact cb HR1); (case side2 => exact HC1.out); rintro e w47 ⟨v617, v619, rfl, ho0, ho1, hb⟩; refine ⟨_, rfl, ?_⟩; have n0_ := Aside0.mk (Kd.R_lower ho0 (below_size bz)); have n1_ := Aside0.mk (Kd.Q_lower ho1 (below_size bz)); have n2_ := Aside0.mk (below_step bz hb); clear HB; have HO618 := n0_; have HO620 := n1_; have HB := n2_; clear n0_ n1_ n2_; (try clear hb); (try clear hb2); (try clear hk); (try clear hi); (try clear ho0); (try clear ho1); obtain ⟨Ao48, co48, eo48⟩ := Kd.R_slice HO618.out; subst eo48; obtain ⟨Ao49, co49, eo49, _⟩ := Kd.Q_slice HO620.out; subst eo49) | ((with_reducible refine gate_callee (f := 13) rfl ?_); refine goesL_ (some 132) rfl rfl Try.func13 kf rfl #[.slice Ao48 t615.length co48, .slice Ao49 t616.length co49] rfl sm ?_; (with_reducible refine (impl_CommonDivisor.calls kj31 _ _ t615 _ _ t616 t621 t622 _ ?side1 ?side2 ?side3 ?side4 A41.out).mono ?_); (case side1 => exact cr HO618); (case side2 => exact (Kd.R_reads' HO618.out).2.1); (case side3 => repeat (first | exact (Kd.Q_reads' HO620.out).2.2 | (with_reducible refine Kd.C_alloc ?_ _) | (with_reducible refine Kd.C_drewN ?_ _) | (with_reducible refine Kd.C_drew ?_))); (case side4 => exact (Kd.Q_reads' HO620.out).2.1); rintro e w50 ⟨v623, rfl, ho0, hb⟩; refine ⟨_, rfl, ?_⟩; have n0_ := Aside0.mk (Kd.R_elder' (kr HO618) (Kd.R_base ho0) hb); have n1_ := Aside0.mk (Kd.Q_elder' (by (with_reducible repeat (first | apply Kd.Q_alloc | apply Kd.Q_drewN | apply Kd.Q_drew)); exact HO620.out) (Kd.R_base ho0) hb); have n2_ := Aside0.mk (Kd.R_lower (Kd.R_new' (Kd.R_new' ho0 (Kd.R_lt (kr HO618))) (Kd.Q_lt (by (with_reducible repeat (first | apply Kd.Q_alloc | apply Kd.Q_drewN | apply Kd.Q_drew)); exact HO620.out))) (below_size bz)); have n3_ := Aside0.mk (below_step bz hb); clear HO618; clear HO620; clear HB; have HO618 := n0_; have HO620 := n1_; have HO624 := n2_; have HB := n3_; clear n0_ n1_ n2_ n3_; (try clear hb); (try clear hb2); (try clear hk); (try clear hi); (try clear ho0)) | ((with_reducible refine gate_callee (f := 14) rfl ?_); refine goesL_ (some 138) rfl rfl Try.func14 kf rfl #[.slice Ao48 t615.length co48, .slice Ao49 t616.length co49] rfl sm ?_; (with_reducible refine (spec_CommonDivisor.calls kj31 _ _ t615 _ _ t616 t625 t626 _ ?side1 ?side2 ?side3 ?side4 A42.out).mono ?_); (case side1 => exact cr HO618); (case side2 => exact (Kd.R_reads' HO618.out).2.1); (case side3 => repeat (first | exact (Kd.Q_reads' HO620.out).2.2 | (with_reducible refine Kd.C_alloc ?_ _) | (with_reducible refine Kd.C_drewN ?_ _) | (with_reducible refine Kd.C_drew ?_))); (case side4 => exact (Kd.Q_reads' HO620.out).2.1); rintro e w51 ⟨v627, rfl, ho0, hb⟩; refine ⟨_, rfl, ?_⟩; have n0_ := Aside0.mk (Kd.R_elder' (kr HO618) (Kd.R_base ho0) hb); have n1_ := Aside0.mk (Kd.Q_elder' (by (with_reducible repeat (first | apply Kd.Q_alloc | apply Kd.Q_drewN | apply Kd.Q_drew)); exact HO620.out) (Kd.R_base ho0) hb); have n2_ := Aside0.mk (Kd.R_elder' (kr HO624) (Kd.R_base ho0) hb); have n3_ := Aside0.mk (Kd.R_lower (Kd.R_new' (Kd.R_new' (Kd.R_new' ho0 (Kd.R_lt (kr HO618))) (Kd.Q_lt (by (with_reducible repeat (first | apply Kd.Q_alloc | apply Kd.Q_drewN | apply Kd.Q_drew)); exact HO620.out))) (Kd.R_lt (kr HO624))) (below_size bz)); have n4_ := Aside0.mk (below_step bz hb); clear HO618; clear HO620; clear HO624; clear HB; have HO618 := n0_; have HO620 := n1_; have HO624 := n2_; have HO628 := n3_; have HB := n4_; clear n0_ n1_ n2_ n3_ n4_; (try clear hb); (try clear hb2); (try clear hk); (try clear hi); (try clear ho0); obtain ⟨Ao52, co52, eo52⟩ := Kd.R_slice HO624.out; subst eo52; obtain ⟨Ao53, co53, eo53⟩ := Kd.R_slice HO628.out; subst eo53) | (go_at_call 10; (with_reducible refine (laws_sameInts.calls kj31 _ _ t621 _ _ t625 true _ ?side1 ?side2 ?side3 ?side4 A44.out).mono ?_); (case side1 => exact cr HO624); (case side2 => exact (Kd.R_reads' HO624.out).2.1); (case side3 => exact cr HO628); (case side4 => exact (Kd.R_reads' HO628.out).2.1); rintro e w' ⟨rfl, ⟨nd, rfl⟩⟩))
                  (try simp only [Act.put, List.setIfInBounds_toArray, List.set_cons_zero, List.set_cons_succ])
                  go_cut [] (fun wc => ∃ (kq : Nat), Aside0 (laws_FnSingles.j4 kq l1 = some r) ∧ Aside0 (kq ≤ kj31) ∧ Aside0 (Below w.heap.size w wc))
                  case first =>
                   as_aux_lemma =>
                    have H := HC46.out
                    clear HC46
                    by_cases c54 : t622 = true
                    ·subst c54
                     rw [if_pos rfl] at H
                     obtain ⟨⟨t630, t631⟩, A55, H⟩ := bi H
                     try dsimp only at H
                     by_cases c56 : t631 = true
                     ·subst c56
                      rw [if_pos rfl] at H
                      by_cases c57 : t630 = 1
                      ·rw [if_pos c57] at H
                       have c57b0 : (t630 == 1) = true := beq_iff_eq.mpr c57
                       have c57b1 : (t630 != 1) = false := bne_eq_false_iff_eq.mpr c57
                       clear c57
                       (first | rw [c57b0] | (simp only [i64_w, i32_w]; rw [c57b0]) | skip)
                       obtain ⟨ji58, hji58⟩ : ∃ j_ : Int, (wrap64 ((t625.length : Int) - 1)) = j_ := ⟨_, rfl⟩
                       first | rw [hji58] at H | simp only [hji58] at H
                       (try rw [hji58] at A55)
                       have hji58w : (IntKind.i64.wrap ((t625.length : Int) - 1)) = ji58 := (i64_w _).trans hji58
                       by_cases c59 : 0 ≤ (ji58)
                       ·rw [if_pos c59] at H
                        have c59b0 : decide (0 ≤ (ji58)) = true := decide_eq_true c59
                        clear c59
                        by_cases c60 : (ji58) < (t625.length : Int)
                        ·rw [if_pos c60] at H
                         have c60b0 : decide ((ji58) < (t625.length : Int)) = true := decide_eq_true c60
                         clear c60
                         by_cases c61 : (rd t625 (ji58)) < 1
                         ·rw [if_pos c61] at H
                          exact absurd H (by simp)
                         ·rw [if_neg c61] at H
                          have c61b0 : decide ((rd t625 (ji58)) < 1) = false := decide_eq_false c61
                          clear c61
                          obtain ⟨y633, hy633⟩ : ∃ y_ : List (List Int), y_ = (([t615, t616] : List (List Int))) := ⟨_, rfl⟩
                          replace H : (laws_FnSingles.l0 kj31 l1 t621 t625 y633 (y633.length : Int) 0) = some r := by first | (rw [hy633]; with_reducible exact H) | (have H2_ := (Option.bind_some _ _).symm.trans H; rw [hy633]; with_reducible exact H2_) | (have H2_ := (Option.bind_some _ _).symm.trans H; with_reducible exact H2_) | with_reducible exact H | (rw [hy633]; exact H) | exact H
                          have Ny633 := Aside0.mk hy633
                          clear hy633
                          have H' := Aside0.mk H
                          clear H
                          go_wp2_with (first | ((with_reducible refine gate_callee (f := 15) rfl ?_); refine goesL_ (some 153) rfl rfl Try.func15 kf rfl #[.slice Ao52 t621.length co52] rfl sm ?_; (with_reducible refine (impl_ContentOf.calls kj31 _ _ t621 t630 true _ ?side1 ?side2 A55.out).mono ?_); (case side1 => exact cr HO624); (case side2 => exact (Kd.R_reads' HO624.out).2.1); rintro e w62 ⟨rfl, hb⟩; refine ⟨_, rfl, ?_⟩; have n0_ := Aside0.mk (Kd.R_below (kr HO618) hb); have n1_ := Aside0.mk (Kd.Q_below (by (with_reducible repeat (first | apply Kd.Q_alloc | apply Kd.Q_drewN | apply Kd.Q_drew)); exact HO620.out) hb); have n2_ := Aside0.mk (Kd.R_below (kr HO624) hb); have n3_ := Aside0.mk (Kd.R_below (kr HO628) hb); have n4_ := Aside0.mk (below_step bz hb); clear HO618; clear HO620; clear HO624; clear HO628; clear HB; have HO618 := n0_; have HO620 := n1_; have HO624 := n2_; have HO628 := n3_; have HB := n4_; clear n0_ n1_ n2_ n3_ n4_; (try clear hb); (try clear hb2); (try clear hk); (try clear hi); have p632 : 0 ≤ ((ji58) : Int) := of_decide_eq_true am; have q632 : (ji58) < (t625.length : Int) := of_decide_eq_true am; obtain ⟨ad632, e632, hx632_0⟩ := Kd.at_int (Kd.R_reads' HO628.out).2.2 (ji58) p632 q632; cases e632; replace p632 := eq_true p632; replace q632 := eq_true q632) | ((with_reducible refine gate_dst (N := 173) rfl ?_); (try (refine gate_guard (by rfl) ?_; dsimp only)); refine Kd.N_lit (Kd.slice 3 (Kd.int .i64)) _ 24 ?hg (N' := 173) ?hd (xs := ([t615, t616] : List (List Int))) (inner := [.slice Ao48 t615.length co48, .slice Ao49 t616.length co49]) (ok := (fun k_ => some k_ ≠ (.slice Ao52 t621.length co52 : Value).ownBlock ∧ some k_ ≠ (.slice (some ad632) t625.length co53 : Value).ownBlock)) (okp := (fun k_ => some k_ ≠ (.slice Ao52 t621.length co52 : Value).ownBlock ∧ some k_ ≠ (.slice (some ad632) t625.length co53 : Value).ownBlock)) ?hr ?hp (fun _ hk => hk) ((show ∀ k_, w62.heap.size ≤ k_ → (fun k_ => some k_ ≠ (.slice Ao52 t621.length co52 : Value).ownBlock ∧ some k_ ≠ (.slice (some ad632) t625.length co53 : Value).ownBlock) k_ from fun k_ hk => ⟨Kd.fresh' (Kd.R_lt (kr HO624)) k_ hk, Kd.fresh' (Kd.R_lt (kr HO628)) k_ hk⟩) _ (Nat.le_refl _)) (Below.refl _ _) (Nat.le_refl _) (by simp) ?_; (case hd => rfl); (case hg => rfl); (case hr => first | (go_simp; done) | (go_simp; rfl)); (case hp => exact (Reps.one (show Kd.FK (Kd.slice 3 (Kd.int .i64)) _ _ t615 [.slice Ao48 t615.length co48] from (Kd.FK_slice_mk (Kd.R_reads' (Kd.R_mono (ok' := (fun k_ => some k_ ≠ (.slice Ao52 t621.length co52 : Value).ownBlock ∧ some k_ ≠ (.slice (some ad632) t625.length co53 : Value).ownBlock)) (HO618.out) (fun k_ hk => ⟨hk.1.2, hk.2⟩))).2.1 (Kd.R_F (Kd.R_mono (ok' := (fun k_ => some k_ ≠ (.slice Ao52 t621.length co52 : Value).ownBlock ∧ some k_ ≠ (.slice (some ad632) t625.length co53 : Value).ownBlock)) (HO618.out) (fun k_ hk => ⟨hk.1.2, hk.2⟩))))) (Reps.one (show Kd.FK (Kd.slice 3 (Kd.int .i64)) _ _ t616 [.slice Ao49 t616.length co49] from (Kd.FK_slice_mk (Kd.Q_reads' (Kd.Q_mono (ok' := (fun k_ => some k_ ≠ (.slice Ao52 t621.length co52 : Value).ownBlock ∧ some k_ ≠ (.slice (some ad632) t625.length co53 : Value).ownBlock)) (HO620.out) (fun k_ hk => ⟨hk.1.2, hk.2⟩))).2.1 (Kd.Q_F (Kd.Q_mono (ok' := (fun k_ => some k_ ≠ (.slice Ao52 t621.length co52 : Value).ownBlock ∧ some k_ ≠ (.slice (some ad632) t625.length co53 : Value).ownBlock)) (HO620.out) (fun k_ hk => ⟨hk.1.2, hk.2⟩))))) (Reps.none _ _)))); intro v634 w63 ho64 hb hg_ hnew_; clear hg_ hnew_; (first | rw [← Ny633.out] at ho64 | (simp only [Int.reduceToNat] at ho64; rw [← Ny633.out] at ho64)); have n0_ := Aside0.mk (Kd.R_below (kr HO624) hb); have n1_ := Aside0.mk (Kd.R_below (kr HO628) hb); have n2_ := Aside0.mk (Kd.N_lower ho64 (below_size bz)); have n3_ := Aside0.mk (below_step bz hb); clear HO624; clear HO628; clear HB; clear HO618; clear HO620; have HO624 := n0_; have HO628 := n1_; have HO635 := n2_; have HB := n3_; clear n0_ n1_ n2_ n3_; clear hb ho64; obtain ⟨Ao65, co65, eo65⟩ := Kd.N_slice HO635.out; subst eo65))
                          go_loopg [175] kj31 (fun kq v175 w' => ∃ (x175_4 : Int), v175 = .int .i64 x175_4 ∧ Aside0 (laws_FnSingles.l0 kq l1 t621 t625 y633 (y633.length : Int) x175_4 = some r) ∧ Aside0 (kq ≤ kj31) ∧ Aside0 (Kd.R (Kd.int .i64) 3 w' w.heap.size (fun k_ => some k_ ≠ ((.slice (some ad632) t625.length co53) : Value).ownBlock) (.slice Ao52 t621.length co52) t621) ∧ Aside0 (Kd.R (Kd.int .i64) 3 w' w.heap.size (fun k_ => some k_ ≠ ((.slice Ao52 t621.length co52) : Value).ownBlock) (.slice (some ad632) t625.length co53) t625) ∧ Aside0 (Kd.N (Kd.slice 3 (Kd.int .i64)) 24 w' w.heap.size (fun k_ => some k_ ≠ ((.slice Ao52 t621.length co52) : Value).ownBlock ∧ some k_ ≠ ((.slice (some ad632) t625.length co53) : Value).ownBlock) (.slice Ao65 y633.length co65) y633) ∧ Aside0 (Below w.heap.size w w'))
                          case atStart => exact ⟨(0), sr, H', ⟨Nat.le_refl _⟩, ⟨by (with_reducible repeat (first | apply Kd.R_alloc | apply Kd.R_drewN | apply Kd.R_drew)); exact Kd.R_mono HO624.out (fun _ hk => hk.2)⟩, ⟨by (with_reducible repeat (first | apply Kd.R_alloc | apply Kd.R_drewN | apply Kd.R_drew)); exact Kd.R_mono HO628.out (fun _ hk => hk.2)⟩, ⟨kn HO635⟩, ⟨bz⟩⟩
                          case round =>
                           clear H'
                           try clear c1; try clear c2; try clear p2; try clear c3; try clear c4; try clear c5; try clear c6; try clear p6; try clear q6; try clear hx6; try clear c7; try clear c8; try clear c9; try clear c10; try clear c10b0; try clear c10b1; try clear c10b2; try clear c11; try clear c12; try clear c13; try clear c13b0; try clear c13b1; try clear c13b2; try clear c14; try clear c15; try clear c28; try clear c29; try clear c31; try clear c33; try clear c35; try clear c37; try clear c43; try clear c43b0; try clear c43b1; try clear c43b2; try clear c45; try clear c54; try clear c56; try clear c57; try clear c57b0; try clear c57b1; try clear c59; try clear c59b0; try clear c60; try clear c60b0; try clear c61; try clear c61b0; try clear p63; try clear q63; try clear hx63; try clear p64; try clear hx632_0; try clear p2; try clear p632; try clear q632
                           obtain ⟨x175_4, rfl, HA, HK4, HO_19, HO_21, HO_173, HB⟩ := hrel
                           cases gk with
                           | zero => exact absurd HA.out (by simp [laws_FnSingles.l0])
                           | succ k4 =>
                            have H := HA.out
                            clear HA
                            simp only [laws_FnSingles.l0] at H
                            by_cases c66 : x175_4 < (y633.length : Int)
                            ·rw [if_pos c66] at H
                             have c66b0 : decide (x175_4 < (y633.length : Int)) = true := decide_eq_true c66
                             clear c66
                             by_cases c67 : 0 ≤ x175_4
                             ·rw [if_pos c67] at H
                              have c67b0 : decide (0 ≤ x175_4) = true := decide_eq_true c67
                              clear c67
                              by_cases c68 : x175_4 < (y633.length : Int)
                              ·rw [if_pos c68] at H
                               have c68b0 : decide (x175_4 < (y633.length : Int)) = true := decide_eq_true c68
                               clear c68
                               obtain ⟨⟨t637, t638⟩, A69, H⟩ := bi H
                               try dsimp only at H
                               obtain ⟨⟨t641, t642⟩, A70, H⟩ := bi H
                               try dsimp only at H
                               by_cases c71 : (t638 != t642) = true
                               ·rw [if_pos c71] at H
                                exact absurd H (by simp)
                               ·rw [if_neg c71] at H
                                have c71b0 : (t638 != t642) = false := by simpa using c71
                                (try (have c71b1 : decide (t638 = t642) = true := by simpa using c71))
                                (try (have c71b2 : (t638 == t642) = true := by simpa using c71))
                                clear c71
                                obtain ⟨t645, A72, H⟩ := bi H
                                by_cases c73 : t645 = true
                                ·subst c73
                                 rw [if_pos rfl] at H
                                 by_cases c74 : t642 = true
                                 ·subst c74
                                  rw [if_pos rfl] at H
                                  by_cases c75 : (t641.length : Int) > 0
                                  ·rw [if_pos c75] at H
                                   exact absurd H (by simp)
                                  ·rw [if_neg c75] at H
                                   have c75b0 : decide (0 < (t641.length : Int)) = false := decide_eq_false c75
                                   have c75b1 : decide (0 < t641.length) = false := decide_eq_false (by omega)
                                   clear c75
                                   have H' := Aside0.mk H
                                   clear H
                                   have p636 : 0 ≤ (x175_4 : Int) := of_decide_eq_true am
                                   have q636 : x175_4 < (y633.length : Int) := of_decide_eq_true am
                                   obtain ⟨ad636, A636_0, c636_0, e636, hx636_0, hl636_0, hi636_0⟩ := at_L2 (Kd.N_reads' HO_173.out).2.2 x175_4 p636 q636
                                   cases e636
                                   obtain ⟨ce636, hce636, hMe636, hcc636⟩ := Kd.N_get HO_173.out [] x175_4 p636 (by first | exact q636 | exact of_decide_eq_true am | (have e_ := (Kd.N_reads' HO_173.out).1; omega))
                                   obtain ⟨ua636_0, uc636_0, rfl, ul636_0, ge636_0⟩ := Kd.FK_slice_open hMe636
                                   have hv636_0 := hcc636 0 _ rfl
                                   rw [Nat.add_zero, show ((Kd.slice 3 (Kd.int .i64))).sz = 1 from rfl, Nat.mul_one] at hv636_0
                                   replace hv636_0 := Option.some.inj (hv636_0.symm.trans hx636_0)
                                   injection hv636_0 with hva_ hvn_ hvc_
                                   rw [hva_] at ge636_0
                                   rw [hvc_] at ul636_0
                                   have HL636_0 := Aside0.mk (show Kd.V (Kd.int .i64) 3 _ w.heap.size _ _ (rd_L2 y633 x175_4) from Kd.V_mk ul636_0 ge636_0)
                                   clear hva_ hvn_ hvc_ ge636_0 ul636_0 hcc636 hce636
                                   have HR636_0 := Aside0.mk hi636_0
                                   have HC636_0 := Aside0.mk hl636_0
                                   clear hi636_0 hl636_0
                                   replace p636 := eq_true p636
                                   replace q636 := eq_true q636
                                   go_wp2_with (first | ((with_reducible refine gate_callee (f := 6) rfl ?_); refine goesL_ (some 182) rfl rfl Try.func6 kf rfl #[.slice A636_0 (rd_L2 y633 x175_4).length c636_0, .slice Ao52 t621.length co52] rfl sm ?_; (with_reducible refine (impl_RemainderOf.calls k4 _ _ (rd_L2 y633 x175_4) _ _ t621 t637 t638 _ ?side1 ?side2 ?side3 ?side4 A69.out).mono ?_); (case side1 => repeat (first | exact (by repeat (first | (with_reducible exact HR636_0.out) | (with_reducible refine Kd.C_alloc ?_ _) | (with_reducible refine Kd.C_drewN ?_ _) | (with_reducible refine Kd.C_drew ?_) | exact HR636_0.out)) | (with_reducible refine Kd.C_alloc ?_ _) | (with_reducible refine Kd.C_drewN ?_ _) | (with_reducible refine Kd.C_drew ?_))); (case side2 => exact HC636_0.out); (case side3 => exact cr HO_19); (case side4 => exact (Kd.R_reads' HO_19.out).2.1); rintro e w76 ⟨v639, rfl, ho0, hb⟩; refine ⟨_, rfl, ?_⟩; have n0_ := Aside0.mk (Kd.R_elder' (kr HO_19) (Kd.R_base ho0) hb); have n1_ := Aside0.mk (Kd.R_elder' (kr HO_21) (Kd.R_base ho0) hb); have n2_ := Aside0.mk (Kd.N_elder' (kn HO_173) (Kd.R_base ho0) hb); have n3_ := Aside0.mk (Kd.V_elder' (kv HL636_0) (Kd.R_base ho0) hb); have n4_ := Aside0.mk (Kd.R_lower (Kd.R_new' (Kd.R_new' ho0 (Kd.R_lt (kr HO_19))) (Kd.R_lt (kr HO_21))) (below_size bz)); have n5_ := Aside0.mk (Kd.C_below (by repeat (first | (with_reducible exact HR636_0.out) | (with_reducible refine Kd.C_alloc ?_ _) | (with_reducible refine Kd.C_drewN ?_ _) | (with_reducible refine Kd.C_drew ?_) | exact HR636_0.out)) hb); have n6_ := Aside0.mk (below_step bz hb); clear HO_19; clear HO_21; clear HO_173; clear HL636_0; clear HR636_0; clear HB; have HO_19 := n0_; have HO_21 := n1_; have HO_173 := n2_; have HL636_0 := n3_; have HO640 := n4_; have HR636_0 := n5_; have HB := n6_; clear n0_ n1_ n2_ n3_ n4_ n5_ n6_; (try clear hb); (try clear hb2); (try clear hk); (try clear hi); (try clear ho0)) | ((with_reducible refine gate_callee (f := 7) rfl ?_); refine goesL_ (some 188) rfl rfl Try.func7 kf rfl #[.slice A636_0 (rd_L2 y633 x175_4).length c636_0, .slice (some ad632) t625.length co53] rfl sm ?_; (with_reducible refine (spec_RemainderOf.calls k4 _ _ (rd_L2 y633 x175_4) _ _ t625 t641 true _ ?side1 ?side2 ?side3 ?side4 A70.out).mono ?_); (case side1 => repeat (first | exact (by repeat (first | (with_reducible exact HR636_0.out) | (with_reducible refine Kd.C_alloc ?_ _) | (with_reducible refine Kd.C_drewN ?_ _) | (with_reducible refine Kd.C_drew ?_) | exact HR636_0.out)) | (with_reducible refine Kd.C_alloc ?_ _) | (with_reducible refine Kd.C_drewN ?_ _) | (with_reducible refine Kd.C_drew ?_))); (case side2 => exact HC636_0.out); (case side3 => exact cr HO_21); (case side4 => exact (Kd.R_reads' HO_21.out).2.1); rintro e w77 ⟨v643, rfl, ho0, hb⟩; refine ⟨_, rfl, ?_⟩; have n0_ := Aside0.mk (Kd.R_elder' (kr HO_19) (Kd.R_base ho0) hb); have n1_ := Aside0.mk (Kd.R_elder' (kr HO_21) (Kd.R_base ho0) hb); have n2_ := Aside0.mk (Kd.N_elder' (kn HO_173) (Kd.R_base ho0) hb); have n3_ := Aside0.mk (Kd.V_elder' (kv HL636_0) (Kd.R_base ho0) hb); have n4_ := Aside0.mk (Kd.R_elder' (kr HO640) (Kd.R_base ho0) hb); have n5_ := Aside0.mk (Kd.R_lower (Kd.R_new' (Kd.R_new' (Kd.R_new' ho0 (Kd.R_lt (kr HO_19))) (Kd.R_lt (kr HO_21))) (Kd.R_lt (kr HO640))) (below_size bz)); have n6_ := Aside0.mk (Kd.C_below (by repeat (first | (with_reducible exact HR636_0.out) | (with_reducible refine Kd.C_alloc ?_ _) | (with_reducible refine Kd.C_drewN ?_ _) | (with_reducible refine Kd.C_drew ?_) | exact HR636_0.out)) hb); have n7_ := Aside0.mk (below_step bz hb); clear HO_19; clear HO_21; clear HO_173; clear HL636_0; clear HO640; clear HR636_0; clear HB; have HO_19 := n0_; have HO_21 := n1_; have HO_173 := n2_; have HL636_0 := n3_; have HO640 := n4_; have HO644 := n5_; have HR636_0 := n6_; have HB := n7_; clear n0_ n1_ n2_ n3_ n4_ n5_ n6_ n7_; (try clear hb); (try clear hb2); (try clear hk); (try clear hi); (try clear ho0); obtain ⟨Ao78, co78, eo78⟩ := Kd.R_slice HO640.out; subst eo78; obtain ⟨Ao79, co79, eo79⟩ := Kd.R_slice HO644.out; subst eo79) | (go_at_call 10; (with_reducible refine (laws_sameInts.calls k4 _ _ t637 _ _ t641 true _ ?side1 ?side2 ?side3 ?side4 A72.out).mono ?_); (case side1 => exact cr HO640); (case side2 => exact (Kd.R_reads' HO640.out).2.1); (case side3 => exact cr HO644); (case side4 => exact (Kd.R_reads' HO644.out).2.1); rintro e w' ⟨rfl, ⟨nd, rfl⟩⟩))
                                   go_roundg k4
                                   case measure => have := HJ15.out; have := HJ29.out; have := HJ31.out; have := HK4.out; omega
                                   case rel => exact ⟨(wrap64 (x175_4 + 1)), sr, H', ⟨by have := HJ15.out; have := HJ29.out; have := HJ31.out; have := HK4.out; omega⟩, ⟨by (with_reducible repeat (first | apply Kd.R_alloc | apply Kd.R_drewN | apply Kd.R_drew)); exact Kd.R_mono HO_19.out (fun _ hk => hk.1.1)⟩, ⟨by (with_reducible repeat (first | apply Kd.R_alloc | apply Kd.R_drewN | apply Kd.R_drew)); exact Kd.R_mono HO_21.out (fun _ hk => hk.1.1)⟩, ⟨by (with_reducible repeat (first | apply Kd.N_alloc | apply Kd.N_drewN | apply Kd.N_drew)); exact Kd.N_mono HO_173.out (fun _ hk => ⟨hk.1.1.1, hk.1.1.2⟩)⟩, ⟨bz⟩⟩
                                 ·replace c74 := Bool.eq_false_iff.mpr c74
                                  subst c74
                                  rw [if_neg (show ¬ (false = true) by decide)] at H
                                  have H' := Aside0.mk H
                                  clear H
                                  have p636 : 0 ≤ (x175_4 : Int) := of_decide_eq_true am
                                  have q636 : x175_4 < (y633.length : Int) := of_decide_eq_true am
                                  obtain ⟨ad636, A636_0, c636_0, e636, hx636_0, hl636_0, hi636_0⟩ := at_L2 (Kd.N_reads' HO_173.out).2.2 x175_4 p636 q636
                                  cases e636
                                  obtain ⟨ce636, hce636, hMe636, hcc636⟩ := Kd.N_get HO_173.out [] x175_4 p636 (by first | exact q636 | exact of_decide_eq_true am | (have e_ := (Kd.N_reads' HO_173.out).1; omega))
                                  obtain ⟨ua636_0, uc636_0, rfl, ul636_0, ge636_0⟩ := Kd.FK_slice_open hMe636
                                  have hv636_0 := hcc636 0 _ rfl
                                  rw [Nat.add_zero, show ((Kd.slice 3 (Kd.int .i64))).sz = 1 from rfl, Nat.mul_one] at hv636_0
                                  replace hv636_0 := Option.some.inj (hv636_0.symm.trans hx636_0)
                                  injection hv636_0 with hva_ hvn_ hvc_
                                  rw [hva_] at ge636_0
                                  rw [hvc_] at ul636_0
                                  have HL636_0 := Aside0.mk (show Kd.V (Kd.int .i64) 3 _ w.heap.size _ _ (rd_L2 y633 x175_4) from Kd.V_mk ul636_0 ge636_0)
                                  clear hva_ hvn_ hvc_ ge636_0 ul636_0 hcc636 hce636
                                  have HR636_0 := Aside0.mk hi636_0
                                  have HC636_0 := Aside0.mk hl636_0
                                  clear hi636_0 hl636_0
                                  replace p636 := eq_true p636
                                  replace q636 := eq_true q636
                                  go_wp2_with (first | ((with_reducible refine gate_callee (f := 6) rfl ?_); refine goesL_ (some 182) rfl rfl Try.func6 kf rfl #[.slice A636_0 (rd_L2 y633 x175_4).length c636_0, .slice Ao52 t621.length co52] rfl sm ?_; (with_reducible refine (impl_RemainderOf.calls k4 _ _ (rd_L2 y633 x175_4) _ _ t621 t637 t638 _ ?side1 ?side2 ?side3 ?side4 A69.out).mono ?_); (case side1 => repeat (first | exact (by repeat (first | (with_reducible exact HR636_0.out) | (with_reducible refine Kd.C_alloc ?_ _) | (with_reducible refine Kd.C_drewN ?_ _) | (with_reducible refine Kd.C_drew ?_) | exact HR636_0.out)) | (with_reducible refine Kd.C_alloc ?_ _) | (with_reducible refine Kd.C_drewN ?_ _) | (with_reducible refine Kd.C_drew ?_))); (case side2 => exact HC636_0.out); (case side3 => exact cr HO_19); (case side4 => exact (Kd.R_reads' HO_19.out).2.1); rintro e w80 ⟨v639, rfl, ho0, hb⟩; refine ⟨_, rfl, ?_⟩; have n0_ := Aside0.mk (Kd.R_elder' (kr HO_19) (Kd.R_base ho0) hb); have n1_ := Aside0.mk (Kd.R_elder' (kr HO_21) (Kd.R_base ho0) hb); have n2_ := Aside0.mk (Kd.N_elder' (kn HO_173) (Kd.R_base ho0) hb); have n3_ := Aside0.mk (Kd.V_elder' (kv HL636_0) (Kd.R_base ho0) hb); have n4_ := Aside0.mk (Kd.R_lower (Kd.R_new' (Kd.R_new' ho0 (Kd.R_lt (kr HO_19))) (Kd.R_lt (kr HO_21))) (below_size bz)); have n5_ := Aside0.mk (Kd.C_below (by repeat (first | (with_reducible exact HR636_0.out) | (with_reducible refine Kd.C_alloc ?_ _) | (with_reducible refine Kd.C_drewN ?_ _) | (with_reducible refine Kd.C_drew ?_) | exact HR636_0.out)) hb); have n6_ := Aside0.mk (below_step bz hb); clear HO_19; clear HO_21; clear HO_173; clear HL636_0; clear HR636_0; clear HB; have HO_19 := n0_; have HO_21 := n1_; have HO_173 := n2_; have HL636_0 := n3_; have HO640 := n4_; have HR636_0 := n5_; have HB := n6_; clear n0_ n1_ n2_ n3_ n4_ n5_ n6_; (try clear hb); (try clear hb2); (try clear hk); (try clear hi); (try clear ho0)) | ((with_reducible refine gate_callee (f := 7) rfl ?_); refine goesL_ (some 188) rfl rfl Try.func7 kf rfl #[.slice A636_0 (rd_L2 y633 x175_4).length c636_0, .slice (some ad632) t625.length co53] rfl sm ?_; (with_reducible refine (spec_RemainderOf.calls k4 _ _ (rd_L2 y633 x175_4) _ _ t625 t641 false _ ?side1 ?side2 ?side3 ?side4 A70.out).mono ?_); (case side1 => repeat (first | exact (by repeat (first | (with_reducible exact HR636_0.out) | (with_reducible refine Kd.C_alloc ?_ _) | (with_reducible refine Kd.C_drewN ?_ _) | (with_reducible refine Kd.C_drew ?_) | exact HR636_0.out)) | (with_reducible refine Kd.C_alloc ?_ _) | (with_reducible refine Kd.C_drewN ?_ _) | (with_reducible refine Kd.C_drew ?_))); (case side2 => exact HC636_0.out); (case side3 => exact cr HO_21); (case side4 => exact (Kd.R_reads' HO_21.out).2.1); rintro e w81 ⟨v643, rfl, ho0, hb⟩; refine ⟨_, rfl, ?_⟩; have n0_ := Aside0.mk (Kd.R_elder' (kr HO_19) (Kd.R_base ho0) hb); have n1_ := Aside0.mk (Kd.R_elder' (kr HO_21) (Kd.R_base ho0) hb); have n2_ := Aside0.mk (Kd.N_elder' (kn HO_173) (Kd.R_base ho0) hb); have n3_ := Aside0.mk (Kd.V_elder' (kv HL636_0) (Kd.R_base ho0) hb); have n4_ := Aside0.mk (Kd.R_elder' (kr HO640) (Kd.R_base ho0) hb); have n5_ := Aside0.mk (Kd.R_lower (Kd.R_new' (Kd.R_new' (Kd.R_new' ho0 (Kd.R_lt (kr HO_19))) (Kd.R_lt (kr HO_21))) (Kd.R_lt (kr HO640))) (below_size bz)); have n6_ := Aside0.mk (Kd.C_below (by repeat (first | (with_reducible exact HR636_0.out) | (with_reducible refine Kd.C_alloc ?_ _) | (with_reducible refine Kd.C_drewN ?_ _) | (with_reducible refine Kd.C_drew ?_) | exact HR636_0.out)) hb); have n7_ := Aside0.mk (below_step bz hb); clear HO_19; clear HO_21; clear HO_173; clear HL636_0; clear HO640; clear HR636_0; clear HB; have HO_19 := n0_; have HO_21 := n1_; have HO_173 := n2_; have HL636_0 := n3_; have HO640 := n4_; have HO644 := n5_; have HR636_0 := n6_; have HB := n7_; clear n0_ n1_ n2_ n3_ n4_ n5_ n6_ n7_; (try clear hb); (try clear hb2); (try clear hk); (try clear hi); (try clear ho0); obtain ⟨Ao82, co82, eo82⟩ := Kd.R_slice HO640.out; subst eo82; obtain ⟨Ao83, co83, eo83⟩ := Kd.R_slice HO644.out; subst eo83) | (go_at_call 10; (with_reducible refine (laws_sameInts.calls k4 _ _ t637 _ _ t641 true _ ?side1 ?side2 ?side3 ?side4 A72.out).mono ?_); (case side1 => exact cr HO640); (case side2 => exact (Kd.R_reads' HO640.out).2.1); (case side3 => exact cr HO644); (case side4 => exact (Kd.R_reads' HO644.out).2.1); rintro e w' ⟨rfl, ⟨nd, rfl⟩⟩))
                                  go_roundg k4
                                  case measure => have := HJ15.out; have := HJ29.out; have := HJ31.out; have := HK4.out; omega
                                  case rel => exact ⟨(wrap64 (x175_4 + 1)), sr, H', ⟨by have := HJ15.out; have := HJ29.out; have := HJ31.out; have := HK4.out; omega⟩, ⟨by (with_reducible repeat (first | apply Kd.R_alloc | apply Kd.R_drewN | apply Kd.R_drew)); exact Kd.R_mono HO_19.out (fun _ hk => hk.1.1)⟩, ⟨by (with_reducible repeat (first | apply Kd.R_alloc | apply Kd.R_drewN | apply Kd.R_drew)); exact Kd.R_mono HO_21.out (fun _ hk => hk.1.1)⟩, ⟨by (with_reducible repeat (first | apply Kd.N_alloc | apply Kd.N_drewN | apply Kd.N_drew)); exact Kd.N_mono HO_173.out (fun _ hk => ⟨hk.1.1.1, hk.1.1.2⟩)⟩, ⟨bz⟩⟩
                                ·replace c73 := Bool.eq_false_iff.mpr c73
                                 subst c73
                                 rw [if_neg (show ¬ (false = true) by decide)] at H
                                 exact absurd H (by simp)
                              ·rw [if_neg c68] at H
                               exact absurd H (by simp)
                             ·rw [if_neg c67] at H
                              exact absurd H (by simp)
                            ·rw [if_neg c66] at H
                             have c66b0 : decide (x175_4 < (y633.length : Int)) = false := decide_eq_false c66
                             clear c66
                             have H' := Aside0.mk H
                             clear H
                             go_wp2
                             go_meet
                             case rel => exact ⟨_, H', ⟨by have := HJ15.out; have := HJ29.out; have := HJ31.out; have := HK4.out; first | omega | exact Nat.le_refl _⟩, ⟨bz⟩⟩
                        ·rw [if_neg c60] at H
                         exact absurd H (by simp)
                       ·rw [if_neg c59] at H
                        exact absurd H (by simp)
                      ·rw [if_neg c57] at H
                       exact absurd H (by simp)
                     ·replace c56 := Bool.eq_false_iff.mpr c56
                      subst c56
                      rw [if_neg (show ¬ (false = true) by decide)] at H
                      exact absurd H (by simp)
                    ·replace c54 := Bool.eq_false_iff.mpr c54
                     subst c54
                     rw [if_neg (show ¬ (false = true) by decide)] at H
                     have H' := Aside0.mk H
                     clear H
                     go_wp2
                     go_meet
                     case rel => exact ⟨_, H', ⟨by have := HJ15.out; have := HJ29.out; have := HJ31.out; first | omega | exact Nat.le_refl _⟩, ⟨bz⟩⟩
                  case rest =>
                   as_aux_lemma =>
                    clear HC46
                    try clear c1; try clear c2; try clear p2; try clear c3; try clear c4; try clear c5; try clear c6; try clear p6; try clear q6; try clear hx6; try clear c7; try clear c8; try clear c9; try clear c10; try clear c10b0; try clear c10b1; try clear c10b2; try clear c11; try clear c12; try clear c13; try clear c13b0; try clear c13b1; try clear c13b2; try clear c14; try clear c15; try clear c28; try clear c29; try clear c31; try clear c33; try clear c35; try clear c37; try clear c43; try clear c43b0; try clear c43b1; try clear c43b2; try clear c45; try clear c54; try clear c56; try clear c57; try clear c57b0; try clear c57b1; try clear c59; try clear c59b0; try clear c60; try clear c60b0; try clear c61; try clear c61b0; try clear c63; try clear p63; try clear q63; try clear hx63; try clear p64; try clear c66; try clear c66b0; try clear c67; try clear c67b0; try clear c68; try clear c68b0; try clear c71; try clear c71b0; try clear c71b1; try clear c71b2; try clear c73; try clear c74; try clear c75; try clear c75b0; try clear c75b1; try clear hx632_0; try clear hx636_0; try clear p2; try clear p6; try clear p63; try clear p632; try clear p636; try clear p64; try clear q6; try clear q63; try clear q632; try clear q636
                    obtain ⟨kq, HA, HJ45, HB⟩ := hcut
                    cases kq with
                    | zero => exact absurd HA.out (by simp [laws_FnSingles.j4])
                    | succ kj45 =>
                     have H := HA.out
                     clear HA
                     simp only [laws_FnSingles.j4] at H
                     obtain ⟨⟨t646, t647⟩, A84, H⟩ := bi H
                     try dsimp only at H
                     obtain ⟨⟨t652, t653⟩, A85, H⟩ := bi H
                     try dsimp only at H
                     obtain ⟨⟨t656, t657⟩, A86, H⟩ := bi H
                     try dsimp only at H
                     by_cases c87 : (t653 != t657) = true
                     ·rw [if_pos c87] at H
                      exact absurd H (by simp)
                     ·rw [if_neg c87] at H
                      have c87b0 : (t653 != t657) = false := by simpa using c87
                      (try (have c87b1 : decide (t653 = t657) = true := by simpa using c87))
                      (try (have c87b2 : (t653 == t657) = true := by simpa using c87))
                      clear c87
                      obtain ⟨t660, A88, H⟩ := bi H
                      by_cases c89 : t660 = true
                      ·subst c89
                       rw [if_pos rfl] at H
                       have HC90 := Aside0.mk H
                       clear H
                       go_upto_if 235 with (first | ((with_reducible refine gate_callee (f := 16) rfl ?_); refine goesL_ (some 211) rfl rfl Try.func16 kf rfl #[.slice A1 l1.length c1] rfl sm ?_; (with_reducible refine (spec_DrawQuotientOf.calls kj45 _ _ l1 t646 t647 _ ?side1 ?side2 A84.out).mono ?_); (case side1 => exact cb HR1); (case side2 => exact HC1.out); rintro e w91 ⟨v648, v650, rfl, ho0, ho1, hb⟩; refine ⟨_, rfl, ?_⟩; have n0_ := Aside0.mk (Kd.R_lower ho0 (below_size bz)); have n1_ := Aside0.mk (Kd.Q_lower ho1 (below_size bz)); have n2_ := Aside0.mk (below_step bz hb); clear HB; have HO649 := n0_; have HO651 := n1_; have HB := n2_; clear n0_ n1_ n2_; (try clear hb); (try clear hb2); (try clear hk); (try clear hi); (try clear ho0); (try clear ho1); obtain ⟨Ao92, co92, eo92⟩ := Kd.R_slice HO649.out; subst eo92; obtain ⟨Ao93, co93, eo93, _⟩ := Kd.Q_slice HO651.out; subst eo93) | ((with_reducible refine gate_callee (f := 11) rfl ?_); refine goesL_ (some 217) rfl rfl Try.func11 kf rfl #[.slice Ao92 t646.length co92, .slice Ao93 t647.length co93] rfl sm ?_; (with_reducible refine (impl_QuotientOf.calls kj45 _ _ t646 _ _ t647 t652 t653 _ ?side1 ?side2 ?side3 ?side4 A85.out).mono ?_); (case side1 => exact cr HO649); (case side2 => exact (Kd.R_reads' HO649.out).2.1); (case side3 => repeat (first | exact (Kd.Q_reads' HO651.out).2.2 | (with_reducible refine Kd.C_alloc ?_ _) | (with_reducible refine Kd.C_drewN ?_ _) | (with_reducible refine Kd.C_drew ?_))); (case side4 => exact (Kd.Q_reads' HO651.out).2.1); rintro e w94 ⟨v654, rfl, ho0, hb⟩; refine ⟨_, rfl, ?_⟩; have n0_ := Aside0.mk (Kd.R_elder' (kr HO649) (Kd.R_base ho0) hb); have n1_ := Aside0.mk (Kd.Q_elder' (by (with_reducible repeat (first | apply Kd.Q_alloc | apply Kd.Q_drewN | apply Kd.Q_drew)); exact HO651.out) (Kd.R_base ho0) hb); have n2_ := Aside0.mk (Kd.R_lower (Kd.R_new' (Kd.R_new' ho0 (Kd.R_lt (kr HO649))) (Kd.Q_lt (by (with_reducible repeat (first | apply Kd.Q_alloc | apply Kd.Q_drewN | apply Kd.Q_drew)); exact HO651.out))) (below_size bz)); have n3_ := Aside0.mk (below_step bz hb); clear HO649; clear HO651; clear HB; have HO649 := n0_; have HO651 := n1_; have HO655 := n2_; have HB := n3_; clear n0_ n1_ n2_ n3_; (try clear hb); (try clear hb2); (try clear hk); (try clear hi); (try clear ho0)) | ((with_reducible refine gate_callee (f := 17) rfl ?_); refine goesL_ (some 223) rfl rfl Try.func17 kf rfl #[.slice Ao92 t646.length co92, .slice Ao93 t647.length co93] rfl sm ?_; (with_reducible refine (spec_QuotientOf.calls kj45 _ _ t646 _ _ t647 t656 t657 _ ?side1 ?side2 ?side3 ?side4 A86.out).mono ?_); (case side1 => exact cr HO649); (case side2 => exact (Kd.R_reads' HO649.out).2.1); (case side3 => repeat (first | exact (Kd.Q_reads' HO651.out).2.2 | (with_reducible refine Kd.C_alloc ?_ _) | (with_reducible refine Kd.C_drewN ?_ _) | (with_reducible refine Kd.C_drew ?_))); (case side4 => exact (Kd.Q_reads' HO651.out).2.1); rintro e w95 ⟨v658, rfl, ho0, hb⟩; refine ⟨_, rfl, ?_⟩; have n0_ := Aside0.mk (Kd.R_elder' (kr HO649) (Kd.R_base ho0) hb); have n1_ := Aside0.mk (Kd.Q_elder' (by (with_reducible repeat (first | apply Kd.Q_alloc | apply Kd.Q_drewN | apply Kd.Q_drew)); exact HO651.out) (Kd.R_base ho0) hb); have n2_ := Aside0.mk (Kd.R_elder' (kr HO655) (Kd.R_base ho0) hb); have n3_ := Aside0.mk (Kd.R_lower (Kd.R_new' (Kd.R_new' (Kd.R_new' ho0 (Kd.R_lt (kr HO649))) (Kd.Q_lt (by (with_reducible repeat (first | apply Kd.Q_alloc | apply Kd.Q_drewN | apply Kd.Q_drew)); exact HO651.out))) (Kd.R_lt (kr HO655))) (below_size bz)); have n4_ := Aside0.mk (below_step bz hb); clear HO649; clear HO651; clear HO655; clear HB; have HO649 := n0_; have HO651 := n1_; have HO655 := n2_; have HO659 := n3_; have HB := n4_; clear n0_ n1_ n2_ n3_ n4_; (try clear hb); (try clear hb2); (try clear hk); (try clear hi); (try clear ho0); obtain ⟨Ao96, co96, eo96⟩ := Kd.R_slice HO655.out; subst eo96; obtain ⟨Ao97, co97, eo97⟩ := Kd.R_slice HO659.out; subst eo97) | (go_at_call 10; (with_reducible refine (laws_sameInts.calls kj45 _ _ t652 _ _ t656 true _ ?side1 ?side2 ?side3 ?side4 A88.out).mono ?_); (case side1 => exact cr HO655); (case side2 => exact (Kd.R_reads' HO655.out).2.1); (case side3 => exact cr HO659); (case side4 => exact (Kd.R_reads' HO659.out).2.1); rintro e w' ⟨rfl, ⟨nd, rfl⟩⟩))
                       (try simp only [Act.put, List.setIfInBounds_toArray, List.set_cons_zero, List.set_cons_succ])
                       go_cut [] (fun wc => ∃ (kq : Nat), Aside0 (laws_FnSingles.j5 kq l1 = some r) ∧ Aside0 (kq ≤ kj45) ∧ Aside0 (Below w.heap.size w wc))
                       case first =>
                        as_aux_lemma =>
                         have H := HC90.out
                         clear HC90
                         by_cases c98 : t653 = true
                         ·subst c98
                          rw [if_pos rfl] at H
                          obtain ⟨⟨t661, t662⟩, A99, H⟩ := bi H
                          try dsimp only at H
                          by_cases c100 : t662 = true
                          ·subst c100
                           rw [if_pos rfl] at H
                           obtain ⟨t665, A101, H⟩ := bi H
                           by_cases c102 : t665 = true
                           ·subst c102
                            rw [if_pos rfl] at H
                            have H' := Aside0.mk H
                            clear H
                            go_wp2_with (first | ((with_reducible refine gate_callee (f := 8) rfl ?_); refine goesL_ (some 239) rfl rfl Try.func8 kf rfl #[.slice Ao96 t652.length co96, .slice Ao93 t647.length co93] rfl sm ?_; (with_reducible refine (impl_MultiplySingle.calls kj45 _ _ t652 _ _ t647 t661 true _ ?side1 ?side2 ?side3 ?side4 A99.out).mono ?_); (case side1 => exact cr HO655); (case side2 => exact (Kd.R_reads' HO655.out).2.1); (case side3 => repeat (first | exact (Kd.Q_reads' HO651.out).2.2 | (with_reducible refine Kd.C_alloc ?_ _) | (with_reducible refine Kd.C_drewN ?_ _) | (with_reducible refine Kd.C_drew ?_))); (case side4 => exact (Kd.Q_reads' HO651.out).2.1); rintro e w103 ⟨v663, rfl, ho0, hb⟩; refine ⟨_, rfl, ?_⟩; have n0_ := Aside0.mk (Kd.R_elder' (kr HO649) (Kd.R_base ho0) hb); have n1_ := Aside0.mk (Kd.Q_elder' (by (with_reducible repeat (first | apply Kd.Q_alloc | apply Kd.Q_drewN | apply Kd.Q_drew)); exact HO651.out) (Kd.R_base ho0) hb); have n2_ := Aside0.mk (Kd.R_elder' (kr HO655) (Kd.R_base ho0) hb); have n3_ := Aside0.mk (Kd.R_elder' (kr HO659) (Kd.R_base ho0) hb); have n4_ := Aside0.mk (Kd.R_lower (Kd.R_new' (Kd.R_new' (Kd.R_new' (Kd.R_new' ho0 (Kd.R_lt (kr HO649))) (Kd.Q_lt (by (with_reducible repeat (first | apply Kd.Q_alloc | apply Kd.Q_drewN | apply Kd.Q_drew)); exact HO651.out))) (Kd.R_lt (kr HO655))) (Kd.R_lt (kr HO659))) (below_size bz)); have n5_ := Aside0.mk (below_step bz hb); clear HO649; clear HO651; clear HO655; clear HO659; clear HB; have HO649 := n0_; have HO651 := n1_; have HO655 := n2_; have HO659 := n3_; have HO664 := n4_; have HB := n5_; clear n0_ n1_ n2_ n3_ n4_ n5_; (try clear hb); (try clear hb2); (try clear hk); (try clear hi); (try clear ho0); obtain ⟨Ao104, co104, eo104⟩ := Kd.R_slice HO664.out; subst eo104) | (go_at_call 10; (with_reducible refine (laws_sameInts.calls kj45 _ _ t661 _ _ t646 true _ ?side1 ?side2 ?side3 ?side4 A101.out).mono ?_); (case side1 => exact cr HO664); (case side2 => exact (Kd.R_reads' HO664.out).2.1); (case side3 => exact cr HO649); (case side4 => exact (Kd.R_reads' HO649.out).2.1); rintro e w' ⟨rfl, ⟨nd, rfl⟩⟩))
                            go_meet
                            case rel => exact ⟨_, H', ⟨by have := HJ15.out; have := HJ29.out; have := HJ31.out; have := HJ45.out; first | omega | exact Nat.le_refl _⟩, ⟨bz⟩⟩
                           ·replace c102 := Bool.eq_false_iff.mpr c102
                            subst c102
                            rw [if_neg (show ¬ (false = true) by decide)] at H
                            exact absurd H (by simp)
                          ·replace c100 := Bool.eq_false_iff.mpr c100
                           subst c100
                           rw [if_neg (show ¬ (false = true) by decide)] at H
                           exact absurd H (by simp)
                         ·replace c98 := Bool.eq_false_iff.mpr c98
                          subst c98
                          rw [if_neg (show ¬ (false = true) by decide)] at H
                          have H' := Aside0.mk H
                          clear H
                          go_wp2
                          go_meet
                          case rel => exact ⟨_, H', ⟨by have := HJ15.out; have := HJ29.out; have := HJ31.out; have := HJ45.out; first | omega | exact Nat.le_refl _⟩, ⟨bz⟩⟩
                       case rest =>
                        as_aux_lemma =>
                         clear HC90
                         try clear c1; try clear c2; try clear p2; try clear c3; try clear c4; try clear c5; try clear c6; try clear p6; try clear q6; try clear hx6; try clear c7; try clear c8; try clear c9; try clear c10; try clear c10b0; try clear c10b1; try clear c10b2; try clear c11; try clear c12; try clear c13; try clear c13b0; try clear c13b1; try clear c13b2; try clear c14; try clear c15; try clear c16; try clear c17; try clear c28; try clear c29; try clear c31; try clear c33; try clear c35; try clear c37; try clear c43; try clear c43b0; try clear c43b1; try clear c43b2; try clear c45; try clear c54; try clear c56; try clear c57; try clear c57b0; try clear c57b1; try clear c59; try clear c59b0; try clear c60; try clear c60b0; try clear c61; try clear c61b0; try clear c63; try clear p63; try clear q63; try clear hx63; try clear p64; try clear c66; try clear c66b0; try clear c67; try clear c67b0; try clear c68; try clear c68b0; try clear c71; try clear c71b0; try clear c71b1; try clear c71b2; try clear c73; try clear c74; try clear c75; try clear c75b0; try clear c75b1; try clear c87; try clear c87b0; try clear c87b1; try clear c87b2; try clear c89; try clear c98; try clear c100; try clear c102; try clear hx632_0; try clear hx636_0; try clear p2; try clear p6; try clear p63; try clear p632; try clear p636; try clear p64; try clear q6; try clear q63; try clear q632; try clear q636
                         obtain ⟨kq, HA, HJ89, HB⟩ := hcut
                         cases kq with
                         | zero => exact absurd HA.out (by simp [laws_FnSingles.j5])
                         | succ kj89 =>
                          have H := HA.out
                          clear HA
                          simp only [laws_FnSingles.j5] at H
                          obtain ⟨t666, A105, H⟩ := bi H
                          obtain ⟨⟨t669, t670⟩, A106, H⟩ := bi H
                          try dsimp only at H
                          obtain ⟨⟨t673, t674⟩, A107, H⟩ := bi H
                          try dsimp only at H
                          by_cases c108 : (t670 == t674) = true
                          ·rw [if_pos c108] at H
                           have c108b0 : (t670 == t674) = true := c108
                           (try (have c108b1 : decide (t670 = t674) = true := by simpa using c108))
                           (try (have c108b2 : (t670 == t674) = true := by simpa using c108))
                           clear c108
                           obtain ⟨t677, A109, H⟩ := bi H
                           by_cases c110 : t677 = true
                           ·subst c110
                            rw [if_pos rfl] at H
                            obtain ⟨t678, A111, H⟩ := bi H
                            obtain ⟨t679, A112, H⟩ := bi H
                            obtain rfl := Option.some.inj H
                            go_wp2_with (first | ((with_reducible refine gate_callee (f := 18) rfl ?_); refine goesL_ (some 251) rfl rfl Try.func18 kf rfl #[.slice A1 l1.length c1] rfl sm ?_; (with_reducible refine (spec_DrawDeriveSingle.calls kj89 _ _ l1 t666 _ ?side1 ?side2 A105.out).mono ?_); (case side1 => exact cb HR1); (case side2 => exact HC1.out); rintro e w113 ⟨v667, rfl, ho0, hb⟩; refine ⟨_, rfl, ?_⟩; have n0_ := Aside0.mk (Kd.R_lower ho0 (below_size bz)); have n1_ := Aside0.mk (below_step bz hb); clear HB; have HO668 := n0_; have HB := n1_; clear n0_ n1_; (try clear hb); (try clear hb2); (try clear hk); (try clear hi); (try clear ho0); obtain ⟨Ao114, co114, eo114⟩ := Kd.R_slice HO668.out; subst eo114) | ((with_reducible refine gate_callee (f := 19) rfl ?_); refine goesL_ (some 254) rfl rfl Try.func19 kf rfl #[.slice Ao114 t666.length co114] rfl sm ?_; (with_reducible refine (impl_DeriveSingle.calls kj89 _ _ t666 t669 t670 _ ?side1 ?side2 A106.out).mono ?_); (case side1 => exact cr HO668); (case side2 => exact (Kd.R_reads' HO668.out).2.1); rintro e w115 ⟨v671, rfl, ho0, hb⟩; refine ⟨_, rfl, ?_⟩; have n0_ := Aside0.mk (Kd.R_elder' (kr HO668) (Kd.R_base ho0) hb); have n1_ := Aside0.mk (Kd.R_lower (Kd.R_new' ho0 (Kd.R_lt (kr HO668))) (below_size bz)); have n2_ := Aside0.mk (below_step bz hb); clear HO668; clear HB; have HO668 := n0_; have HO672 := n1_; have HB := n2_; clear n0_ n1_ n2_; (try clear hb); (try clear hb2); (try clear hk); (try clear hi); (try clear ho0)) | ((with_reducible refine gate_callee (f := 20) rfl ?_); refine goesL_ (some 259) rfl rfl Try.func20 kf rfl #[.slice Ao114 t666.length co114] rfl sm ?_; (with_reducible refine (spec_DeriveSingle.calls kj89 _ _ t666 t673 t674 _ ?side1 ?side2 A107.out).mono ?_); (case side1 => exact cr HO668); (case side2 => exact (Kd.R_reads' HO668.out).2.1); rintro e w116 ⟨v675, rfl, ho0, hb⟩; refine ⟨_, rfl, ?_⟩; have n0_ := Aside0.mk (Kd.R_elder' (kr HO668) (Kd.R_base ho0) hb); have n1_ := Aside0.mk (Kd.R_elder' (kr HO672) (Kd.R_base ho0) hb); have n2_ := Aside0.mk (Kd.R_lower (Kd.R_new' (Kd.R_new' ho0 (Kd.R_lt (kr HO668))) (Kd.R_lt (kr HO672))) (below_size bz)); have n3_ := Aside0.mk (below_step bz hb); clear HO668; clear HO672; clear HB; have HO668 := n0_; have HO672 := n1_; have HO676 := n2_; have HB := n3_; clear n0_ n1_ n2_ n3_; (try clear hb); (try clear hb2); (try clear hk); (try clear hi); (try clear ho0); obtain ⟨Ao117, co117, eo117⟩ := Kd.R_slice HO672.out; subst eo117; obtain ⟨Ao118, co118, eo118⟩ := Kd.R_slice HO676.out; subst eo118) | (go_at_call 10; (with_reducible refine (laws_sameInts.calls kj89 _ _ t669 _ _ t673 true _ ?side1 ?side2 ?side3 ?side4 A109.out).mono ?_); (case side1 => exact cr HO672); (case side2 => exact (Kd.R_reads' HO672.out).2.1); (case side3 => exact cr HO676); (case side4 => exact (Kd.R_reads' HO676.out).2.1); rintro e w' ⟨rfl, ⟨nd, rfl⟩⟩) | (go_at_call 21; (with_reducible refine (impl_IsSingle.calls kj89 _ _ t666 t678 _ ?side1 ?side2 A111.out).mono ?_); (case side1 => exact cr HO668); (case side2 => exact (Kd.R_reads' HO668.out).2.1); rintro e w' ⟨rfl, ⟨nd, rfl⟩⟩) | (go_at_call 22; (with_reducible refine (spec_IsSingle.calls kj89 _ _ t666 t679 _ ?side1 ?side2 A112.out).mono ?_); (case side1 => exact cr HO668); (case side2 => exact (Kd.R_reads' HO668.out).2.1); rintro e w' ⟨rfl, ⟨nd, rfl⟩⟩))
                            go_ret
                            exact ⟨er, bz⟩
                           ·replace c110 := Bool.eq_false_iff.mpr c110
                            subst c110
                            rw [if_neg (show ¬ (false = true) by decide)] at H
                            exact absurd H (by simp)
                          ·rw [if_neg c108] at H
                           exact absurd H (by simp)
                      ·replace c89 := Bool.eq_false_iff.mpr c89
                       subst c89
                       rw [if_neg (show ¬ (false = true) by decide)] at H
                       exact absurd H (by simp)
                 ·replace c45 := Bool.eq_false_iff.mpr c45
                  subst c45
                  rw [if_neg (show ¬ (false = true) by decide)] at H
                  exact absurd H (by simp)
     ·replace c15 := Bool.eq_false_iff.mpr c15
      subst c15
      rw [if_neg (show ¬ (false = true) by decide)] at H
      exact absurd H (by simp)
   ·replace c12 := Bool.eq_false_iff.mpr c12
    subst c12
    rw [if_neg (show ¬ (false = true) by decide)] at H
    exact absurd H (by simp)
def laws_FnSingles.Pure : Prop := ∀ (l0 : List Int) (l1 : List Int), l0.length ≤ maxLen → l0.length * 1 ≤ 140737488351232 → (∀ x ∈ l0, (Lit.int .u8 x).wf = true) → l1.length ≤ maxLen → l1.length * 1 ≤ 140737488351232 → (∀ x ∈ l1, (Lit.int .u8 x).wf = true) → ∃ k, laws_FnSingles.f k l0 l1 = some true
theorem laws_FnSingles.walk (P : laws_FnSingles.Pure) (a0 : Option Addr) (len0 cap0 : Nat) (z0 : List Int) (a1 : Option Addr) (len1 cap1 : Nat) (z1 : List Int) (w : World) (w0 : (a0 = none ∧ len0 = 0 ∧ cap0 = 0 ∧ z0 = []) ∨ ∃ x, a0 = some x ∧ len0 ≤ cap0 ∧ cap0 ≤ maxLen ∧ z0.length = cap0 ∧ (∀ i, i < z0.length → w.cell? (x.add i) = some (.int .u8 (z0.getD i 0))) ∧ ∀ n ∈ z0, (Lit.int .u8 n).wf = true) (y0 : len0 * 1 ≤ 140737488351232) (w1 : (a1 = none ∧ len1 = 0 ∧ cap1 = 0 ∧ z1 = []) ∨ ∃ x, a1 = some x ∧ len1 ≤ cap1 ∧ cap1 ≤ maxLen ∧ z1.length = cap1 ∧ (∀ i, i < z1.length → w.cell? (x.add i) = some (.int .u8 (z1.getD i 0))) ∧ ∀ n ∈ z1, (Lit.int .u8 n).wf = true) (y1 : len1 * 1 ≤ 140737488351232) :
 Calls Try.prog 3 #[.slice a0 len0 cap0, .slice a1 len1 cap1] w fun e w' => e = .returned (.bool true) ∧ Below w.heap.size w w' := by
 obtain ⟨l0, rfl, hr0, hm0, hw0, hc0⟩ := ReadsInt.ofRowC w0
 obtain ⟨l1, rfl, hr1, hm1, hw1, hc1⟩ := ReadsInt.ofRowC w1
 obtain ⟨k, h⟩ := P l0 l1 hm0 y0 hw0 hm1 y1 hw1
 refine (laws_FnSingles.calls k _ _ l0 _ _ l1 true w (Kd.C_of_reads (d := (0 : Int)) (h1 := fun _ => rfl) hr0) hc0 (Kd.C_of_reads (d := (0 : Int)) (h1 := fun _ => rfl) hr1) hc1 h).mono ?_
 rintro e w' ⟨rfl, hd⟩
 exact ⟨rfl, hd⟩
end Go.Proofs.Ytgkpbbmacjgilaa.QSgs
