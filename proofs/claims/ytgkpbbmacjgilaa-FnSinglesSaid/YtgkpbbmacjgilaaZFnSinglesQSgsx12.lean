import Derived.Test.YtgkpbbmacjgilaaZFnSinglesSq
import Derived.Test.YtgkpbbmacjgilaaZFnSinglesQSgsx2
import Derived.Test.YtgkpbbmacjgilaaZFnSinglesQSgsx4
import Derived.Test.YtgkpbbmacjgilaaZFnSinglesQSgsx7
namespace Go.Proofs.Ytgkpbbmacjgilaa.QSgs
open Go.RowKit Go.Proofs.YtgkpbbmacjgilaaW.PrintWords Go.Proofs.YtgkpbbmacjgilaaW.PrintLast Go.Proofs.YtgkpbbmacjgilaaW.PrintMore
attribute [local go_sem] max2_int min2_int max_two min_two max_three min_three max_four min_four
set_option linter.unusedVariables false
set_option linter.unusedSimpArgs false
mutual
def spec_sgUp.j0 : Nat → List Int → Bool → Option (List Int)
 | 0, _, _ => none
 | k + 1, x0, x17 => if x17 = true then (spec_sgUp.l0 k x0 (x0.length : Int) 0) else (some x0)
def spec_sgUp.l0 : Nat → List Int → Int → Int → Option (List Int)
 | 0, _, _, _ => none
 | k + 1, x0, x19, x20 => if x20 < x19 then (if 0 ≤ x20 then (if x20 < (x0.length : Int) then (spec_sgUp.l0 k (x0.set (x20 : Int).toNat (wrap64 (-(rd x0 x20)))) x19 (wrap64 (x20 + 1))) else (none)) else (none)) else (some x0)
end
def spec_sgUp.f (k : Nat) (l0 : List Int) : Option (List Int) := (spec_sgPart.f k l0).bind fun t487 => (if (t487.length : Int) > 0 then (if 0 ≤ (wrap64 ((t487.length : Int) - 1)) then (if (wrap64 ((t487.length : Int) - 1)) < (t487.length : Int) then (spec_sgUp.j0 k t487 (decide ((rd t487 (wrap64 ((t487.length : Int) - 1))) < 0))) else (none)) else (none)) else (spec_sgUp.j0 k t487 false))
set_option maxHeartbeats 8000000 in
set_option maxRecDepth 100000 in
theorem spec_sgUp.calls (k : Nat) (A0 : Option Addr) (c0 : Nat) (l0 : List Int) (r : List Int) (w : World) (hr0 : Kd.C (Kd.int .i64) w A0 l0.length l0) (hc0 : l0.length ≤ c0) (h : spec_sgUp.f k l0 = some r) :
 Calls Try.prog 57 #[.slice A0 l0.length c0] w fun e w' => ∃ v0_ : Value, e = .returned (v0_) ∧ Kd.R (Kd.int .i64) 3 w' w.heap.size (fun _ => True) v0_ r ∧ Below w.heap.size w w' := by
 have HR0 := Aside0.mk hr0
 have HC0 := Aside0.mk hc0
 clear hr0 hc0
 have HB := Aside0.mk (Below.refl w.heap.size w)
 have H : ((spec_sgPart.f k l0).bind fun t487 => (if (t487.length : Int) > 0 then (if 0 ≤ (wrap64 ((t487.length : Int) - 1)) then (if (wrap64 ((t487.length : Int) - 1)) < (t487.length : Int) then (spec_sgUp.j0 k t487 (decide ((rd t487 (wrap64 ((t487.length : Int) - 1))) < 0))) else (none)) else (none)) else (spec_sgUp.j0 k t487 false))) = some r := h
 clear h
 obtain ⟨t487, A2, H⟩ := bi H
 have HC3 := Aside0.mk H
 clear H
 go_enter Try.func57, Try.ntmps57
 go_upto_region 2 with (first | ((with_reducible refine gate_callee (f := 51) rfl ?_); refine goesL_ (some 5) rfl rfl Try.func51 kf rfl #[.slice A0 l0.length c0] rfl sm ?_; (with_reducible refine (spec_sgPart.calls k _ _ l0 t487 _ ?side1 ?side2 A2.out).mono ?_); (case side1 => exact cc HR0); (case side2 => exact HC0.out); rintro e w4 ⟨v488, rfl, ho0, hb⟩; refine ⟨_, rfl, ?_⟩; have n0_ := Aside0.mk (Kd.R_lower ho0 (below_size bz)); have n1_ := Aside0.mk (below_step bz hb); clear HB; have HO489 := n0_; have HB := n1_; clear n0_ n1_; (try clear hb); (try clear hb2); (try clear hk); (try clear hi); (try clear ho0)))
 (try simp only [Act.put, List.setIfInBounds_toArray, List.set_cons_zero, List.set_cons_succ])
 go_cut [17] (fun v17 wc => ∃ (kq : Nat) (x17_2 : Bool), v17 = .bool x17_2 ∧ Aside0 (spec_sgUp.j0 kq t487 x17_2 = some r) ∧ Aside0 (kq ≤ k) ∧ Aside0 (Kd.R (Kd.int .i64) 3 wc w.heap.size (fun _ => True) v488 t487) ∧ Aside0 (Below w.heap.size w wc))
 case first =>
  have H := HC3.out
  clear HC3
  by_cases c5 : (t487.length : Int) > 0
  ·rw [if_pos c5] at H
   have c5b0 : decide (0 < (t487.length : Int)) = true := decide_eq_true c5
   have c5b1 : decide (0 < t487.length) = true := decide_eq_true (by omega)
   clear c5
   (first | rw [c5b0] | (simp only [i64_w, i32_w]; rw [c5b0]) | skip)
   obtain ⟨ji6, hji6⟩ : ∃ j_ : Int, (wrap64 ((t487.length : Int) - 1)) = j_ := ⟨_, rfl⟩
   first | rw [hji6] at H | simp only [hji6] at H
   have hji6w : (IntKind.i64.wrap ((t487.length : Int) - 1)) = ji6 := (i64_w _).trans hji6
   by_cases c7 : 0 ≤ (ji6)
   ·rw [if_pos c7] at H
    have c7b0 : decide (0 ≤ (ji6)) = true := decide_eq_true c7
    clear c7
    by_cases c8 : (ji6) < (t487.length : Int)
    ·rw [if_pos c8] at H
     have c8b0 : decide ((ji6) < (t487.length : Int)) = true := decide_eq_true c8
     clear c8
     have H' := Aside0.mk H
     clear H
     obtain ⟨Ao9, co9, eo9⟩ := Kd.R_slice HO489.out
     subst eo9
     have p490 : 0 ≤ ((ji6) : Int) := of_decide_eq_true am
     have q490 : (ji6) < (t487.length : Int) := of_decide_eq_true am
     obtain ⟨ad490, e490, hx490_0⟩ := Kd.at_int (Kd.R_reads' HO489.out).2.2 (ji6) p490 q490
     cases e490
     replace p490 := eq_true p490
     replace q490 := eq_true q490
     go_wp2
     go_meet
     case rel => exact ⟨_, (decide ((rd t487 (ji6)) < 0)), (by first | rfl | (simp; done) | (simp only [← hji6] <;> (first | rfl | simp)) | (simp [*]; done)), H', ⟨by first | omega | exact Nat.le_refl _⟩, ⟨kr HO489⟩, ⟨bz⟩⟩
    ·rw [if_neg c8] at H
     exact absurd H (by simp)
   ·rw [if_neg c7] at H
    exact absurd H (by simp)
  ·rw [if_neg c5] at H
   have c5b0 : decide (0 < (t487.length : Int)) = false := decide_eq_false c5
   have c5b1 : decide (0 < t487.length) = false := decide_eq_false (by omega)
   clear c5
   (first | rw [c5b0] | (simp only [i64_w, i32_w]; rw [c5b0]) | skip)
   have H' := Aside0.mk H
   clear H
   obtain ⟨Ao10, co10, eo10⟩ := Kd.R_slice HO489.out
   subst eo10
   go_wp2
   go_meet
   case rel => exact ⟨_, (false), sr, H', ⟨by first | omega | exact Nat.le_refl _⟩, ⟨kr HO489⟩, ⟨bz⟩⟩
 case rest =>
  clear HC3
  try clear p2; try clear p4; try clear q4; try clear hx4; try clear c5; try clear c5b0; try clear c5b1; try clear p6; try clear c7; try clear c7b0; try clear c8; try clear c8b0; try clear hx490_0; try clear p490; try clear q490
  obtain ⟨kq, x17_2, rfl, HA, HJ2, HO_0, HB⟩ := hcut
  cases kq with
  | zero => exact absurd HA.out (by simp [spec_sgUp.j0])
  | succ kj2 =>
   have H := HA.out
   clear HA
   simp only [spec_sgUp.j0] at H
   by_cases c11 : x17_2 = true
   ·subst c11
    rw [if_pos rfl] at H
    have H' := Aside0.mk H
    clear H
    obtain ⟨Ao12, co12, eo12⟩ := Kd.R_slice HO_0.out
    subst eo12
    go_wp2
    go_loopg [20] kj2 (fun kq v20 w' => ∃ (x0_2 : List Int) (x20_2 : Int), v20 = .int .i64 x20_2 ∧ Aside0 (spec_sgUp.l0 kq x0_2 (t487.length : Int) x20_2 = some r) ∧ Aside0 (kq ≤ kj2) ∧ Aside0 (Kd.R (Kd.int .i64) 3 w' w.heap.size (fun _ => True) (.slice Ao12 t487.length co12) x0_2) ∧ Aside0 (Below w.heap.size w w'))
    case atStart => exact ⟨(t487), (0), sr, H', ⟨Nat.le_refl _⟩, ⟨kr HO_0⟩, ⟨bz⟩⟩
    case round =>
     clear H'
     try clear c1; try clear p2; try clear p4; try clear q4; try clear hx4; try clear c5; try clear c5b0; try clear c5b1; try clear p6; try clear c7; try clear c7b0; try clear c8; try clear c8b0; try clear c11; try clear hx490_0; try clear p2; try clear p4; try clear p490; try clear p6; try clear q4; try clear q490
     obtain ⟨x0_2, x20_2, rfl, HA, HK2, HO_0, HB⟩ := hrel
     have hl0_2 := (Kd.R_reads' HO_0.out).1
     rw [hl0_2] at HO_0
     (try simp only [hl0_2])
     cases gk with
     | zero => exact absurd HA.out (by simp [spec_sgUp.l0])
     | succ k2 =>
      have H := HA.out
      clear HA
      simp only [spec_sgUp.l0] at H
      by_cases c13 : x20_2 < (t487.length : Int)
      ·rw [if_pos c13] at H
       have c13b0 : decide (x20_2 < (t487.length : Int)) = true := decide_eq_true c13
       (try (have c13b0l : _ := c13b0; rw [hl0_2] at c13b0l))
       clear c13
       by_cases c14 : 0 ≤ x20_2
       ·rw [if_pos c14] at H
        have c14b0 : decide (0 ≤ x20_2) = true := decide_eq_true c14
        clear c14
        by_cases c15 : x20_2 < (x0_2.length : Int)
        ·rw [if_pos c15] at H
         have c15b0 : decide (x20_2 < (x0_2.length : Int)) = true := decide_eq_true c15
         (try (have c15b0l : _ := c15b0; rw [hl0_2] at c15b0l))
         clear c15
         obtain ⟨y492, hy492⟩ : ∃ y_ : List Int, y_ = (x0_2.set (x20_2 : Int).toNat (wrap64 (-(rd x0_2 x20_2)))) := ⟨_, rfl⟩
         replace H : (spec_sgUp.l0 k2 y492 (t487.length : Int) (wrap64 (x20_2 + 1))) = some r := by first | (rw [hy492]; with_reducible exact H) | (have H2_ := (Option.bind_some _ _).symm.trans H; rw [hy492]; with_reducible exact H2_) | (have H2_ := (Option.bind_some _ _).symm.trans H; with_reducible exact H2_) | with_reducible exact H | (rw [hy492]; exact H) | exact H
         have Ny492 := Aside0.mk hy492
         clear hy492
         have H' := Aside0.mk H
         clear H
         have p491 : 0 ≤ (x20_2 : Int) := of_decide_eq_true am
         have q491 : x20_2 < (x0_2.length : Int) := of_decide_eq_true am
         obtain ⟨ad491, e491, hx491_0⟩ := Kd.at_int (Kd.R_reads' HO_0.out).2.2 x20_2 p491 q491
         cases e491
         replace p491 := eq_true p491
         replace q491 := eq_true q491
         have p16 : 0 ≤ (x20_2 : Int) := of_decide_eq_true am
         have q16 : (x20_2 : Int) < ((x0_2.length : Int) : Int) := of_decide_eq_true am
         obtain ⟨go16, co16, eo16, gb16, gl16, cl16, HG16⟩ := Kd.R_form HO_0.out (by omega)
         (first | cases eo16 | (injection eo16 with ea_ en_ ec_; (first | subst ea_ | (injection ea_ with ea_; subst ea_)); subst ec_; clear en_))
         have GB16 := Aside0.mk gb16
         have GG16 := Aside0.mk HG16
         clear gb16 gl16 HG16
         (first | simp only [add_plain] at hx491_0 | skip)
         obtain ⟨hx16_0, hf16_0⟩ := Kd.R_celln 0 HO_0.out (x20_2 : Int) p16 q16
         replace p16 := eq_true p16
         replace q16 := eq_true q16
         have HP17 := Kd.R_putg HO_0.out (x20_2 : Int) (wrap64 (-(rd x0_2 x20_2)))
         go_wp2_with (first | ((with_reducible refine gate_store (t := 3) (p := 30) rfl ?_); refine store_event (t := 3) (p := 30) (v := ?vo_w18) (w1 := (wr.setCell ⟨go16, (x20_2 : Int).toNat, none⟩ (.int .i64 (wrap64 (-(rd x0_2 x20_2)))))) ?hg ?ho ?hn ?hr ?_; (case ho => rfl); (case hg => rfl); (case hn => rfl); (case hr => first | (go_simp; done) | (go_simp; rfl)); intro w18 hw; have hg : wr.grownBy w18 (some go16) := (by rw [hw]; exact HP17.2); have hp_ : Kd.R (Kd.int .i64) 3 w18 w.heap.size (fun _ => True) (.slice (some ⟨go16, 0, none⟩) x0_2.length co12) y492 := (by rw [hw, Ny492.out]; exact HP17.1); clear HP17; have n0_ := Aside0.mk (hp_); have n1_ := Aside0.mk ((by rw [hw]; exact below_set (HB.out) GB16.out : Below w.heap.size w w18)); clear HO_0; clear HB; have HO_0 := n0_; have HB := n1_; clear n0_ n1_; clear hg hw hp_))
         (try simp only [← hl0_2])
         (try rw [← add_plain go16 (((ji6) : Int).toNat)])
         go_roundg k2
         case measure => have := HJ2.out; have := HK2.out; omega
         case rel => exact ⟨(y492), (wrap64 (x20_2 + 1)), sr, H', ⟨by have := HJ2.out; have := HK2.out; omega⟩, ⟨by (try simp only [hl0_2]); (with_reducible repeat (first | apply Kd.R_alloc | apply Kd.R_drewN | apply Kd.R_drew)); exact HO_0.out⟩, ⟨bz⟩⟩
        ·rw [if_neg c15] at H
         exact absurd H (by simp)
       ·rw [if_neg c14] at H
        exact absurd H (by simp)
      ·rw [if_neg c13] at H
       have c13b0 : decide (x20_2 < (t487.length : Int)) = false := decide_eq_false c13
       (try (have c13b0l : _ := c13b0; rw [hl0_2] at c13b0l))
       clear c13
       obtain rfl := Option.some.inj H
       go_wp2
       go_ret
       exact ⟨_, er, by (with_reducible repeat (first | apply Kd.R_alloc | apply Kd.R_drewN | apply Kd.R_drew)); exact HO_0.out, bz⟩
   ·replace c11 := Bool.eq_false_iff.mpr c11
    subst c11
    rw [if_neg (show ¬ (false = true) by decide)] at H
    obtain rfl := Option.some.inj H
    go_wp2
    go_ret
    exact ⟨_, er, by (with_reducible repeat (first | apply Kd.R_alloc | apply Kd.R_drewN | apply Kd.R_drew)); exact HO_0.out, bz⟩
def spec_sgCommon.l0 : Nat → List Int → List Int → Option (List Int × Bool)
 | 0, _, _ => none
 | k + 1, x0, x1 => if (x1.length : Int) > 0 then ((spec_sgRemainder.f k x0 x1).bind fun bt493 => (if bt493.2 = true then (spec_sgCommon.l0 k x1 bt493.1) else (some (([] : List Int), false)))) else ((spec_sgUp.f k x0).bind fun t497 => (some (t497, true)))
def spec_sgCommon.f (k : Nat) (l0 : List Int) (l1 : List Int) : Option (List Int × Bool) := spec_sgCommon.l0 k l0 l1
set_option maxHeartbeats 8000000 in
set_option maxRecDepth 100000 in
theorem spec_sgCommon.calls (k : Nat) (P0_ : Nat → Prop) (A0 : Option Addr) (c0 : Nat) (l0 : List Int) (P1_ : Nat → Prop) (A1 : Option Addr) (c1 : Nat) (l1 : List Int) (r1 : List Int) (r2 : Bool) (w : World) (hs0 : Kd.V (Kd.int .i64) 3 w w.heap.size (fun k_ => P0_ k_) (.slice A0 l0.length c0) l0) (hs1 : Kd.V (Kd.int .i64) 3 w w.heap.size (fun k_ => P1_ k_) (.slice A1 l1.length c1) l1) (h : spec_sgCommon.f k l0 l1 = some (r1, r2)) :
 Calls Try.prog 37 #[.slice A0 l0.length c0, .slice A1 l1.length c1] w fun e w' => ∃ v0_ : Value, e = .returned (.tuple #[v0_, .bool r2]) ∧ Kd.R (Kd.int .i64) 3 w' w.heap.size (fun k_ => (w.heap.size ≤ k_)) v0_ r1 ∧ Below w.heap.size w w' := by
 have HO0 := Aside0.mk (show Kd.V (Kd.int .i64) 3 w w.heap.size (fun k_ => ((P0_ k_ ∨ P1_ k_) ∨ w.heap.size ≤ k_)) (.slice A0 l0.length c0) l0 from Kd.V_mono hs0 (fun k_ hk => .inl (.inl hk)))
 have HO1 := Aside0.mk (show Kd.V (Kd.int .i64) 3 w w.heap.size (fun k_ => ((P0_ k_ ∨ P1_ k_) ∨ w.heap.size ≤ k_)) (.slice A1 l1.length c1) l1 from Kd.V_mono hs1 (fun k_ hk => .inl (.inr hk)))
 have HB := Aside0.mk (Below.refl w.heap.size w)
 have H : (spec_sgCommon.l0 k l0 l1) = some (r1, r2) := h
 clear h
 have H' := Aside0.mk H
 clear H
 go_enter Try.func37, Try.ntmps37
 go_wp2
 go_loopg [0, 1] k (fun kq v0 v1 w' => ∃ (x0_1 : List Int) (x1_1 : List Int), Aside0 (spec_sgCommon.l0 kq x0_1 x1_1 = some (r1, r2)) ∧ Aside0 (kq ≤ k) ∧ Aside0 (Kd.V (Kd.int .i64) 3 w' w.heap.size (fun k_ => ((P0_ k_ ∨ P1_ k_) ∨ w.heap.size ≤ k_)) v0 x0_1) ∧ Aside0 (Kd.V (Kd.int .i64) 3 w' w.heap.size (fun k_ => ((P0_ k_ ∨ P1_ k_) ∨ w.heap.size ≤ k_)) v1 x1_1) ∧ Aside0 (Below w.heap.size w w'))
 case atStart => exact ⟨(l0), (l1), H', ⟨Nat.le_refl _⟩, ⟨kv HO0⟩, ⟨kv HO1⟩, ⟨bz⟩⟩
 case round =>
  clear H'
  try clear c1; try clear p2
  obtain ⟨x0_1, x1_1, HA, HK1, HO_0, HO_1, HB⟩ := hrel
  cases gk with
  | zero => exact absurd HA.out (by simp [spec_sgCommon.l0])
  | succ k1 =>
   have H := HA.out
   clear HA
   simp only [spec_sgCommon.l0] at H
   by_cases c3 : (x1_1.length : Int) > 0
   ·rw [if_pos c3] at H
    have c3b0 : decide (0 < (x1_1.length : Int)) = true := decide_eq_true c3
    have c3b1 : decide (0 < x1_1.length) = true := decide_eq_true (by omega)
    clear c3
    obtain ⟨⟨t493, t494⟩, A4, H⟩ := bi H
    try dsimp only at H
    by_cases c5 : t494 = true
    ·subst c5
     rw [if_pos rfl] at H
     have H' := Aside0.mk H
     clear H
     obtain ⟨Ao6, co6, eo6⟩ := Kd.V_slice HO_1.out
     subst eo6
     obtain ⟨Ao7, co7, eo7⟩ := Kd.V_slice HO_0.out
     subst eo7
     go_wp2_with (first | ((with_reducible refine gate_callee (f := 29) rfl ?_); refine goesL_ (some 14) rfl rfl Try.func29 kf rfl #[.slice Ao7 x0_1.length co7, .slice Ao6 x1_1.length co6] rfl sm ?_; (with_reducible refine (spec_sgRemainder.calls k1 _ _ x0_1 _ _ x1_1 t493 true _ ?side1 ?side2 ?side3 ?side4 A4.out).mono ?_); (case side1 => repeat (first | exact (Kd.V_reads' HO_0.out).2.2 | (with_reducible refine Kd.C_alloc ?_ _) | (with_reducible refine Kd.C_drewN ?_ _) | (with_reducible refine Kd.C_drew ?_))); (case side2 => exact (Kd.V_reads' HO_0.out).2.1); (case side3 => repeat (first | exact (Kd.V_reads' HO_1.out).2.2 | (with_reducible refine Kd.C_alloc ?_ _) | (with_reducible refine Kd.C_drewN ?_ _) | (with_reducible refine Kd.C_drew ?_))); (case side4 => exact (Kd.V_reads' HO_1.out).2.1); rintro e w8 ⟨v495, rfl, ho0, hb⟩; refine ⟨_, rfl, ?_⟩; have n0_ := Aside0.mk (Kd.V_elder' (kv HO_0) (Kd.R_base ho0) hb); have n1_ := Aside0.mk (Kd.V_elder' (kv HO_1) (Kd.R_base ho0) hb); have n2_ := Aside0.mk (Kd.R_lower (Kd.R_newM (M := fun k_ => (w.heap.size ≤ k_)) ho0 (below_size bz) (fun k_ h_ => h_)) (below_size bz)); have n3_ := Aside0.mk (below_step bz hb); clear HO_0; clear HO_1; clear HB; have HO_0 := n0_; have HO_1 := n1_; have HO496 := n2_; have HB := n3_; clear n0_ n1_ n2_ n3_; (try clear hb); (try clear hb2); (try clear hk); (try clear hi); (try clear ho0)))
     go_roundg k1
     case measure => have := HK1.out; omega
     case rel => exact ⟨(x1_1), (t493), H', ⟨by have := HK1.out; omega⟩, ⟨by (with_reducible repeat (first | apply Kd.V_alloc | apply Kd.V_drewN | apply Kd.V_drew)); exact Kd.V_mono HO_1.out (fun _ hk => hk.1)⟩, ⟨Kd.V_mono (Kd.R_V (by (with_reducible repeat (first | apply Kd.R_alloc | apply Kd.R_drewN | apply Kd.R_drew)); exact Kd.R_mono HO496.out (fun _ hk => hk.1))) (fun k_ hk => by first | exact ⟨(.inr (hk.1)), hk.2⟩ | exact (.inr (hk)))⟩, ⟨bz⟩⟩
    ·replace c5 := Bool.eq_false_iff.mpr c5
     subst c5
     rw [if_neg (show ¬ (false = true) by decide)] at H
     simp only [Option.some.injEq, Prod.mk.injEq] at H
     obtain ⟨rfl, rfl⟩ := H
     obtain ⟨Ao9, co9, eo9⟩ := Kd.V_slice HO_1.out
     subst eo9
     obtain ⟨Ao10, co10, eo10⟩ := Kd.V_slice HO_0.out
     subst eo10
     go_wp2_with (first | ((with_reducible refine gate_callee (f := 29) rfl ?_); refine goesL_ (some 14) rfl rfl Try.func29 kf rfl #[.slice Ao10 x0_1.length co10, .slice Ao9 x1_1.length co9] rfl sm ?_; (with_reducible refine (spec_sgRemainder.calls k1 _ _ x0_1 _ _ x1_1 t493 false _ ?side1 ?side2 ?side3 ?side4 A4.out).mono ?_); (case side1 => repeat (first | exact (Kd.V_reads' HO_0.out).2.2 | (with_reducible refine Kd.C_alloc ?_ _) | (with_reducible refine Kd.C_drewN ?_ _) | (with_reducible refine Kd.C_drew ?_))); (case side2 => exact (Kd.V_reads' HO_0.out).2.1); (case side3 => repeat (first | exact (Kd.V_reads' HO_1.out).2.2 | (with_reducible refine Kd.C_alloc ?_ _) | (with_reducible refine Kd.C_drewN ?_ _) | (with_reducible refine Kd.C_drew ?_))); (case side4 => exact (Kd.V_reads' HO_1.out).2.1); rintro e w11 ⟨v495, rfl, ho0, hb⟩; refine ⟨_, rfl, ?_⟩; have n0_ := Aside0.mk (Kd.V_elder' (kv HO_0) (Kd.R_base ho0) hb); have n1_ := Aside0.mk (Kd.V_elder' (kv HO_1) (Kd.R_base ho0) hb); have n2_ := Aside0.mk (Kd.R_lower (Kd.R_newM (M := fun k_ => (w.heap.size ≤ k_)) ho0 (below_size bz) (fun k_ h_ => h_)) (below_size bz)); have n3_ := Aside0.mk (below_step bz hb); clear HO_0; clear HO_1; clear HB; have HO_0 := n0_; have HO_1 := n1_; have HO496 := n2_; have HB := n3_; clear n0_ n1_ n2_ n3_; (try clear hb); (try clear hb2); (try clear hk); (try clear hi); (try clear ho0)))
     go_ret2
     exact ⟨_, er, by first | exact Kd.R_nil _ _ _ _ _ | exact Kd.N_nil _ _ _ _ _ | exact Kd.V_nil _ _ _ _ _ | exact Kd.Q_nil _ _ _ _ _ | exact Kd.S_nil _ _ _ _ _, bz⟩
   ·rw [if_neg c3] at H
    have c3b0 : decide (0 < (x1_1.length : Int)) = false := decide_eq_false c3
    have c3b1 : decide (0 < x1_1.length) = false := decide_eq_false (by omega)
    clear c3
    obtain ⟨t497, A12, H⟩ := bi H
    simp only [Option.some.injEq, Prod.mk.injEq] at H
    obtain ⟨rfl, rfl⟩ := H
    obtain ⟨Ao13, co13, eo13⟩ := Kd.V_slice HO_1.out
    subst eo13
    obtain ⟨Ao14, co14, eo14⟩ := Kd.V_slice HO_0.out
    subst eo14
    go_wp2_with (first | ((with_reducible refine gate_callee (f := 57) rfl ?_); refine goesL_ (some 22) rfl rfl Try.func57 kf rfl #[.slice Ao14 x0_1.length co14] rfl sm ?_; (with_reducible refine (spec_sgUp.calls k1 _ _ x0_1 t497 _ ?side1 ?side2 A12.out).mono ?_); (case side1 => repeat (first | exact (Kd.V_reads' HO_0.out).2.2 | (with_reducible refine Kd.C_alloc ?_ _) | (with_reducible refine Kd.C_drewN ?_ _) | (with_reducible refine Kd.C_drew ?_))); (case side2 => exact (Kd.V_reads' HO_0.out).2.1); rintro e w15 ⟨v498, rfl, ho0, hb⟩; refine ⟨_, rfl, ?_⟩; have n0_ := Aside0.mk (Kd.V_elder' (kv HO_0) (Kd.R_base ho0) hb); have n1_ := Aside0.mk (Kd.V_elder' (kv HO_1) (Kd.R_base ho0) hb); have n2_ := Aside0.mk (Kd.R_lower (Kd.R_newM (M := fun k_ => (w.heap.size ≤ k_)) ho0 (below_size bz) (fun k_ h_ => h_)) (below_size bz)); have n3_ := Aside0.mk (below_step bz hb); clear HO_0; clear HO_1; clear HB; have HO_0 := n0_; have HO_1 := n1_; have HO499 := n2_; have HB := n3_; clear n0_ n1_ n2_ n3_; (try clear hb); (try clear hb2); (try clear hk); (try clear hi); (try clear ho0)))
    go_ret2
    exact ⟨_, er, by (with_reducible repeat (first | apply Kd.R_alloc | apply Kd.R_drewN | apply Kd.R_drew)); exact Kd.R_mono HO499.out (fun _ hk => hk.1), bz⟩
def spec_CommonDivisor.j0 : Nat → List Int → List Int → Bool → Option (List Int × Bool)
 | 0, _, _, _ => none
 | k + 1, x0, x1, x23 => if x23 = true then (some (([] : List Int), false)) else ((spec_sgCommon.f k x0 x1).bind fun bt502 => (if bt502.2 = true then ((spec_sgGood.f k bt502.1).bind fun t506 => (if t506 = true then (some (bt502.1, true)) else (some (([] : List Int), false)))) else (some (([] : List Int), false))))
def spec_CommonDivisor.f (k : Nat) (l0 : List Int) (l1 : List Int) : Option (List Int × Bool) := (spec_sgGood.f k l0).bind fun t500 => (if t500 = true then ((spec_sgGood.f k l1).bind fun t501 => (if t501 = true then (spec_CommonDivisor.j0 k l0 l1 ((wrap64 ((l0.length : Int) + (l1.length : Int))) == 0)) else (spec_CommonDivisor.j0 k l0 l1 true))) else (spec_CommonDivisor.j0 k l0 l1 true))
set_option maxHeartbeats 8000000 in
set_option maxRecDepth 100000 in
theorem spec_CommonDivisor.calls (k : Nat) (A0 : Option Addr) (c0 : Nat) (l0 : List Int) (A1 : Option Addr) (c1 : Nat) (l1 : List Int) (r1 : List Int) (r2 : Bool) (w : World) (hr0 : Kd.C (Kd.int .i64) w A0 l0.length l0) (hc0 : l0.length ≤ c0) (hr1 : Kd.C (Kd.int .i64) w A1 l1.length l1) (hc1 : l1.length ≤ c1) (h : spec_CommonDivisor.f k l0 l1 = some (r1, r2)) :
 Calls Try.prog 14 #[.slice A0 l0.length c0, .slice A1 l1.length c1] w fun e w' => ∃ v0_ : Value, e = .returned (.tuple #[v0_, .bool r2]) ∧ Kd.R (Kd.int .i64) 3 w' w.heap.size (fun _ => True) v0_ r1 ∧ Below w.heap.size w w' := by
 have HR0 := Aside0.mk hr0
 have HC0 := Aside0.mk hc0
 clear hr0 hc0
 have HR1 := Aside0.mk hr1
 have HC1 := Aside0.mk hc1
 clear hr1 hc1
 have HB := Aside0.mk (Below.refl w.heap.size w)
 have H : ((spec_sgGood.f k l0).bind fun t500 => (if t500 = true then ((spec_sgGood.f k l1).bind fun t501 => (if t501 = true then (spec_CommonDivisor.j0 k l0 l1 ((wrap64 ((l0.length : Int) + (l1.length : Int))) == 0)) else (spec_CommonDivisor.j0 k l0 l1 true))) else (spec_CommonDivisor.j0 k l0 l1 true))) = some (r1, r2) := h
 clear h
 have HC3 := Aside0.mk H
 clear H
 go_enter Try.func14, Try.ntmps14
 go_upto_region 1 with (fail)
 go_cut [23] (fun v23 wc => ∃ (kq : Nat) (x23_2 : Bool), v23 = .bool x23_2 ∧ Aside0 (spec_CommonDivisor.j0 kq l0 l1 x23_2 = some (r1, r2)) ∧ Aside0 (kq ≤ k) ∧ Aside0 (Below w.heap.size w wc))
 case first =>
  have H := HC3.out
  clear HC3
  obtain ⟨t500, A4, H⟩ := bi H
  by_cases c5 : t500 = true
  ·subst c5
   rw [if_pos rfl] at H
   obtain ⟨t501, A6, H⟩ := bi H
   by_cases c7 : t501 = true
   ·subst c7
    rw [if_pos rfl] at H
    have H' := Aside0.mk H
    clear H
    go_wp2_with (first | ((with_reducible refine gate_callee (f := 28) rfl ?_); refine goesL_ (some 9) rfl rfl Try.func28 kf rfl #[.slice A0 l0.length c0] rfl sm ?_; (with_reducible refine (spec_sgGood.calls k _ _ l0 true _ ?side1 ?side2 A4.out).mono ?_); (case side1 => exact cb HR0); (case side2 => exact HC0.out); rintro e w' ⟨rfl, ⟨nd, rfl⟩⟩; refine ⟨_, rfl, ?_⟩) | (go_at_call 28; (with_reducible refine (spec_sgGood.calls k _ _ l1 true _ ?side1 ?side2 A6.out).mono ?_); (case side1 => repeat (first | exact (Kd.C_below HR1.out bz) | (with_reducible refine Kd.C_alloc ?_ _) | (with_reducible refine Kd.C_drewN ?_ _) | (with_reducible refine Kd.C_drew ?_))); (case side2 => exact HC1.out); rintro e w' ⟨rfl, ⟨nd, rfl⟩⟩))
    go_meet
    case rel => exact ⟨_, (((wrap64 ((l0.length : Int) + (l1.length : Int))) == 0)), sr, H', ⟨by first | omega | exact Nat.le_refl _⟩, ⟨bz⟩⟩
   ·replace c7 := Bool.eq_false_iff.mpr c7
    subst c7
    rw [if_neg (show ¬ (false = true) by decide)] at H
    have H' := Aside0.mk H
    clear H
    go_wp2_with (first | ((with_reducible refine gate_callee (f := 28) rfl ?_); refine goesL_ (some 9) rfl rfl Try.func28 kf rfl #[.slice A0 l0.length c0] rfl sm ?_; (with_reducible refine (spec_sgGood.calls k _ _ l0 true _ ?side1 ?side2 A4.out).mono ?_); (case side1 => exact cb HR0); (case side2 => exact HC0.out); rintro e w' ⟨rfl, ⟨nd, rfl⟩⟩; refine ⟨_, rfl, ?_⟩) | (go_at_call 28; (with_reducible refine (spec_sgGood.calls k _ _ l1 false _ ?side1 ?side2 A6.out).mono ?_); (case side1 => repeat (first | exact (Kd.C_below HR1.out bz) | (with_reducible refine Kd.C_alloc ?_ _) | (with_reducible refine Kd.C_drewN ?_ _) | (with_reducible refine Kd.C_drew ?_))); (case side2 => exact HC1.out); rintro e w' ⟨rfl, ⟨nd, rfl⟩⟩))
    go_meet
    case rel => exact ⟨_, (true), sr, H', ⟨by first | omega | exact Nat.le_refl _⟩, ⟨bz⟩⟩
  ·replace c5 := Bool.eq_false_iff.mpr c5
   subst c5
   rw [if_neg (show ¬ (false = true) by decide)] at H
   have H' := Aside0.mk H
   clear H
   go_wp2_with (first | ((with_reducible refine gate_callee (f := 28) rfl ?_); refine goesL_ (some 9) rfl rfl Try.func28 kf rfl #[.slice A0 l0.length c0] rfl sm ?_; (with_reducible refine (spec_sgGood.calls k _ _ l0 false _ ?side1 ?side2 A4.out).mono ?_); (case side1 => exact cb HR0); (case side2 => exact HC0.out); rintro e w' ⟨rfl, ⟨nd, rfl⟩⟩; refine ⟨_, rfl, ?_⟩))
   go_meet
   case rel => exact ⟨_, (true), sr, H', ⟨by first | omega | exact Nat.le_refl _⟩, ⟨bz⟩⟩
 case rest =>
  clear HC3
  try clear c1; try clear c2; try clear p2; try clear c5; try clear p6; try clear c7
  obtain ⟨kq, x23_2, rfl, HA, HJ2, HB⟩ := hcut
  cases kq with
  | zero => exact absurd HA.out (by simp [spec_CommonDivisor.j0])
  | succ kj2 =>
   have H := HA.out
   clear HA
   simp only [spec_CommonDivisor.j0] at H
   by_cases c8 : x23_2 = true
   ·subst c8
    rw [if_pos rfl] at H
    simp only [Option.some.injEq, Prod.mk.injEq] at H
    obtain ⟨rfl, rfl⟩ := H
    go_wp2
    go_ret2
    exact ⟨_, er, by first | exact Kd.R_nil _ _ _ _ _ | exact Kd.N_nil _ _ _ _ _ | exact Kd.V_nil _ _ _ _ _ | exact Kd.Q_nil _ _ _ _ _ | exact Kd.S_nil _ _ _ _ _, bz⟩
   ·replace c8 := Bool.eq_false_iff.mpr c8
    subst c8
    rw [if_neg (show ¬ (false = true) by decide)] at H
    obtain ⟨⟨t502, t505⟩, A9, H⟩ := bi H
    try dsimp only at H
    by_cases c10 : t505 = true
    ·subst c10
     rw [if_pos rfl] at H
     obtain ⟨t506, A11, H⟩ := bi H
     by_cases c12 : t506 = true
     ·subst c12
      rw [if_pos rfl] at H
      simp only [Option.some.injEq, Prod.mk.injEq] at H
      obtain ⟨rfl, rfl⟩ := H
      go_wp2_with (first | ((with_reducible refine gate_callee (f := 37) rfl ?_); refine goesL_ (some 27) rfl rfl Try.func37 kf rfl #[.slice A0 l0.length c0, .slice A1 l1.length c1] rfl sm ?_; (with_reducible refine (spec_sgCommon.calls kj2 (fun k_ => k_ < w.heap.size) _ _ l0 (fun k_ => k_ < w.heap.size) _ _ l1 t502 true _ ?side1 ?side2 A9.out).mono ?_); (case side1 => exact Kd.V_mk HC0.out (Kd.F_below (Kd.C_F (Kd.heap_int .i64) HR0.out) bz)); (case side2 => exact Kd.V_mk HC1.out (Kd.F_below (Kd.C_F (Kd.heap_int .i64) HR1.out) bz)); rintro e w13 ⟨v503, rfl, ho0, hb⟩; refine ⟨_, rfl, ?_⟩; have n0_ := Aside0.mk (Kd.R_lower (Kd.R_mono (ok' := fun k_ => True) ho0 (fun _ hk_ => trivial)) (below_size bz)); have n1_ := Aside0.mk (below_step bz hb); clear HB; have HO504 := n0_; have HB := n1_; clear n0_ n1_; (try clear hb); (try clear hb2); (try clear hk); (try clear hi); (try clear ho0); obtain ⟨Ao14, co14, eo14⟩ := Kd.R_slice HO504.out; subst eo14) | (go_at_call 28; (with_reducible refine (spec_sgGood.calls kj2 _ _ t502 true _ ?side1 ?side2 A11.out).mono ?_); (case side1 => exact cr HO504); (case side2 => exact (Kd.R_reads' HO504.out).2.1); rintro e w' ⟨rfl, ⟨nd, rfl⟩⟩))
      go_ret2
      exact ⟨_, er, by (with_reducible repeat (first | apply Kd.R_alloc | apply Kd.R_drewN | apply Kd.R_drew)); exact HO504.out, bz⟩
     ·replace c12 := Bool.eq_false_iff.mpr c12
      subst c12
      rw [if_neg (show ¬ (false = true) by decide)] at H
      simp only [Option.some.injEq, Prod.mk.injEq] at H
      obtain ⟨rfl, rfl⟩ := H
      go_wp2_with (first | ((with_reducible refine gate_callee (f := 37) rfl ?_); refine goesL_ (some 27) rfl rfl Try.func37 kf rfl #[.slice A0 l0.length c0, .slice A1 l1.length c1] rfl sm ?_; (with_reducible refine (spec_sgCommon.calls kj2 (fun k_ => k_ < w.heap.size) _ _ l0 (fun k_ => k_ < w.heap.size) _ _ l1 t502 true _ ?side1 ?side2 A9.out).mono ?_); (case side1 => exact Kd.V_mk HC0.out (Kd.F_below (Kd.C_F (Kd.heap_int .i64) HR0.out) bz)); (case side2 => exact Kd.V_mk HC1.out (Kd.F_below (Kd.C_F (Kd.heap_int .i64) HR1.out) bz)); rintro e w15 ⟨v503, rfl, ho0, hb⟩; refine ⟨_, rfl, ?_⟩; have n0_ := Aside0.mk (Kd.R_lower (Kd.R_mono (ok' := fun k_ => True) ho0 (fun _ hk_ => trivial)) (below_size bz)); have n1_ := Aside0.mk (below_step bz hb); clear HB; have HO504 := n0_; have HB := n1_; clear n0_ n1_; (try clear hb); (try clear hb2); (try clear hk); (try clear hi); (try clear ho0); obtain ⟨Ao16, co16, eo16⟩ := Kd.R_slice HO504.out; subst eo16) | (go_at_call 28; (with_reducible refine (spec_sgGood.calls kj2 _ _ t502 false _ ?side1 ?side2 A11.out).mono ?_); (case side1 => exact cr HO504); (case side2 => exact (Kd.R_reads' HO504.out).2.1); rintro e w' ⟨rfl, ⟨nd, rfl⟩⟩))
      go_ret2
      exact ⟨_, er, by first | exact Kd.R_nil _ _ _ _ _ | exact Kd.N_nil _ _ _ _ _ | exact Kd.V_nil _ _ _ _ _ | exact Kd.Q_nil _ _ _ _ _ | exact Kd.S_nil _ _ _ _ _, bz⟩
    ·replace c10 := Bool.eq_false_iff.mpr c10
     subst c10
     rw [if_neg (show ¬ (false = true) by decide)] at H
     simp only [Option.some.injEq, Prod.mk.injEq] at H
     obtain ⟨rfl, rfl⟩ := H
     go_wp2_with (first | ((with_reducible refine gate_callee (f := 37) rfl ?_); refine goesL_ (some 27) rfl rfl Try.func37 kf rfl #[.slice A0 l0.length c0, .slice A1 l1.length c1] rfl sm ?_; (with_reducible refine (spec_sgCommon.calls kj2 (fun k_ => k_ < w.heap.size) _ _ l0 (fun k_ => k_ < w.heap.size) _ _ l1 t502 false _ ?side1 ?side2 A9.out).mono ?_); (case side1 => exact Kd.V_mk HC0.out (Kd.F_below (Kd.C_F (Kd.heap_int .i64) HR0.out) bz)); (case side2 => exact Kd.V_mk HC1.out (Kd.F_below (Kd.C_F (Kd.heap_int .i64) HR1.out) bz)); rintro e w17 ⟨v503, rfl, ho0, hb⟩; refine ⟨_, rfl, ?_⟩; have n0_ := Aside0.mk (Kd.R_lower (Kd.R_mono (ok' := fun k_ => True) ho0 (fun _ hk_ => trivial)) (below_size bz)); have n1_ := Aside0.mk (below_step bz hb); clear HB; have HO504 := n0_; have HB := n1_; clear n0_ n1_; (try clear hb); (try clear hb2); (try clear hk); (try clear hi); (try clear ho0)))
     go_ret2
     exact ⟨_, er, by first | exact Kd.R_nil _ _ _ _ _ | exact Kd.N_nil _ _ _ _ _ | exact Kd.V_nil _ _ _ _ _ | exact Kd.Q_nil _ _ _ _ _ | exact Kd.S_nil _ _ _ _ _, bz⟩
def impl_ContentOf.f (k : Nat) (l0 : List Int) : Option (Int × Bool) := (impl_isSingle.f k l0).bind fun t507 => (if t507 = true then ((impl_contentOf.f k l0).bind fun t508 => (some (t508, true))) else (some (0, false)))
set_option maxHeartbeats 8000000 in
set_option maxRecDepth 100000 in
theorem impl_ContentOf.calls (k : Nat) (A0 : Option Addr) (c0 : Nat) (l0 : List Int) (r1 : Int) (r2 : Bool) (w : World) (hr0 : Kd.C (Kd.int .i64) w A0 l0.length l0) (hc0 : l0.length ≤ c0) (h : impl_ContentOf.f k l0 = some (r1, r2)) :
 Calls Try.prog 15 #[.slice A0 l0.length c0] w fun e w' => e = .returned (.tuple #[.int .i64 r1, .bool r2]) ∧ Below w.heap.size w w' := by
 have HR0 := Aside0.mk hr0
 have HC0 := Aside0.mk hc0
 clear hr0 hc0
 have HB := Aside0.mk (Below.refl w.heap.size w)
 have H : ((impl_isSingle.f k l0).bind fun t507 => (if t507 = true then ((impl_contentOf.f k l0).bind fun t508 => (some (t508, true))) else (some (0, false)))) = some (r1, r2) := h
 clear h
 obtain ⟨t507, A2, H⟩ := bi H
 by_cases c3 : t507 = true
 ·subst c3
  rw [if_pos rfl] at H
  obtain ⟨t508, A4, H⟩ := bi H
  simp only [Option.some.injEq, Prod.mk.injEq] at H
  obtain ⟨rfl, rfl⟩ := H
  go_enter Try.func15, Try.ntmps15
  go_wp2_with (first | ((with_reducible refine gate_callee (f := 25) rfl ?_); refine goesL_ (some 5) rfl rfl Try.func25 kf rfl #[.slice A0 l0.length c0] rfl sm ?_; (with_reducible refine (impl_isSingle.calls k _ _ l0 true _ ?side1 ?side2 A2.out).mono ?_); (case side1 => exact cc HR0); (case side2 => exact HC0.out); rintro e w' ⟨rfl, ⟨nd, rfl⟩⟩; refine ⟨_, rfl, ?_⟩) | ((with_reducible refine gate_callee (f := 38) rfl ?_); refine goesL_ (some 8) rfl rfl Try.func38 kf rfl #[.slice A0 l0.length c0] rfl sm ?_; (with_reducible refine (impl_contentOf.calls k _ _ l0 t508 _ ?side1 ?side2 A4.out).mono ?_); (case side1 => exact cc HR0); (case side2 => exact HC0.out); rintro e w5 ⟨rfl, hb⟩; refine ⟨_, rfl, ?_⟩; have n0_ := Aside0.mk (below_step bz hb); clear HB; have HB := n0_; clear n0_; (try clear hb); (try clear hb2); (try clear hk); (try clear hi)))
  go_ret2
  exact ⟨er, bz⟩
 ·replace c3 := Bool.eq_false_iff.mpr c3
  subst c3
  rw [if_neg (show ¬ (false = true) by decide)] at H
  simp only [Option.some.injEq, Prod.mk.injEq] at H
  obtain ⟨rfl, rfl⟩ := H
  go_enter Try.func15, Try.ntmps15
  go_wp2_with (first | ((with_reducible refine gate_callee (f := 25) rfl ?_); refine goesL_ (some 5) rfl rfl Try.func25 kf rfl #[.slice A0 l0.length c0] rfl sm ?_; (with_reducible refine (impl_isSingle.calls k _ _ l0 false _ ?side1 ?side2 A2.out).mono ?_); (case side1 => exact cc HR0); (case side2 => exact HC0.out); rintro e w' ⟨rfl, ⟨nd, rfl⟩⟩; refine ⟨_, rfl, ?_⟩))
  go_ret2
  exact ⟨er, bz⟩
def spec_DrawQuotientOf.f (k : Nat) (l0 : List Int) : Option (List Int × List Int) := (spec_DrawRemainderOf.f k l0).bind fun bt510 => ((spec_sgProduct.f k bt510.1 bt510.2).bind fun t516 => ((spec_sgGood.f k bt510.1).bind fun t519 => (if t519 = true then ((spec_sgGood.f k bt510.2).bind fun t520 => (if t520 = true then ((spec_sgGood.f k t516).bind fun t521 => (if t521 = true then ((spec_l1Cur_one.f l0 0 0 4).bind fun bt522 => (if bt522.1 = true then (some (bt510.1, bt510.2)) else (some (t516, bt510.2)))) else (some (bt510.1, bt510.2)))) else (some (bt510.1, bt510.2)))) else (some (bt510.1, bt510.2)))))
set_option maxHeartbeats 8000000 in
set_option maxRecDepth 100000 in
theorem spec_DrawQuotientOf.calls (k : Nat) (A0 : Option Addr) (c0 : Nat) (l0 : List Int) (r1 : List Int) (r2 : List Int) (w : World) (hr0 : Kd.C (Kd.int .u8) w A0 l0.length l0) (hc0 : l0.length ≤ c0) (h : spec_DrawQuotientOf.f k l0 = some (r1, r2)) :
 Calls Try.prog 16 #[.slice A0 l0.length c0] w fun e w' => ∃ v0_ v1_ : Value, e = .returned (.tuple #[v0_, v1_]) ∧ Kd.R (Kd.int .i64) 3 w' w.heap.size (fun k_ => some k_ ≠ (v1_ : Value).ownBlock) v0_ r1 ∧ Kd.Q (Kd.int .i64) 3 w' w.heap.size (fun k_ => some k_ ≠ (v0_ : Value).ownBlock) v1_ r2 ∧ Below w.heap.size w w' := by
 have hu39 := Try.underlying39
 have HR0 := Aside0.mk hr0
 have HC0 := Aside0.mk hc0
 clear hr0 hc0
 have HB := Aside0.mk (Below.refl w.heap.size w)
 have H : ((spec_DrawRemainderOf.f k l0).bind fun bt510 => ((spec_sgProduct.f k bt510.1 bt510.2).bind fun t516 => ((spec_sgGood.f k bt510.1).bind fun t519 => (if t519 = true then ((spec_sgGood.f k bt510.2).bind fun t520 => (if t520 = true then ((spec_sgGood.f k t516).bind fun t521 => (if t521 = true then ((spec_l1Cur_one.f l0 0 0 4).bind fun bt522 => (if bt522.1 = true then (some (bt510.1, bt510.2)) else (some (t516, bt510.2)))) else (some (bt510.1, bt510.2)))) else (some (bt510.1, bt510.2)))) else (some (bt510.1, bt510.2)))))) = some (r1, r2) := h
 clear h
 obtain ⟨⟨t510, t511⟩, A2, H⟩ := bi H
 try dsimp only at H
 obtain ⟨t516, A3, H⟩ := bi H
 obtain ⟨t519, A4, H⟩ := bi H
 by_cases c5 : t519 = true
 ·subst c5
  rw [if_pos rfl] at H
  obtain ⟨t520, A6, H⟩ := bi H
  by_cases c7 : t520 = true
  ·subst c7
   rw [if_pos rfl] at H
   obtain ⟨t521, A8, H⟩ := bi H
   by_cases c9 : t521 = true
   ·subst c9
    rw [if_pos rfl] at H
    obtain ⟨⟨t522, t523, t524⟩, A10, H⟩ := bi H
    try dsimp only at H
    by_cases c11 : t522 = true
    ·subst c11
     rw [if_pos rfl] at H
     simp only [Option.some.injEq, Prod.mk.injEq] at H
     obtain ⟨rfl, rfl⟩ := H
     go_enter Try.func16, Try.ntmps16
     go_wp2_with (first | ((with_reducible refine gate_dst (N := 10) rfl ?_); refine bv (N := 10) (cs := #[.slice A0 l0.length c0, .int .i64 0, .int .u64 0]) (t := 39) ?_; intro gb509 hg w12 hbox hb; have n0_ := Aside0.mk (below_step bz hb); have n1_ := Aside0.mk ((show IsS39 w w12 gb509 l0 0 0 from ⟨_, _, hbox, (by rw [hg]; exact (below_size bz)), HR0.out⟩)); clear HB; have HB := n0_; have HI509 := n1_; clear n0_ n1_; clear hb hbox hg) | ((with_reducible refine gate_callee (f := 5) rfl ?_); refine goesL_ (some 13) rfl rfl Try.func5 kf rfl #[.slice A0 l0.length c0] rfl sm ?_; (with_reducible refine (spec_DrawRemainderOf.calls k _ _ l0 t510 t511 _ ?side1 ?side2 A2.out).mono ?_); (case side1 => exact cb HR0); (case side2 => exact HC0.out); rintro e w13 ⟨v512, v514, rfl, ho0, ho1, hb⟩; refine ⟨_, rfl, ?_⟩; have n0_ := Aside0.mk (Kd.R_lower ho0 (below_size (by repeat (first | (with_reducible first | exact HB.out | apply below_alloc | apply pw_below_drewN | apply below_drew1 | refine below_set ?_ (IsS39.ge HI509.out)) | exact HB.out)))); have n1_ := Aside0.mk (Kd.Q_lower ho1 (below_size (by repeat (first | (with_reducible first | exact HB.out | apply below_alloc | apply pw_below_drewN | apply below_drew1 | refine below_set ?_ (IsS39.ge HI509.out)) | exact HB.out)))); have n2_ := Aside0.mk (IsS39.below (by repeat (first | (with_reducible first | exact HI509.out | apply IsS39.alloc | apply IsS39.drewN | apply IsS39.drew | apply IsS39.set_1 | apply IsS39.set_2) | exact HI509.out)) hb); have n3_ := Aside0.mk (below_step (by repeat (first | (with_reducible first | exact HB.out | apply below_alloc | apply pw_below_drewN | apply below_drew1 | refine below_set ?_ (IsS39.ge HI509.out)) | exact HB.out)) hb); clear HI509; clear HB; have HO513 := n0_; have HO515 := n1_; have HI509 := n2_; have HB := n3_; clear n0_ n1_ n2_ n3_; (try clear hb); (try clear hb2); (try clear hk); (try clear hi); (try clear ho0); (try clear ho1); obtain ⟨Ao14, co14, eo14⟩ := Kd.R_slice HO513.out; subst eo14; obtain ⟨Ao15, co15, eo15, _⟩ := Kd.Q_slice HO515.out; subst eo15) | ((with_reducible refine gate_callee (f := 32) rfl ?_); refine goesL_ (some 18) rfl rfl Try.func32 kf rfl #[.slice Ao14 t510.length co14, .slice Ao15 t511.length co15] rfl sm ?_; (with_reducible refine (spec_sgProduct.calls k _ _ t510 _ _ t511 t516 _ ?side1 ?side2 ?side3 ?side4 A3.out).mono ?_); (case side1 => exact cr HO513); (case side2 => exact (Kd.R_reads' HO513.out).2.1); (case side3 => repeat (first | exact (Kd.Q_reads' HO515.out).2.2 | (with_reducible refine Kd.C_alloc ?_ _) | (with_reducible refine Kd.C_drewN ?_ _) | (with_reducible refine Kd.C_drew ?_))); (case side4 => exact (Kd.Q_reads' HO515.out).2.1); rintro e w16 ⟨v517, rfl, ho0, hb⟩; refine ⟨_, rfl, ?_⟩; have n0_ := Aside0.mk (Kd.R_elder' (kr HO513) (Kd.R_base ho0) hb); have n1_ := Aside0.mk (Kd.Q_elder' (by (with_reducible repeat (first | apply Kd.Q_alloc | apply Kd.Q_drewN | apply Kd.Q_drew)); exact HO515.out) (Kd.R_base ho0) hb); have n2_ := Aside0.mk (Kd.R_lower (Kd.R_new' (Kd.R_new' ho0 (Kd.R_lt (kr HO513))) (Kd.Q_lt (by (with_reducible repeat (first | apply Kd.Q_alloc | apply Kd.Q_drewN | apply Kd.Q_drew)); exact HO515.out))) (below_size (by repeat (first | (with_reducible first | exact HB.out | apply below_alloc | apply pw_below_drewN | apply below_drew1 | refine below_set ?_ (IsS39.ge HI509.out)) | exact HB.out)))); have n3_ := Aside0.mk (IsS39.below (by repeat (first | (with_reducible first | exact HI509.out | apply IsS39.alloc | apply IsS39.drewN | apply IsS39.drew | apply IsS39.set_1 | apply IsS39.set_2) | exact HI509.out)) hb); have n4_ := Aside0.mk (below_step (by repeat (first | (with_reducible first | exact HB.out | apply below_alloc | apply pw_below_drewN | apply below_drew1 | refine below_set ?_ (IsS39.ge HI509.out)) | exact HB.out)) hb); clear HO513; clear HO515; clear HI509; clear HB; have HO513 := n0_; have HO515 := n1_; have HO518 := n2_; have HI509 := n3_; have HB := n4_; clear n0_ n1_ n2_ n3_ n4_; (try clear hb); (try clear hb2); (try clear hk); (try clear hi); (try clear ho0)) | ((with_reducible refine gate_callee (f := 28) rfl ?_); refine goesL_ (some 20) rfl rfl Try.func28 kf rfl #[.slice Ao14 t510.length co14] rfl sm ?_; (with_reducible refine (spec_sgGood.calls k _ _ t510 true _ ?side1 ?side2 A4.out).mono ?_); (case side1 => exact cr HO513); (case side2 => exact (Kd.R_reads' HO513.out).2.1); rintro e w' ⟨rfl, ⟨nd, rfl⟩⟩; refine ⟨_, rfl, ?_⟩) | (go_at_call 28; (with_reducible refine (spec_sgGood.calls k _ _ t511 true _ ?side1 ?side2 A6.out).mono ?_); (case side1 => repeat (first | exact (Kd.Q_reads' HO515.out).2.2 | (with_reducible refine Kd.C_alloc ?_ _) | (with_reducible refine Kd.C_drewN ?_ _) | (with_reducible refine Kd.C_drew ?_))); (case side2 => exact (Kd.Q_reads' HO515.out).2.1); rintro e w' ⟨rfl, ⟨nd, rfl⟩⟩; obtain ⟨Ao17, co17, eo17⟩ := Kd.R_slice HO518.out; subst eo17) | (go_at_call 28; (with_reducible refine (spec_sgGood.calls k _ _ t516 true _ ?side1 ?side2 A8.out).mono ?_); (case side1 => exact cr HO518); (case side2 => exact (Kd.R_reads' HO518.out).2.1); rintro e w' ⟨rfl, ⟨nd, rfl⟩⟩) | (go_at_call 24; (with_reducible refine (spec_l1Cur_one.calls gb509 l0 0 0 4 true t523 t524 w _ ?side1 ?side2 A10.out).mono ?_); (case side1 => repeat (first | (with_reducible first | exact HI509.out | apply IsS39.alloc | apply IsS39.drewN | apply IsS39.drew | apply IsS39.set_1 | apply IsS39.set_2) | exact HI509.out)); (case side2 => repeat (first | (with_reducible first | exact HB.out | apply below_alloc | apply pw_below_drewN | apply below_drew1 | refine below_set ?_ (IsS39.ge HI509.out)) | exact HB.out)); rintro e w18 ⟨rfl, hi, hb, hk⟩; have n0_ := Aside0.mk (Kd.R_mono (Kd.R_keep (IsS39.apart (show IsS39 w _ gb509 l0 0 0 from by repeat (first | (with_reducible first | exact HI509.out | apply IsS39.alloc | apply IsS39.drewN | apply IsS39.drew | apply IsS39.set_1 | apply IsS39.set_2) | exact HI509.out)) (kr HO513) (by decide)) hk (fun _ h => h.2)) (fun _ h => h.1)); have n1_ := Aside0.mk (Kd.Q_mono (Kd.Q_keep (IsS39.apartQ (show IsS39 w _ gb509 l0 0 0 from by repeat (first | (with_reducible first | exact HI509.out | apply IsS39.alloc | apply IsS39.drewN | apply IsS39.drew | apply IsS39.set_1 | apply IsS39.set_2) | exact HI509.out)) (by (with_reducible repeat (first | apply Kd.Q_alloc | apply Kd.Q_drewN | apply Kd.Q_drew)); exact HO515.out) (by decide)) hk (fun _ h => h.2)) (fun _ h => h.1)); have n2_ := Aside0.mk (Kd.R_mono (Kd.R_keep (IsS39.apart (show IsS39 w _ gb509 l0 0 0 from by repeat (first | (with_reducible first | exact HI509.out | apply IsS39.alloc | apply IsS39.drewN | apply IsS39.drew | apply IsS39.set_1 | apply IsS39.set_2) | exact HI509.out)) (kr HO518) (by decide)) hk (fun _ h => h.2)) (fun _ h => h.1)); have n3_ := Aside0.mk (hb); have n4_ := Aside0.mk (hi); clear HO513; clear HO515; clear HO518; clear HB; clear HI509; have HO513 := n0_; have HO515 := n1_; have HO518 := n2_; have HB := n3_; have HI509 := n4_; clear n0_ n1_ n2_ n3_ n4_; (try clear hb); (try clear hb2); (try clear hk); (try clear hi)))
     go_ret2
     exact ⟨_, _, er, by (with_reducible repeat (first | apply Kd.R_alloc | apply Kd.R_drewN | apply Kd.R_drew)); exact Kd.R_mono HO513.out (fun _ hk => hk.1), by (with_reducible repeat (first | apply Kd.Q_alloc | apply Kd.Q_drewN | apply Kd.Q_drew)); exact Kd.Q_mono HO515.out (fun _ hk => hk.1), by repeat (first | (with_reducible first | exact HB.out | apply below_alloc | apply pw_below_drewN | apply below_drew1 | refine below_set ?_ (IsS39.ge HI509.out)) | exact HB.out)⟩
    ·replace c11 := Bool.eq_false_iff.mpr c11
     subst c11
     rw [if_neg (show ¬ (false = true) by decide)] at H
     simp only [Option.some.injEq, Prod.mk.injEq] at H
     obtain ⟨rfl, rfl⟩ := H
     go_enter Try.func16, Try.ntmps16
     go_wp2_with (first | ((with_reducible refine gate_dst (N := 10) rfl ?_); refine bv (N := 10) (cs := #[.slice A0 l0.length c0, .int .i64 0, .int .u64 0]) (t := 39) ?_; intro gb509 hg w19 hbox hb; have n0_ := Aside0.mk (below_step bz hb); have n1_ := Aside0.mk ((show IsS39 w w19 gb509 l0 0 0 from ⟨_, _, hbox, (by rw [hg]; exact (below_size bz)), HR0.out⟩)); clear HB; have HB := n0_; have HI509 := n1_; clear n0_ n1_; clear hb hbox hg) | ((with_reducible refine gate_callee (f := 5) rfl ?_); refine goesL_ (some 13) rfl rfl Try.func5 kf rfl #[.slice A0 l0.length c0] rfl sm ?_; (with_reducible refine (spec_DrawRemainderOf.calls k _ _ l0 t510 t511 _ ?side1 ?side2 A2.out).mono ?_); (case side1 => exact cb HR0); (case side2 => exact HC0.out); rintro e w20 ⟨v512, v514, rfl, ho0, ho1, hb⟩; refine ⟨_, rfl, ?_⟩; have n0_ := Aside0.mk (Kd.R_lower ho0 (below_size (by repeat (first | (with_reducible first | exact HB.out | apply below_alloc | apply pw_below_drewN | apply below_drew1 | refine below_set ?_ (IsS39.ge HI509.out)) | exact HB.out)))); have n1_ := Aside0.mk (Kd.Q_lower ho1 (below_size (by repeat (first | (with_reducible first | exact HB.out | apply below_alloc | apply pw_below_drewN | apply below_drew1 | refine below_set ?_ (IsS39.ge HI509.out)) | exact HB.out)))); have n2_ := Aside0.mk (IsS39.below (by repeat (first | (with_reducible first | exact HI509.out | apply IsS39.alloc | apply IsS39.drewN | apply IsS39.drew | apply IsS39.set_1 | apply IsS39.set_2) | exact HI509.out)) hb); have n3_ := Aside0.mk (below_step (by repeat (first | (with_reducible first | exact HB.out | apply below_alloc | apply pw_below_drewN | apply below_drew1 | refine below_set ?_ (IsS39.ge HI509.out)) | exact HB.out)) hb); clear HI509; clear HB; have HO513 := n0_; have HO515 := n1_; have HI509 := n2_; have HB := n3_; clear n0_ n1_ n2_ n3_; (try clear hb); (try clear hb2); (try clear hk); (try clear hi); (try clear ho0); (try clear ho1); obtain ⟨Ao21, co21, eo21⟩ := Kd.R_slice HO513.out; subst eo21; obtain ⟨Ao22, co22, eo22, _⟩ := Kd.Q_slice HO515.out; subst eo22) | ((with_reducible refine gate_callee (f := 32) rfl ?_); refine goesL_ (some 18) rfl rfl Try.func32 kf rfl #[.slice Ao21 t510.length co21, .slice Ao22 t511.length co22] rfl sm ?_; (with_reducible refine (spec_sgProduct.calls k _ _ t510 _ _ t511 t516 _ ?side1 ?side2 ?side3 ?side4 A3.out).mono ?_); (case side1 => exact cr HO513); (case side2 => exact (Kd.R_reads' HO513.out).2.1); (case side3 => repeat (first | exact (Kd.Q_reads' HO515.out).2.2 | (with_reducible refine Kd.C_alloc ?_ _) | (with_reducible refine Kd.C_drewN ?_ _) | (with_reducible refine Kd.C_drew ?_))); (case side4 => exact (Kd.Q_reads' HO515.out).2.1); rintro e w23 ⟨v517, rfl, ho0, hb⟩; refine ⟨_, rfl, ?_⟩; have n0_ := Aside0.mk (Kd.R_elder' (kr HO513) (Kd.R_base ho0) hb); have n1_ := Aside0.mk (Kd.Q_elder' (by (with_reducible repeat (first | apply Kd.Q_alloc | apply Kd.Q_drewN | apply Kd.Q_drew)); exact HO515.out) (Kd.R_base ho0) hb); have n2_ := Aside0.mk (Kd.R_lower (Kd.R_new' (Kd.R_new' ho0 (Kd.R_lt (kr HO513))) (Kd.Q_lt (by (with_reducible repeat (first | apply Kd.Q_alloc | apply Kd.Q_drewN | apply Kd.Q_drew)); exact HO515.out))) (below_size (by repeat (first | (with_reducible first | exact HB.out | apply below_alloc | apply pw_below_drewN | apply below_drew1 | refine below_set ?_ (IsS39.ge HI509.out)) | exact HB.out)))); have n3_ := Aside0.mk (IsS39.below (by repeat (first | (with_reducible first | exact HI509.out | apply IsS39.alloc | apply IsS39.drewN | apply IsS39.drew | apply IsS39.set_1 | apply IsS39.set_2) | exact HI509.out)) hb); have n4_ := Aside0.mk (below_step (by repeat (first | (with_reducible first | exact HB.out | apply below_alloc | apply pw_below_drewN | apply below_drew1 | refine below_set ?_ (IsS39.ge HI509.out)) | exact HB.out)) hb); clear HO513; clear HO515; clear HI509; clear HB; have HO513 := n0_; have HO515 := n1_; have HO518 := n2_; have HI509 := n3_; have HB := n4_; clear n0_ n1_ n2_ n3_ n4_; (try clear hb); (try clear hb2); (try clear hk); (try clear hi); (try clear ho0)) | ((with_reducible refine gate_callee (f := 28) rfl ?_); refine goesL_ (some 20) rfl rfl Try.func28 kf rfl #[.slice Ao21 t510.length co21] rfl sm ?_; (with_reducible refine (spec_sgGood.calls k _ _ t510 true _ ?side1 ?side2 A4.out).mono ?_); (case side1 => exact cr HO513); (case side2 => exact (Kd.R_reads' HO513.out).2.1); rintro e w' ⟨rfl, ⟨nd, rfl⟩⟩; refine ⟨_, rfl, ?_⟩) | (go_at_call 28; (with_reducible refine (spec_sgGood.calls k _ _ t511 true _ ?side1 ?side2 A6.out).mono ?_); (case side1 => repeat (first | exact (Kd.Q_reads' HO515.out).2.2 | (with_reducible refine Kd.C_alloc ?_ _) | (with_reducible refine Kd.C_drewN ?_ _) | (with_reducible refine Kd.C_drew ?_))); (case side2 => exact (Kd.Q_reads' HO515.out).2.1); rintro e w' ⟨rfl, ⟨nd, rfl⟩⟩; obtain ⟨Ao24, co24, eo24⟩ := Kd.R_slice HO518.out; subst eo24) | (go_at_call 28; (with_reducible refine (spec_sgGood.calls k _ _ t516 true _ ?side1 ?side2 A8.out).mono ?_); (case side1 => exact cr HO518); (case side2 => exact (Kd.R_reads' HO518.out).2.1); rintro e w' ⟨rfl, ⟨nd, rfl⟩⟩) | (go_at_call 24; (with_reducible refine (spec_l1Cur_one.calls gb509 l0 0 0 4 false t523 t524 w _ ?side1 ?side2 A10.out).mono ?_); (case side1 => repeat (first | (with_reducible first | exact HI509.out | apply IsS39.alloc | apply IsS39.drewN | apply IsS39.drew | apply IsS39.set_1 | apply IsS39.set_2) | exact HI509.out)); (case side2 => repeat (first | (with_reducible first | exact HB.out | apply below_alloc | apply pw_below_drewN | apply below_drew1 | refine below_set ?_ (IsS39.ge HI509.out)) | exact HB.out)); rintro e w25 ⟨rfl, hi, hb, hk⟩; have n0_ := Aside0.mk (Kd.R_mono (Kd.R_keep (IsS39.apart (show IsS39 w _ gb509 l0 0 0 from by repeat (first | (with_reducible first | exact HI509.out | apply IsS39.alloc | apply IsS39.drewN | apply IsS39.drew | apply IsS39.set_1 | apply IsS39.set_2) | exact HI509.out)) (kr HO513) (by decide)) hk (fun _ h => h.2)) (fun _ h => h.1)); have n1_ := Aside0.mk (Kd.Q_mono (Kd.Q_keep (IsS39.apartQ (show IsS39 w _ gb509 l0 0 0 from by repeat (first | (with_reducible first | exact HI509.out | apply IsS39.alloc | apply IsS39.drewN | apply IsS39.drew | apply IsS39.set_1 | apply IsS39.set_2) | exact HI509.out)) (by (with_reducible repeat (first | apply Kd.Q_alloc | apply Kd.Q_drewN | apply Kd.Q_drew)); exact HO515.out) (by decide)) hk (fun _ h => h.2)) (fun _ h => h.1)); have n2_ := Aside0.mk (Kd.R_mono (Kd.R_keep (IsS39.apart (show IsS39 w _ gb509 l0 0 0 from by repeat (first | (with_reducible first | exact HI509.out | apply IsS39.alloc | apply IsS39.drewN | apply IsS39.drew | apply IsS39.set_1 | apply IsS39.set_2) | exact HI509.out)) (kr HO518) (by decide)) hk (fun _ h => h.2)) (fun _ h => h.1)); have n3_ := Aside0.mk (hb); have n4_ := Aside0.mk (hi); clear HO513; clear HO515; clear HO518; clear HB; clear HI509; have HO513 := n0_; have HO515 := n1_; have HO518 := n2_; have HB := n3_; have HI509 := n4_; clear n0_ n1_ n2_ n3_ n4_; (try clear hb); (try clear hb2); (try clear hk); (try clear hi)))
     go_ret2
     exact ⟨_, _, er, by (with_reducible repeat (first | apply Kd.R_alloc | apply Kd.R_drewN | apply Kd.R_drew)); exact Kd.R_mono HO518.out (fun _ hk => hk.2), by (with_reducible repeat (first | apply Kd.Q_alloc | apply Kd.Q_drewN | apply Kd.Q_drew)); exact Kd.Q_mono HO515.out (fun _ hk => hk.2), by repeat (first | (with_reducible first | exact HB.out | apply below_alloc | apply pw_below_drewN | apply below_drew1 | refine below_set ?_ (IsS39.ge HI509.out)) | exact HB.out)⟩
   ·replace c9 := Bool.eq_false_iff.mpr c9
    subst c9
    rw [if_neg (show ¬ (false = true) by decide)] at H
    simp only [Option.some.injEq, Prod.mk.injEq] at H
    obtain ⟨rfl, rfl⟩ := H
    go_enter Try.func16, Try.ntmps16
    go_wp2_with (first | ((with_reducible refine gate_dst (N := 10) rfl ?_); refine bv (N := 10) (cs := #[.slice A0 l0.length c0, .int .i64 0, .int .u64 0]) (t := 39) ?_; intro gb509 hg w26 hbox hb; have n0_ := Aside0.mk (below_step bz hb); have n1_ := Aside0.mk ((show IsS39 w w26 gb509 l0 0 0 from ⟨_, _, hbox, (by rw [hg]; exact (below_size bz)), HR0.out⟩)); clear HB; have HB := n0_; have HI509 := n1_; clear n0_ n1_; clear hb hbox hg) | ((with_reducible refine gate_callee (f := 5) rfl ?_); refine goesL_ (some 13) rfl rfl Try.func5 kf rfl #[.slice A0 l0.length c0] rfl sm ?_; (with_reducible refine (spec_DrawRemainderOf.calls k _ _ l0 t510 t511 _ ?side1 ?side2 A2.out).mono ?_); (case side1 => exact cb HR0); (case side2 => exact HC0.out); rintro e w27 ⟨v512, v514, rfl, ho0, ho1, hb⟩; refine ⟨_, rfl, ?_⟩; have n0_ := Aside0.mk (Kd.R_lower ho0 (below_size (by repeat (first | (with_reducible first | exact HB.out | apply below_alloc | apply pw_below_drewN | apply below_drew1 | refine below_set ?_ (IsS39.ge HI509.out)) | exact HB.out)))); have n1_ := Aside0.mk (Kd.Q_lower ho1 (below_size (by repeat (first | (with_reducible first | exact HB.out | apply below_alloc | apply pw_below_drewN | apply below_drew1 | refine below_set ?_ (IsS39.ge HI509.out)) | exact HB.out)))); have n2_ := Aside0.mk (IsS39.below (by repeat (first | (with_reducible first | exact HI509.out | apply IsS39.alloc | apply IsS39.drewN | apply IsS39.drew | apply IsS39.set_1 | apply IsS39.set_2) | exact HI509.out)) hb); have n3_ := Aside0.mk (below_step (by repeat (first | (with_reducible first | exact HB.out | apply below_alloc | apply pw_below_drewN | apply below_drew1 | refine below_set ?_ (IsS39.ge HI509.out)) | exact HB.out)) hb); clear HI509; clear HB; have HO513 := n0_; have HO515 := n1_; have HI509 := n2_; have HB := n3_; clear n0_ n1_ n2_ n3_; (try clear hb); (try clear hb2); (try clear hk); (try clear hi); (try clear ho0); (try clear ho1); obtain ⟨Ao28, co28, eo28⟩ := Kd.R_slice HO513.out; subst eo28; obtain ⟨Ao29, co29, eo29, _⟩ := Kd.Q_slice HO515.out; subst eo29) | ((with_reducible refine gate_callee (f := 32) rfl ?_); refine goesL_ (some 18) rfl rfl Try.func32 kf rfl #[.slice Ao28 t510.length co28, .slice Ao29 t511.length co29] rfl sm ?_; (with_reducible refine (spec_sgProduct.calls k _ _ t510 _ _ t511 t516 _ ?side1 ?side2 ?side3 ?side4 A3.out).mono ?_); (case side1 => exact cr HO513); (case side2 => exact (Kd.R_reads' HO513.out).2.1); (case side3 => repeat (first | exact (Kd.Q_reads' HO515.out).2.2 | (with_reducible refine Kd.C_alloc ?_ _) | (with_reducible refine Kd.C_drewN ?_ _) | (with_reducible refine Kd.C_drew ?_))); (case side4 => exact (Kd.Q_reads' HO515.out).2.1); rintro e w30 ⟨v517, rfl, ho0, hb⟩; refine ⟨_, rfl, ?_⟩; have n0_ := Aside0.mk (Kd.R_elder' (kr HO513) (Kd.R_base ho0) hb); have n1_ := Aside0.mk (Kd.Q_elder' (by (with_reducible repeat (first | apply Kd.Q_alloc | apply Kd.Q_drewN | apply Kd.Q_drew)); exact HO515.out) (Kd.R_base ho0) hb); have n2_ := Aside0.mk (Kd.R_lower (Kd.R_new' (Kd.R_new' ho0 (Kd.R_lt (kr HO513))) (Kd.Q_lt (by (with_reducible repeat (first | apply Kd.Q_alloc | apply Kd.Q_drewN | apply Kd.Q_drew)); exact HO515.out))) (below_size (by repeat (first | (with_reducible first | exact HB.out | apply below_alloc | apply pw_below_drewN | apply below_drew1 | refine below_set ?_ (IsS39.ge HI509.out)) | exact HB.out)))); have n3_ := Aside0.mk (IsS39.below (by repeat (first | (with_reducible first | exact HI509.out | apply IsS39.alloc | apply IsS39.drewN | apply IsS39.drew | apply IsS39.set_1 | apply IsS39.set_2) | exact HI509.out)) hb); have n4_ := Aside0.mk (below_step (by repeat (first | (with_reducible first | exact HB.out | apply below_alloc | apply pw_below_drewN | apply below_drew1 | refine below_set ?_ (IsS39.ge HI509.out)) | exact HB.out)) hb); clear HO513; clear HO515; clear HI509; clear HB; have HO513 := n0_; have HO515 := n1_; have HO518 := n2_; have HI509 := n3_; have HB := n4_; clear n0_ n1_ n2_ n3_ n4_; (try clear hb); (try clear hb2); (try clear hk); (try clear hi); (try clear ho0)) | ((with_reducible refine gate_callee (f := 28) rfl ?_); refine goesL_ (some 20) rfl rfl Try.func28 kf rfl #[.slice Ao28 t510.length co28] rfl sm ?_; (with_reducible refine (spec_sgGood.calls k _ _ t510 true _ ?side1 ?side2 A4.out).mono ?_); (case side1 => exact cr HO513); (case side2 => exact (Kd.R_reads' HO513.out).2.1); rintro e w' ⟨rfl, ⟨nd, rfl⟩⟩; refine ⟨_, rfl, ?_⟩) | (go_at_call 28; (with_reducible refine (spec_sgGood.calls k _ _ t511 true _ ?side1 ?side2 A6.out).mono ?_); (case side1 => repeat (first | exact (Kd.Q_reads' HO515.out).2.2 | (with_reducible refine Kd.C_alloc ?_ _) | (with_reducible refine Kd.C_drewN ?_ _) | (with_reducible refine Kd.C_drew ?_))); (case side2 => exact (Kd.Q_reads' HO515.out).2.1); rintro e w' ⟨rfl, ⟨nd, rfl⟩⟩; obtain ⟨Ao31, co31, eo31⟩ := Kd.R_slice HO518.out; subst eo31) | (go_at_call 28; (with_reducible refine (spec_sgGood.calls k _ _ t516 false _ ?side1 ?side2 A8.out).mono ?_); (case side1 => exact cr HO518); (case side2 => exact (Kd.R_reads' HO518.out).2.1); rintro e w' ⟨rfl, ⟨nd, rfl⟩⟩))
    go_ret2
    exact ⟨_, _, er, by (with_reducible repeat (first | apply Kd.R_alloc | apply Kd.R_drewN | apply Kd.R_drew)); exact Kd.R_mono HO513.out (fun _ hk => hk.1), by (with_reducible repeat (first | apply Kd.Q_alloc | apply Kd.Q_drewN | apply Kd.Q_drew)); exact Kd.Q_mono HO515.out (fun _ hk => hk.1), by repeat (first | (with_reducible first | exact HB.out | apply below_alloc | apply pw_below_drewN | apply below_drew1 | refine below_set ?_ (IsS39.ge HI509.out)) | exact HB.out)⟩
  ·replace c7 := Bool.eq_false_iff.mpr c7
   subst c7
   rw [if_neg (show ¬ (false = true) by decide)] at H
   simp only [Option.some.injEq, Prod.mk.injEq] at H
   obtain ⟨rfl, rfl⟩ := H
   go_enter Try.func16, Try.ntmps16
   go_wp2_with (first | ((with_reducible refine gate_dst (N := 10) rfl ?_); refine bv (N := 10) (cs := #[.slice A0 l0.length c0, .int .i64 0, .int .u64 0]) (t := 39) ?_; intro gb509 hg w32 hbox hb; have n0_ := Aside0.mk (below_step bz hb); have n1_ := Aside0.mk ((show IsS39 w w32 gb509 l0 0 0 from ⟨_, _, hbox, (by rw [hg]; exact (below_size bz)), HR0.out⟩)); clear HB; have HB := n0_; have HI509 := n1_; clear n0_ n1_; clear hb hbox hg) | ((with_reducible refine gate_callee (f := 5) rfl ?_); refine goesL_ (some 13) rfl rfl Try.func5 kf rfl #[.slice A0 l0.length c0] rfl sm ?_; (with_reducible refine (spec_DrawRemainderOf.calls k _ _ l0 t510 t511 _ ?side1 ?side2 A2.out).mono ?_); (case side1 => exact cb HR0); (case side2 => exact HC0.out); rintro e w33 ⟨v512, v514, rfl, ho0, ho1, hb⟩; refine ⟨_, rfl, ?_⟩; have n0_ := Aside0.mk (Kd.R_lower ho0 (below_size (by repeat (first | (with_reducible first | exact HB.out | apply below_alloc | apply pw_below_drewN | apply below_drew1 | refine below_set ?_ (IsS39.ge HI509.out)) | exact HB.out)))); have n1_ := Aside0.mk (Kd.Q_lower ho1 (below_size (by repeat (first | (with_reducible first | exact HB.out | apply below_alloc | apply pw_below_drewN | apply below_drew1 | refine below_set ?_ (IsS39.ge HI509.out)) | exact HB.out)))); have n2_ := Aside0.mk (IsS39.below (by repeat (first | (with_reducible first | exact HI509.out | apply IsS39.alloc | apply IsS39.drewN | apply IsS39.drew | apply IsS39.set_1 | apply IsS39.set_2) | exact HI509.out)) hb); have n3_ := Aside0.mk (below_step (by repeat (first | (with_reducible first | exact HB.out | apply below_alloc | apply pw_below_drewN | apply below_drew1 | refine below_set ?_ (IsS39.ge HI509.out)) | exact HB.out)) hb); clear HI509; clear HB; have HO513 := n0_; have HO515 := n1_; have HI509 := n2_; have HB := n3_; clear n0_ n1_ n2_ n3_; (try clear hb); (try clear hb2); (try clear hk); (try clear hi); (try clear ho0); (try clear ho1); obtain ⟨Ao34, co34, eo34⟩ := Kd.R_slice HO513.out; subst eo34; obtain ⟨Ao35, co35, eo35, _⟩ := Kd.Q_slice HO515.out; subst eo35) | ((with_reducible refine gate_callee (f := 32) rfl ?_); refine goesL_ (some 18) rfl rfl Try.func32 kf rfl #[.slice Ao34 t510.length co34, .slice Ao35 t511.length co35] rfl sm ?_; (with_reducible refine (spec_sgProduct.calls k _ _ t510 _ _ t511 t516 _ ?side1 ?side2 ?side3 ?side4 A3.out).mono ?_); (case side1 => exact cr HO513); (case side2 => exact (Kd.R_reads' HO513.out).2.1); (case side3 => repeat (first | exact (Kd.Q_reads' HO515.out).2.2 | (with_reducible refine Kd.C_alloc ?_ _) | (with_reducible refine Kd.C_drewN ?_ _) | (with_reducible refine Kd.C_drew ?_))); (case side4 => exact (Kd.Q_reads' HO515.out).2.1); rintro e w36 ⟨v517, rfl, ho0, hb⟩; refine ⟨_, rfl, ?_⟩; have n0_ := Aside0.mk (Kd.R_elder' (kr HO513) (Kd.R_base ho0) hb); have n1_ := Aside0.mk (Kd.Q_elder' (by (with_reducible repeat (first | apply Kd.Q_alloc | apply Kd.Q_drewN | apply Kd.Q_drew)); exact HO515.out) (Kd.R_base ho0) hb); have n2_ := Aside0.mk (Kd.R_lower (Kd.R_new' (Kd.R_new' ho0 (Kd.R_lt (kr HO513))) (Kd.Q_lt (by (with_reducible repeat (first | apply Kd.Q_alloc | apply Kd.Q_drewN | apply Kd.Q_drew)); exact HO515.out))) (below_size (by repeat (first | (with_reducible first | exact HB.out | apply below_alloc | apply pw_below_drewN | apply below_drew1 | refine below_set ?_ (IsS39.ge HI509.out)) | exact HB.out)))); have n3_ := Aside0.mk (IsS39.below (by repeat (first | (with_reducible first | exact HI509.out | apply IsS39.alloc | apply IsS39.drewN | apply IsS39.drew | apply IsS39.set_1 | apply IsS39.set_2) | exact HI509.out)) hb); have n4_ := Aside0.mk (below_step (by repeat (first | (with_reducible first | exact HB.out | apply below_alloc | apply pw_below_drewN | apply below_drew1 | refine below_set ?_ (IsS39.ge HI509.out)) | exact HB.out)) hb); clear HO513; clear HO515; clear HI509; clear HB; have HO513 := n0_; have HO515 := n1_; have HO518 := n2_; have HI509 := n3_; have HB := n4_; clear n0_ n1_ n2_ n3_ n4_; (try clear hb); (try clear hb2); (try clear hk); (try clear hi); (try clear ho0)) | ((with_reducible refine gate_callee (f := 28) rfl ?_); refine goesL_ (some 20) rfl rfl Try.func28 kf rfl #[.slice Ao34 t510.length co34] rfl sm ?_; (with_reducible refine (spec_sgGood.calls k _ _ t510 true _ ?side1 ?side2 A4.out).mono ?_); (case side1 => exact cr HO513); (case side2 => exact (Kd.R_reads' HO513.out).2.1); rintro e w' ⟨rfl, ⟨nd, rfl⟩⟩; refine ⟨_, rfl, ?_⟩) | (go_at_call 28; (with_reducible refine (spec_sgGood.calls k _ _ t511 false _ ?side1 ?side2 A6.out).mono ?_); (case side1 => repeat (first | exact (Kd.Q_reads' HO515.out).2.2 | (with_reducible refine Kd.C_alloc ?_ _) | (with_reducible refine Kd.C_drewN ?_ _) | (with_reducible refine Kd.C_drew ?_))); (case side2 => exact (Kd.Q_reads' HO515.out).2.1); rintro e w' ⟨rfl, ⟨nd, rfl⟩⟩))
   go_ret2
   exact ⟨_, _, er, by (with_reducible repeat (first | apply Kd.R_alloc | apply Kd.R_drewN | apply Kd.R_drew)); exact Kd.R_mono HO513.out (fun _ hk => hk.1), by (with_reducible repeat (first | apply Kd.Q_alloc | apply Kd.Q_drewN | apply Kd.Q_drew)); exact Kd.Q_mono HO515.out (fun _ hk => hk.1), by repeat (first | (with_reducible first | exact HB.out | apply below_alloc | apply pw_below_drewN | apply below_drew1 | refine below_set ?_ (IsS39.ge HI509.out)) | exact HB.out)⟩
 ·replace c5 := Bool.eq_false_iff.mpr c5
  subst c5
  rw [if_neg (show ¬ (false = true) by decide)] at H
  simp only [Option.some.injEq, Prod.mk.injEq] at H
  obtain ⟨rfl, rfl⟩ := H
  go_enter Try.func16, Try.ntmps16
  go_wp2_with (first | ((with_reducible refine gate_dst (N := 10) rfl ?_); refine bv (N := 10) (cs := #[.slice A0 l0.length c0, .int .i64 0, .int .u64 0]) (t := 39) ?_; intro gb509 hg w37 hbox hb; have n0_ := Aside0.mk (below_step bz hb); have n1_ := Aside0.mk ((show IsS39 w w37 gb509 l0 0 0 from ⟨_, _, hbox, (by rw [hg]; exact (below_size bz)), HR0.out⟩)); clear HB; have HB := n0_; have HI509 := n1_; clear n0_ n1_; clear hb hbox hg) | ((with_reducible refine gate_callee (f := 5) rfl ?_); refine goesL_ (some 13) rfl rfl Try.func5 kf rfl #[.slice A0 l0.length c0] rfl sm ?_; (with_reducible refine (spec_DrawRemainderOf.calls k _ _ l0 t510 t511 _ ?side1 ?side2 A2.out).mono ?_); (case side1 => exact cb HR0); (case side2 => exact HC0.out); rintro e w38 ⟨v512, v514, rfl, ho0, ho1, hb⟩; refine ⟨_, rfl, ?_⟩; have n0_ := Aside0.mk (Kd.R_lower ho0 (below_size (by repeat (first | (with_reducible first | exact HB.out | apply below_alloc | apply pw_below_drewN | apply below_drew1 | refine below_set ?_ (IsS39.ge HI509.out)) | exact HB.out)))); have n1_ := Aside0.mk (Kd.Q_lower ho1 (below_size (by repeat (first | (with_reducible first | exact HB.out | apply below_alloc | apply pw_below_drewN | apply below_drew1 | refine below_set ?_ (IsS39.ge HI509.out)) | exact HB.out)))); have n2_ := Aside0.mk (IsS39.below (by repeat (first | (with_reducible first | exact HI509.out | apply IsS39.alloc | apply IsS39.drewN | apply IsS39.drew | apply IsS39.set_1 | apply IsS39.set_2) | exact HI509.out)) hb); have n3_ := Aside0.mk (below_step (by repeat (first | (with_reducible first | exact HB.out | apply below_alloc | apply pw_below_drewN | apply below_drew1 | refine below_set ?_ (IsS39.ge HI509.out)) | exact HB.out)) hb); clear HI509; clear HB; have HO513 := n0_; have HO515 := n1_; have HI509 := n2_; have HB := n3_; clear n0_ n1_ n2_ n3_; (try clear hb); (try clear hb2); (try clear hk); (try clear hi); (try clear ho0); (try clear ho1); obtain ⟨Ao39, co39, eo39⟩ := Kd.R_slice HO513.out; subst eo39; obtain ⟨Ao40, co40, eo40, _⟩ := Kd.Q_slice HO515.out; subst eo40) | ((with_reducible refine gate_callee (f := 32) rfl ?_); refine goesL_ (some 18) rfl rfl Try.func32 kf rfl #[.slice Ao39 t510.length co39, .slice Ao40 t511.length co40] rfl sm ?_; (with_reducible refine (spec_sgProduct.calls k _ _ t510 _ _ t511 t516 _ ?side1 ?side2 ?side3 ?side4 A3.out).mono ?_); (case side1 => exact cr HO513); (case side2 => exact (Kd.R_reads' HO513.out).2.1); (case side3 => repeat (first | exact (Kd.Q_reads' HO515.out).2.2 | (with_reducible refine Kd.C_alloc ?_ _) | (with_reducible refine Kd.C_drewN ?_ _) | (with_reducible refine Kd.C_drew ?_))); (case side4 => exact (Kd.Q_reads' HO515.out).2.1); rintro e w41 ⟨v517, rfl, ho0, hb⟩; refine ⟨_, rfl, ?_⟩; have n0_ := Aside0.mk (Kd.R_elder' (kr HO513) (Kd.R_base ho0) hb); have n1_ := Aside0.mk (Kd.Q_elder' (by (with_reducible repeat (first | apply Kd.Q_alloc | apply Kd.Q_drewN | apply Kd.Q_drew)); exact HO515.out) (Kd.R_base ho0) hb); have n2_ := Aside0.mk (Kd.R_lower (Kd.R_new' (Kd.R_new' ho0 (Kd.R_lt (kr HO513))) (Kd.Q_lt (by (with_reducible repeat (first | apply Kd.Q_alloc | apply Kd.Q_drewN | apply Kd.Q_drew)); exact HO515.out))) (below_size (by repeat (first | (with_reducible first | exact HB.out | apply below_alloc | apply pw_below_drewN | apply below_drew1 | refine below_set ?_ (IsS39.ge HI509.out)) | exact HB.out)))); have n3_ := Aside0.mk (IsS39.below (by repeat (first | (with_reducible first | exact HI509.out | apply IsS39.alloc | apply IsS39.drewN | apply IsS39.drew | apply IsS39.set_1 | apply IsS39.set_2) | exact HI509.out)) hb); have n4_ := Aside0.mk (below_step (by repeat (first | (with_reducible first | exact HB.out | apply below_alloc | apply pw_below_drewN | apply below_drew1 | refine below_set ?_ (IsS39.ge HI509.out)) | exact HB.out)) hb); clear HO513; clear HO515; clear HI509; clear HB; have HO513 := n0_; have HO515 := n1_; have HO518 := n2_; have HI509 := n3_; have HB := n4_; clear n0_ n1_ n2_ n3_ n4_; (try clear hb); (try clear hb2); (try clear hk); (try clear hi); (try clear ho0)) | ((with_reducible refine gate_callee (f := 28) rfl ?_); refine goesL_ (some 20) rfl rfl Try.func28 kf rfl #[.slice Ao39 t510.length co39] rfl sm ?_; (with_reducible refine (spec_sgGood.calls k _ _ t510 false _ ?side1 ?side2 A4.out).mono ?_); (case side1 => exact cr HO513); (case side2 => exact (Kd.R_reads' HO513.out).2.1); rintro e w' ⟨rfl, ⟨nd, rfl⟩⟩; refine ⟨_, rfl, ?_⟩))
  go_ret2
  exact ⟨_, _, er, by (with_reducible repeat (first | apply Kd.R_alloc | apply Kd.R_drewN | apply Kd.R_drew)); exact Kd.R_mono HO513.out (fun _ hk => hk.1), by (with_reducible repeat (first | apply Kd.Q_alloc | apply Kd.Q_drewN | apply Kd.Q_drew)); exact Kd.Q_mono HO515.out (fun _ hk => hk.1), by repeat (first | (with_reducible first | exact HB.out | apply below_alloc | apply pw_below_drewN | apply below_drew1 | refine below_set ?_ (IsS39.ge HI509.out)) | exact HB.out)⟩
mutual
def spec_sgDivide.l0 : Nat → List Int → List Int → List Int → Int → Option (List Int × Bool)
 | 0, _, _, _, _ => none
 | k + 1, x1, x6, x7, x8 => if x8 ≥ 0 then (if 0 ≤ (wrap64 ((wrap64 (x8 + (x1.length : Int))) - 1)) then (if (wrap64 ((wrap64 (x8 + (x1.length : Int))) - 1)) < (x6.length : Int) then (if 0 ≤ (wrap64 ((x1.length : Int) - 1)) then (if (wrap64 ((x1.length : Int) - 1)) < (x1.length : Int) then (if (rd x1 (wrap64 ((x1.length : Int) - 1))) = 0 then (none) else (if (Int.tmod (rd x6 (wrap64 ((wrap64 (x8 + (x1.length : Int))) - 1))) (rd x1 (wrap64 ((x1.length : Int) - 1)))) = 0 then ((spec_l1In.f (wrap64 (Int.tdiv (rd x6 (wrap64 ((wrap64 (x8 + (x1.length : Int))) - 1))) (rd x1 (wrap64 ((x1.length : Int) - 1))))) (-1000000000) 1000000000).bind fun t534 => (spec_sgDivide.j1 k x1 x6 x7 x8 (rd x6 (wrap64 ((wrap64 (x8 + (x1.length : Int))) - 1))) (rd x1 (wrap64 ((x1.length : Int) - 1))) (!t534))) else (spec_sgDivide.j1 k x1 x6 x7 x8 (rd x6 (wrap64 ((wrap64 (x8 + (x1.length : Int))) - 1))) (rd x1 (wrap64 ((x1.length : Int) - 1))) true))) else (none)) else (none)) else (none)) else (none)) else ((spec_l1All.f k x6 0 0).bind fun t531 => (some (x7, t531)))
def spec_sgDivide.j1 : Nat → List Int → List Int → List Int → Int → Int → Int → Bool → Option (List Int × Bool)
 | 0, _, _, _, _, _, _, _ => none
 | k + 1, x1, x6, x7, x8, x9, x10, x61 => if x61 = true then (some (([] : List Int), false)) else (if x10 = 0 then (none) else (if 0 ≤ x8 then (if x8 < (x7.length : Int) then (spec_sgDivide.l1 k x1 x6 (x7.set (x8 : Int).toNat (wrap64 (Int.tdiv x9 x10))) x8 x1 (x1.length : Int) 0) else (none)) else (none)))
def spec_sgDivide.l1 : Nat → List Int → List Int → List Int → Int → List Int → Int → Int → Option (List Int × Bool)
 | 0, _, _, _, _, _, _, _ => none
 | k + 1, x1, x6, x7, x8, x68, x69, x70 => if x70 < x69 then (if 0 ≤ x70 then (if x70 < (x68.length : Int) then (if 0 ≤ (wrap64 (x8 + x70)) then (if (wrap64 (x8 + x70)) < (x6.length : Int) then (if 0 ≤ x8 then (if x8 < (x7.length : Int) then (spec_sgDivide.l1 k x1 (x6.set ((wrap64 (x8 + x70)) : Int).toNat (wrap64 ((rd x6 (wrap64 (x8 + x70))) - (wrap64 ((rd x7 x8) * (rd x68 x70)))))) x7 x8 x68 x69 (wrap64 (x70 + 1))) else (none)) else (none)) else (none)) else (none)) else (none)) else (none)) else (spec_sgDivide.l0 k x1 x6 x7 (wrap64 (x8 - 1)))
end
def spec_sgDivide.f (k : Nat) (l0 : List Int) (l1 : List Int) : Option (List Int × Bool) := if (l0.length : Int) < (l1.length : Int) then (some (([] : List Int), ((l0.length : Int) == 0))) else ((spec_l1Own.f l0).bind fun t525 => (if 0 ≤ (wrap64 ((wrap64 ((l0.length : Int) - (l1.length : Int))) + 1)) then (if (wrap64 ((wrap64 ((l0.length : Int) - (l1.length : Int))) + 1) : Int).toNat ≤ 35184372088832 then ((some (List.replicate (wrap64 ((wrap64 ((l0.length : Int) - (l1.length : Int))) + 1) : Int).toNat 0 : List Int)).bind fun y528 => (spec_sgDivide.l0 k l1 t525 y528 (wrap64 ((y528.length : Int) - 1)))) else (none)) else (none)))
def spec_sgDivide.T8 : Bool × List (List Nat × List Nat) := (true, [([], []), ([], []), ([], []), ([2], [2]), ([1, 3], [1, 3]), ([4], [4]), ([0, 5], [0, 5]), ([6], [6]), ([], []), ([], []), ([9], [9]), ([10], [10]), ([8, 11], [8, 11]), ([12], [12]), ([7, 0, 1, 2, 3, 4, 5, 6, 7], [7]), ([13, 14, 0, 1, 2, 3, 4, 5, 6, 7, 8, 9, 10, 11, 12, 13, 14], [13])])
def spec_sgDivide.B8 : List Nat := [0, 0, 0, 4, 14, 30, 63, 127, 0, 0, 512, 1536, 3840, 7936, 255, 32767]
theorem spec_sgDivide.tab8 : rtab .any (opsOf Try.f39 8) = spec_sgDivide.T8 := by kernel_rfl
theorem spec_sgDivide.bits8 : waitsOk spec_sgDivide.T8.2 spec_sgDivide.B8 = true := by kernel_rfl
def spec_sgDivide.T15 : Bool × List (List Nat × List Nat) := (true, [([], []), ([], []), ([], []), ([1, 2], [1, 2]), ([0, 3], [0, 3]), ([4], [4]), ([], []), ([], []), ([6, 7], [6, 7]), ([8], [8]), ([], []), ([9, 10], [9, 10]), ([5, 11], [5, 11]), ([0, 3, 0, 1, 2, 3, 4, 5, 6, 7, 8, 9, 10, 11, 12], [0, 3]), ([13, 12, 0, 1, 2, 3, 4, 5, 6, 7, 8, 9, 10, 11, 12], [12, 13])])
def spec_sgDivide.B15 : List Nat := [0, 0, 0, 6, 15, 31, 0, 0, 192, 448, 0, 1984, 4095, 8191, 16383]
theorem spec_sgDivide.tab15 : rtab .any (opsOf Try.f39 15) = spec_sgDivide.T15 := by kernel_rfl
theorem spec_sgDivide.bits15 : waitsOk spec_sgDivide.T15.2 spec_sgDivide.B15 = true := by kernel_rfl
set_option maxHeartbeats 8000000 in
set_option maxRecDepth 100000 in
theorem spec_sgDivide.calls (k : Nat) (A0 : Option Addr) (c0 : Nat) (l0 : List Int) (A1 : Option Addr) (c1 : Nat) (l1 : List Int) (r1 : List Int) (r2 : Bool) (w : World) (hr0 : Kd.C (Kd.int .i64) w A0 l0.length l0) (hc0 : l0.length ≤ c0) (hr1 : Kd.C (Kd.int .i64) w A1 l1.length l1) (hc1 : l1.length ≤ c1) (h : spec_sgDivide.f k l0 l1 = some (r1, r2)) :
 Calls Try.prog 39 #[.slice A0 l0.length c0, .slice A1 l1.length c1] w fun e w' => ∃ v0_ : Value, e = .returned (.tuple #[v0_, .bool r2]) ∧ Kd.R (Kd.int .i64) 3 w' w.heap.size (fun _ => True) v0_ r1 ∧ Below w.heap.size w w' := by
 have HR0 := Aside0.mk hr0
 have HC0 := Aside0.mk hc0
 clear hr0 hc0
 have HR1 := Aside0.mk hr1
 have HC1 := Aside0.mk hc1
 clear hr1 hc1
 have HB := Aside0.mk (Below.refl w.heap.size w)
 have H : (if (l0.length : Int) < (l1.length : Int) then (some (([] : List Int), ((l0.length : Int) == 0))) else ((spec_l1Own.f l0).bind fun t525 => (if 0 ≤ (wrap64 ((wrap64 ((l0.length : Int) - (l1.length : Int))) + 1)) then (if (wrap64 ((wrap64 ((l0.length : Int) - (l1.length : Int))) + 1) : Int).toNat ≤ 35184372088832 then ((some (List.replicate (wrap64 ((wrap64 ((l0.length : Int) - (l1.length : Int))) + 1) : Int).toNat 0 : List Int)).bind fun y528 => (spec_sgDivide.l0 k l1 t525 y528 (wrap64 ((y528.length : Int) - 1)))) else (none)) else (none)))) = some (r1, r2) := h
 clear h
 by_cases c3 : (l0.length : Int) < (l1.length : Int)
 ·rw [if_pos c3] at H
  have c3b0 : decide ((l0.length : Int) < (l1.length : Int)) = true := decide_eq_true c3
  have c3b1 : decide (l0.length < l1.length) = true := decide_eq_true (Int.ofNat_lt.mp c3)
  clear c3
  simp only [Option.some.injEq, Prod.mk.injEq] at H
  obtain ⟨rfl, rfl⟩ := H
  go_enter Try.func39, Try.ntmps39
  go_wp2
  go_ret2
  exact ⟨_, er, by first | exact Kd.R_nil _ _ _ _ _ | exact Kd.N_nil _ _ _ _ _ | exact Kd.V_nil _ _ _ _ _ | exact Kd.Q_nil _ _ _ _ _ | exact Kd.S_nil _ _ _ _ _, bz⟩
 ·rw [if_neg c3] at H
  have c3b0 : decide ((l0.length : Int) < (l1.length : Int)) = false := decide_eq_false c3
  have c3b1 : decide (l0.length < l1.length) = false := decide_eq_false (fun h => c3 (Int.ofNat_lt.mpr h))
  clear c3
  obtain ⟨t525, A4, H⟩ := bi H
  obtain ⟨ji5, hji5⟩ : ∃ j_ : Int, (wrap64 ((wrap64 ((l0.length : Int) - (l1.length : Int))) + 1)) = j_ := ⟨_, rfl⟩
  first | rw [hji5] at H | simp only [hji5] at H
  (try rw [hji5] at A4)
  have hji5w : (IntKind.i64.wrap ((wrap64 ((l0.length : Int) - (l1.length : Int))) + 1)) = ji5 := (i64_w _).trans hji5
  by_cases c6 : 0 ≤ (ji5)
  ·rw [if_pos c6] at H
   have c6b0 := eq_true c6
   have c6b1 : decide (0 ≤ (ji5)) = true := decide_eq_true c6
   clear c6
   by_cases c7 : (ji5 : Int).toNat ≤ 35184372088832
   ·rw [if_pos c7] at H
    have c7b0 := eq_true c7
    have c7b1 : decide ((ji5 : Int).toNat ≤ 35184372088832) = true := decide_eq_true c7
    clear c7
    obtain ⟨y528, hy528⟩ : ∃ y_ : List Int, y_ = (List.replicate (ji5 : Int).toNat 0) := ⟨_, rfl⟩
    replace H : (spec_sgDivide.l0 k l1 t525 y528 (wrap64 ((y528.length : Int) - 1))) = some (r1, r2) := by first | (rw [hy528]; with_reducible exact H) | (have H2_ := (Option.bind_some _ _).symm.trans H; rw [hy528]; with_reducible exact H2_) | (have H2_ := (Option.bind_some _ _).symm.trans H; with_reducible exact H2_) | with_reducible exact H | (rw [hy528]; exact H) | exact H
    have Ny528 := Aside0.mk hy528
    clear hy528
    have H' := Aside0.mk H
    clear H
    go_enter Try.func39, Try.ntmps39
    go_wp2_with (first | ((with_reducible refine gate_callee (f := 58) rfl ?_); refine goesL_ (some 22) rfl rfl Try.func58 kf rfl #[.slice A0 l0.length c0] rfl sm ?_; (with_reducible refine (spec_l1Own.calls _ _ l0 t525 _ ?side1 ?side2 A4.out).mono ?_); (case side1 => exact cc HR0); (case side2 => exact HC0.out); rintro e w8 ⟨v526, rfl, ho0, hb⟩; refine ⟨_, rfl, ?_⟩; have n0_ := Aside0.mk (Kd.R_lower ho0 (below_size bz)); have n1_ := Aside0.mk (below_step bz hb); clear HB; have HO527 := n0_; have HB := n1_; clear n0_ n1_; (try clear hb); (try clear hb2); (try clear hk); (try clear hi); (try clear ho0)) | ((with_reducible refine gate_dst (N := 29) rfl ?_); refine Kd.R_make (Kd.int .i64) _ 3 rfl (N := 29) rfl 24 _ _ rfl ji5 rfl rfl Try.underlying24 (.int .i64 0) 8 info3 rfl (by decide) (by omega) 0 (ok := fun _ => True) (okp := fun _ => True) rfl (fun _ hk => hk) trivial (of_decide_eq_true am) (Nat.le_trans (Nat.mul_le_mul_right _ (of_decide_eq_true am : ji5.toNat ≤ 35184372088832)) (by omega)) (Below.refl _ _) (Nat.le_refl _) ?_; intro v529 w9 ho10 hb hg_ hnew_; clear hg_ hnew_; (first | rw [← Ny528.out] at ho10 | (simp only [Int.reduceToNat] at ho10; rw [← Ny528.out] at ho10)); have n0_ := Aside0.mk (Kd.R_elder' (kr HO527) (Kd.R_base ho10) hb); have n1_ := Aside0.mk (Kd.R_lower (Kd.R_new' ho10 (Kd.R_lt (kr HO527))) (below_size bz)); have n2_ := Aside0.mk (below_step bz hb); clear HO527; clear HB; have HO527 := n0_; have HO530 := n1_; have HB := n2_; clear n0_ n1_ n2_; clear hb ho10; obtain ⟨Ao11, co11, eo11⟩ := Kd.R_slice HO530.out; subst eo11))
    go_loopg [8] k (fun kq v8 w' => ∃ (x6_1 : List Int) (x7_1 : List Int) (x8_1 : Int), v8 = .int .i64 x8_1 ∧ Aside0 (spec_sgDivide.l0 kq l1 x6_1 x7_1 x8_1 = some (r1, r2)) ∧ Aside0 (kq ≤ k) ∧ Aside0 (Kd.R (Kd.int .i64) 3 w' w.heap.size (fun k_ => some k_ ≠ ((.slice Ao11 y528.length co11) : Value).ownBlock) v526 x6_1) ∧ Aside0 (Kd.R (Kd.int .i64) 3 w' w.heap.size (fun k_ => some k_ ≠ (v526 : Value).ownBlock) (.slice Ao11 y528.length co11) x7_1) ∧ Aside0 (Below w.heap.size w w'))
    case atStart => exact ⟨(t525), (y528), (wrap64 ((y528.length : Int) - 1)), sr, H', ⟨Nat.le_refl _⟩, ⟨by (with_reducible repeat (first | apply Kd.R_alloc | apply Kd.R_drewN | apply Kd.R_drew)); exact Kd.R_mono HO527.out (fun _ hk => hk.2)⟩, ⟨by (with_reducible repeat (first | apply Kd.R_alloc | apply Kd.R_drewN | apply Kd.R_drew)); exact Kd.R_mono HO530.out (fun _ hk => hk.2)⟩, ⟨bz⟩⟩
    case round =>
     clear H'
     try clear c1; try clear p2; try clear c3; try clear c3b0; try clear c3b1; try clear c5; try clear c6; try clear c6b0; try clear c6b1; try clear p6; try clear c7; try clear c7b0; try clear c7b1
     obtain ⟨x6_1, x7_1, x8_1, rfl, HA, HK1, HO_6, HO_7, HB⟩ := hrel
     have hl7_1 := (Kd.R_reads' HO_7.out).1
     rw [hl7_1] at HO_7
     (try simp only [hl7_1])
     (try simp only [hl7_1] at HO_6)
     cases gk with
     | zero => exact absurd HA.out (by simp [spec_sgDivide.l0])
     | succ k1 =>
      have H := HA.out
      clear HA
      simp only [spec_sgDivide.l0] at H
      by_cases c12 : x8_1 ≥ 0
      ·rw [if_pos c12] at H
       have c12b0 : decide (0 ≤ x8_1) = true := decide_eq_true c12
       clear c12
       obtain ⟨ji13, hji13⟩ : ∃ j_ : Int, (wrap64 ((wrap64 (x8_1 + (l1.length : Int))) - 1)) = j_ := ⟨_, rfl⟩
       first | rw [hji13] at H | simp only [hji13] at H
       have hji13w : (IntKind.i64.wrap ((wrap64 (x8_1 + (l1.length : Int))) - 1)) = ji13 := (i64_w _).trans hji13
       by_cases c14 : 0 ≤ (ji13)
       ·rw [if_pos c14] at H
        have c14b0 : decide (0 ≤ (ji13)) = true := decide_eq_true c14
        clear c14
        by_cases c15 : (ji13) < (x6_1.length : Int)
        ·rw [if_pos c15] at H
         have c15b0 : decide ((ji13) < (x6_1.length : Int)) = true := decide_eq_true c15
         (try (have c15b0l : _ := c15b0; rw [hl7_1] at c15b0l))
         clear c15
         obtain ⟨ji16, hji16⟩ : ∃ j_ : Int, (wrap64 ((l1.length : Int) - 1)) = j_ := ⟨_, rfl⟩
         first | rw [hji16] at H | simp only [hji16] at H
         have hji16w : (IntKind.i64.wrap ((l1.length : Int) - 1)) = ji16 := (i64_w _).trans hji16
         by_cases c17 : 0 ≤ (ji16)
         ·rw [if_pos c17] at H
          have c17b0 : decide (0 ≤ (ji16)) = true := decide_eq_true c17
          clear c17
          by_cases c18 : (ji16) < (l1.length : Int)
          ·rw [if_pos c18] at H
           have c18b0 : decide ((ji16) < (l1.length : Int)) = true := decide_eq_true c18
           (try (have c18b0l : _ := c18b0; rw [hl7_1] at c18b0l))
           clear c18
           have HC19 := Aside0.mk H
           clear H
           try go_wp2
           have n0_ := Aside0.mk (Kd.R_drew HO_6.out)
           have n1_ := Aside0.mk (Kd.R_drew HO_7.out)
           have n2_ := Aside0.mk (below_drew1 HB.out)
           clear HO_6 HO_7 HB
           have HO_6 := n0_
           have HO_7 := n1_
           have HB := n2_
           clear n0_ n1_ n2_
           obtain ⟨Ao21, co21, eo21⟩ := Kd.R_slice HO_6.out
           (first | subst eo21 | (injection eo21 with f1_ f2_ f3_; have f4_ := f1_.symm; have f5_ := f3_.symm; clear f1_ f2_ f3_; subst f4_; subst f5_))
           have p532 : 0 ≤ ((ji13) : Int) := of_decide_eq_true am
           have q532 : (ji13) < (x6_1.length : Int) := of_decide_eq_true am
           obtain ⟨ad532, e532, hx532_0⟩ := Kd.at_int (Kd.R_reads' HO_6.out).2.2 (ji13) p532 q532
           cases e532
           replace p532 := eq_true p532
           replace q532 := eq_true q532
           have p533 : 0 ≤ ((ji16) : Int) := of_decide_eq_true am
           have q533 : (ji16) < (l1.length : Int) := of_decide_eq_true am
           obtain ⟨ad533, e533, hx533_0⟩ := Kd.at_int HR1.out (ji16) p533 q533
           have hw533_0 := hx533_0
           cases e533
           replace hx533_0 := (HB.out.cell (World.block_lt_of_cell? w _ hx533_0)).trans hx533_0
           replace p533 := eq_true p533
           replace q533 := eq_true q533
           refine start_ (n := 16) (S := fun w' => w'.cell? (ad532.add ((ji13)).toNat) = some (.int .i64 (rd x6_1 (ji13))) ∧ w'.cell? (ad533.add ((ji16)).toNat) = some (.int .i64 (rd l1 (ji16)))) (ds := []) #[fF, fF, fF, fF, fF, fF, fF, fF, fF, fF, fF, fF, fF, fF, fF, fF] kf rfl rfl ⟨hx532_0, ((HB.out.cell (World.block_lt_of_cell? w _ hw533_0)).trans hw533_0)⟩ (fun hHeld => ?_); refine with_tabW spec_sgDivide.tab8 spec_sgDivide.bits8 (fun HT_ HW_ => ?_)
           generalize wr.drew = w20 at HO_6 HO_7 HB hx532_0 hx533_0 hHeld ⊢
           refine pq (i := 0) (N := some 37) #[tT, fF, fF, fF, fF, fF, fF, fF, fF, fF, fF, fF, fF, fF, fF, fF] rfl rfl HT_.out ?_
           refine pq (i := 1) (N := some 38) #[tT, tT, fF, fF, fF, fF, fF, fF, fF, fF, fF, fF, fF, fF, fF, fF] rfl rfl HT_.out ?_
           refine pq (i := 2) (N := some 39) #[tT, tT, tT, fF, fF, fF, fF, fF, fF, fF, fF, fF, fF, fF, fF, fF] rfl rfl HT_.out ?_
           refine pq (i := 3) (N := some 40) #[tT, tT, tT, tT, fF, fF, fF, fF, fF, fF, fF, fF, fF, fF, fF, fF] rfl rfl HT_.out ?_
           refine pq (i := 4) (N := some 41) #[tT, tT, tT, tT, tT, fF, fF, fF, fF, fF, fF, fF, fF, fF, fF, fF] rfl rfl HT_.out ?_
           refine pq (i := 5) (N := some 42) #[tT, tT, tT, tT, tT, tT, fF, fF, fF, fF, fF, fF, fF, fF, fF, fF] rfl rfl HT_.out ?_
           refine pq (i := 6) (N := some 43) #[tT, tT, tT, tT, tT, tT, tT, fF, fF, fF, fF, fF, fF, fF, fF, fF] rfl rfl HT_.out ?_
           refine pq (i := 8) (N := some 45) #[tT, tT, tT, tT, tT, tT, tT, fF, tT, fF, fF, fF, fF, fF, fF, fF] rfl rfl HT_.out ?_
           refine pq (i := 9) (N := some 46) #[tT, tT, tT, tT, tT, tT, tT, fF, tT, tT, fF, fF, fF, fF, fF, fF] rfl rfl HT_.out ?_
           refine pq (i := 10) (N := some 47) #[tT, tT, tT, tT, tT, tT, tT, fF, tT, tT, tT, fF, fF, fF, fF, fF] rfl rfl HT_.out ?_
           refine pq (i := 11) (N := some 48) #[tT, tT, tT, tT, tT, tT, tT, fF, tT, tT, tT, tT, fF, fF, fF, fF] rfl rfl HT_.out ?_
           refine pq (i := 12) (N := some 49) #[tT, tT, tT, tT, tT, tT, tT, fF, tT, tT, tT, tT, tT, fF, fF, fF] rfl rfl HT_.out ?_
           refine tq2 (i := 7) (N := some 44) #[tT, tT, tT, tT, tT, tT, tT, tT, tT, tT, tT, tT, tT, fF, fF, fF] rfl rfl HT_.out HW_.out hHeld ?_
           refine pq (i := 14) (N := some 9) #[tT, tT, tT, tT, tT, tT, tT, tT, tT, tT, tT, tT, tT, fF, tT, fF] rfl rfl HT_.out ?_
           refine tq2 (i := 13) (N := some 50) #[tT, tT, tT, tT, tT, tT, tT, tT, tT, tT, tT, tT, tT, tT, tT, fF] rfl rfl HT_.out HW_.out hHeld ?_
           refine pq (i := 15) (N := some 10) #[tT, tT, tT, tT, tT, tT, tT, tT, tT, tT, tT, tT, tT, tT, tT, tT] rfl rfl HT_.out ?_
           refine done_ (done_of HT_.out kf) ?_
           go_upto_region 9 with (fail)
           go_cut [61] (fun v61 wc => ∃ (kq : Nat) (x61_18 : Bool), v61 = .bool x61_18 ∧ Aside0 (spec_sgDivide.j1 kq l1 x6_1 x7_1 x8_1 (rd x6_1 (ji13)) (rd l1 (ji16)) x61_18 = some (r1, r2)) ∧ Aside0 (kq ≤ k1) ∧ Aside0 (Kd.R (Kd.int .i64) 3 wc w.heap.size (fun k_ => some k_ ≠ ((.slice Ao11 x7_1.length co11) : Value).ownBlock) (.slice (some ad532) x6_1.length co21) x6_1) ∧ Aside0 (Kd.R (Kd.int .i64) 3 wc w.heap.size (fun k_ => some k_ ≠ ((.slice (some ad532) x6_1.length co21) : Value).ownBlock) (.slice Ao11 x7_1.length co11) x7_1) ∧ Aside0 (Below w.heap.size w wc))
           case first =>
            have H := HC19.out
            clear HC19
            by_cases c22 : (rd l1 (ji16)) = 0
            ·rw [if_pos c22] at H
             exact absurd H (by simp)
            ·rw [if_neg c22] at H
             have c22b0 : ((rd l1 (ji16)) == 0) = false := beq_eq_false_iff_ne.mpr c22
             have c22b1 : ((rd l1 (ji16)) != 0) = true := bne_iff_ne.mpr c22
             (first | rw [c22b0] | (simp only [i64_w, i32_w]; rw [c22b0]) | skip)
             by_cases c23 : (Int.tmod (rd x6_1 (ji13)) (rd l1 (ji16))) = 0
             ·rw [if_pos c23] at H
              have c23b0 : ((Int.tmod (rd x6_1 (ji13)) (rd l1 (ji16))) == 0) = true := beq_iff_eq.mpr c23
              have c23b1 : ((Int.tmod (rd x6_1 (ji13)) (rd l1 (ji16))) != 0) = false := bne_eq_false_iff_eq.mpr c23
              clear c23
              obtain ⟨t534, A24, H⟩ := bi H
              have H' := Aside0.mk H
              clear H
              go_wp2_with (first | (go_at_call 59; (with_reducible refine (spec_l1In.calls (wrap64 (Int.tdiv (rd x6_1 (ji13)) (rd l1 (ji16)))) (-1000000000) 1000000000 t534 _ A24.out).mono ?_); rintro e w' ⟨rfl, ⟨nd, rfl⟩⟩))
              go_meet
              case rel => exact ⟨_, (!t534), sr, H', ⟨by have := HK1.out; first | omega | exact Nat.le_refl _⟩, ⟨by (try simp only [hl7_1]); (with_reducible repeat (first | apply Kd.R_alloc | apply Kd.R_drewN | apply Kd.R_drew)); exact HO_6.out⟩, ⟨by (try simp only [hl7_1]); (with_reducible repeat (first | apply Kd.R_alloc | apply Kd.R_drewN | apply Kd.R_drew)); exact HO_7.out⟩, ⟨bz⟩⟩
             ·rw [if_neg c23] at H
              have c23b0 : ((Int.tmod (rd x6_1 (ji13)) (rd l1 (ji16))) == 0) = false := beq_eq_false_iff_ne.mpr c23
              have c23b1 : ((Int.tmod (rd x6_1 (ji13)) (rd l1 (ji16))) != 0) = true := bne_iff_ne.mpr c23
              have H' := Aside0.mk H
              clear H
              go_wp2
              go_meet
              case rel => exact ⟨_, (true), sr, H', ⟨by have := HK1.out; first | omega | exact Nat.le_refl _⟩, ⟨by (try simp only [hl7_1]); (with_reducible repeat (first | apply Kd.R_alloc | apply Kd.R_drewN | apply Kd.R_drew)); exact HO_6.out⟩, ⟨by (try simp only [hl7_1]); (with_reducible repeat (first | apply Kd.R_alloc | apply Kd.R_drewN | apply Kd.R_drew)); exact HO_7.out⟩, ⟨bz⟩⟩
           case rest =>
            clear HC19
            try clear c1; try clear c2; try clear p2; try clear c3; try clear c3b0; try clear c3b1; try clear c5; try clear p5; try clear q5; try clear hx5; try clear c6; try clear c6b0; try clear c6b1; try clear p6; try clear c7; try clear c7b0; try clear c7b1; try clear c12; try clear c12b0; try clear c14; try clear c14b0; try clear c15; try clear c15b0; try clear c17; try clear c17b0; try clear c18; try clear c18b0; try clear c22; try clear c22b0; try clear c22b1; try clear c23; try clear c23b0; try clear c23b1; try clear hx532_0; try clear hx533_0; try clear p2; try clear p532; try clear p533; try clear p6; try clear q532; try clear q533
            obtain ⟨kq, x61_18, rfl, HA, HJ18, HO_6, HO_7, HB⟩ := hcut
            cases kq with
            | zero => exact absurd HA.out (by simp [spec_sgDivide.j1])
            | succ kj18 =>
             have H := HA.out
             clear HA
             simp only [spec_sgDivide.j1] at H
             by_cases c25 : x61_18 = true
             ·subst c25
              rw [if_pos rfl] at H
              simp only [Option.some.injEq, Prod.mk.injEq] at H
              obtain ⟨rfl, rfl⟩ := H
              go_wp2
              go_ret2
              exact ⟨_, by first | rfl | (simp [errW_none, errW_some] <;> rfl) | (simp only [← hji5, ← hji13, ← hji16]; first | rfl | (simp [errW_none, errW_some] <;> rfl)) | (simp [*, errW_none, errW_some] <;> rfl), by first | exact Kd.R_nil _ _ _ _ _ | exact Kd.N_nil _ _ _ _ _ | exact Kd.V_nil _ _ _ _ _ | exact Kd.Q_nil _ _ _ _ _ | exact Kd.S_nil _ _ _ _ _, bz⟩
             ·replace c25 := Bool.eq_false_iff.mpr c25
              subst c25
              rw [if_neg (show ¬ (false = true) by decide)] at H
              by_cases c26 : (rd l1 (ji16)) = 0
              ·rw [if_pos c26] at H
               exact absurd H (by simp)
              ·rw [if_neg c26] at H
               have c26b0 : ((rd l1 (ji16)) == 0) = false := beq_eq_false_iff_ne.mpr c26
               have c26b1 : ((rd l1 (ji16)) != 0) = true := bne_iff_ne.mpr c26
               by_cases c27 : 0 ≤ x8_1
               ·rw [if_pos c27] at H
                have c27b0 : decide (0 ≤ x8_1) = true := decide_eq_true c27
                clear c27
                by_cases c28 : x8_1 < (x7_1.length : Int)
                ·rw [if_pos c28] at H
                 have c28b0 : decide (x8_1 < (x7_1.length : Int)) = true := decide_eq_true c28
                 (try (have c28b0l : _ := c28b0; rw [hl7_1] at c28b0l))
                 clear c28
                 obtain ⟨y535, hy535⟩ : ∃ y_ : List Int, y_ = (x7_1.set (x8_1 : Int).toNat (wrap64 (Int.tdiv (rd x6_1 (ji13)) (rd l1 (ji16))))) := ⟨_, rfl⟩
                 replace H : (spec_sgDivide.l1 kj18 l1 x6_1 y535 x8_1 l1 (l1.length : Int) 0) = some (r1, r2) := by first | (rw [hy535]; with_reducible exact H) | (have H2_ := (Option.bind_some _ _).symm.trans H; rw [hy535]; with_reducible exact H2_) | (have H2_ := (Option.bind_some _ _).symm.trans H; with_reducible exact H2_) | with_reducible exact H | (rw [hy535]; exact H) | exact H
                 have Ny535 := Aside0.mk hy535
                 clear hy535
                 have H' := Aside0.mk H
                 clear H
                 have p29 : 0 ≤ (x8_1 : Int) := of_decide_eq_true am
                 have q29 : (x8_1 : Int) < ((x7_1.length : Int) : Int) := of_decide_eq_true am
                 obtain ⟨go29, co29, eo29, gb29, gl29, cl29, HG29⟩ := Kd.R_form HO_7.out (by omega)
                 (first | cases eo29 | (injection eo29 with ea_ en_ ec_; (first | subst ea_ | (injection ea_ with ea_; subst ea_)); subst ec_; clear en_))
                 have GB29 := Aside0.mk gb29
                 have GG29 := Aside0.mk HG29
                 clear gb29 gl29 HG29
                 obtain ⟨hx29_0, hf29_0⟩ := Kd.R_celln 0 HO_7.out (x8_1 : Int) p29 q29
                 replace p29 := eq_true p29
                 replace q29 := eq_true q29
                 have HP30 := Kd.R_putg HO_7.out (x8_1 : Int) (wrap64 (Int.tdiv (rd x6_1 (ji13)) (rd l1 (ji16))))
                 go_wp2_with (first | ((with_reducible refine gate_store (t := 3) (p := 67) rfl ?_); refine store_event (t := 3) (p := 67) (v := ?vo_w31) (w1 := (wc.setCell ⟨go29, (x8_1 : Int).toNat, none⟩ (.int .i64 (wrap64 (Int.tdiv (rd x6_1 (ji13)) (rd l1 (ji16))))))) ?hg ?ho ?hn ?hr ?_; (case ho => rfl); (case hg => rfl); (case hn => rfl); (case hr => first | (go_simp; done) | (go_simp; rfl)); intro w31 hw; have hg : wc.grownBy w31 (some go29) := (by rw [hw]; exact HP30.2); have hp_ : Kd.R (Kd.int .i64) 3 w31 w.heap.size (fun k_ => some k_ ≠ (.slice (some ad532) x6_1.length co21 : Value).ownBlock) (.slice (some ⟨go29, 0, none⟩) x7_1.length co11) y535 := (by rw [hw, Ny535.out]; exact HP30.1); clear HP30; have n0_ := Aside0.mk (Kd.R_after (v := (.slice (some ⟨go29, 0, none⟩) x7_1.length co11)) (v1 := (.slice (some ⟨go29, 0, none⟩) x7_1.length co11)) (ok := (fun _ => True)) (by (with_reducible repeat (first | apply Kd.R_alloc | apply Kd.R_drewN | apply Kd.R_drew)); exact Kd.R_mono HO_6.out (fun _ hk => ⟨trivial, hk⟩)) hg (.inl rfl)); have n1_ := Aside0.mk (hp_); have n2_ := Aside0.mk ((by rw [hw]; exact below_set (HB.out) GB29.out : Below w.heap.size w w31)); clear HO_6; clear HO_7; clear HB; have HO_6 := n0_; have HO_7 := n1_; have HB := n2_; clear n0_ n1_ n2_; clear hg hw hp_))
                 go_loopg [70] kj18 (fun kq v70 w' => ∃ (x6_3 : List Int) (x70_3 : Int), v70 = .int .i64 x70_3 ∧ Aside0 (spec_sgDivide.l1 kq l1 x6_3 y535 x8_1 l1 (l1.length : Int) x70_3 = some (r1, r2)) ∧ Aside0 (kq ≤ kj18) ∧ Aside0 (Kd.R (Kd.int .i64) 3 w' w.heap.size (fun k_ => some k_ ≠ ((.slice (some ⟨go29, 0, none⟩) x7_1.length co11) : Value).ownBlock) (.slice (some ad532) x6_1.length co21) x6_3) ∧ Aside0 (Kd.R (Kd.int .i64) 3 w' w.heap.size (fun k_ => some k_ ≠ ((.slice (some ad532) x6_1.length co21) : Value).ownBlock) (.slice (some ⟨go29, 0, none⟩) x7_1.length co11) y535) ∧ Aside0 (Below w.heap.size w w'))
                 case atStart => exact ⟨(x6_1), (0), sr, H', ⟨Nat.le_refl _⟩, ⟨by (try simp only [hl7_1]); (with_reducible repeat (first | apply Kd.R_alloc | apply Kd.R_drewN | apply Kd.R_drew)); exact Kd.R_mono HO_6.out (fun _ hk => hk.2)⟩, ⟨by (try simp only [hl7_1]); (with_reducible repeat (first | apply Kd.R_alloc | apply Kd.R_drewN | apply Kd.R_drew)); exact HO_7.out⟩, ⟨bz⟩⟩
                 case round =>
                  clear H'
                  try clear c1; try clear c2; try clear p2; try clear q2; try clear hx2; try clear hf2; try clear c3; try clear c3b0; try clear c3b1; try clear c5; try clear p5; try clear q5; try clear hx5; try clear c6; try clear c6b0; try clear c6b1; try clear p6; try clear c7; try clear c7b0; try clear c7b1; try clear c12; try clear c12b0; try clear c14; try clear c14b0; try clear c15; try clear c15b0; try clear c17; try clear c17b0; try clear c18; try clear c18b0; try clear c22; try clear c22b0; try clear c22b1; try clear c23; try clear c23b0; try clear c23b1; try clear c25; try clear c26; try clear c26b0; try clear c26b1; try clear c27; try clear c27b0; try clear c28; try clear c28b0; try clear p29; try clear q29; try clear hx29; try clear hf29; try clear hx29_0; try clear hx532_0; try clear hx533_0; try clear p2; try clear p29; try clear p5; try clear p532; try clear p533; try clear p6; try clear q29; try clear q5; try clear q532; try clear q533
                  obtain ⟨x6_3, x70_3, rfl, HA, HK3, HO_6, HO_7, HB⟩ := hrel
                  have hl6_3 := (Kd.R_reads' HO_6.out).1
                  rw [hl6_3] at HO_6
                  (try simp only [hl6_3])
                  (try simp only [hl6_3] at HO_7)
                  have hl7_3 := (Kd.R_reads' HO_7.out).1
                  rw [hl7_3] at HO_7
                  (try simp only [hl7_3])
                  (try simp only [hl7_3] at HO_6)
                  cases gk with
                  | zero => exact absurd HA.out (by simp [spec_sgDivide.l1])
                  | succ k3 =>
                   have H := HA.out
                   clear HA
                   simp only [spec_sgDivide.l1] at H
                   by_cases c32 : x70_3 < (l1.length : Int)
                   ·rw [if_pos c32] at H
                    have c32b0 : decide (x70_3 < (l1.length : Int)) = true := decide_eq_true c32
                    (try (have c32b0l : _ := c32b0; rw [hl7_1] at c32b0l))
                    (try (have c32b0l : _ := c32b0; rw [hl6_3] at c32b0l))
                    (try (have c32b0l : _ := c32b0; rw [hl7_3] at c32b0l))
                    clear c32
                    by_cases c33 : 0 ≤ x70_3
                    ·rw [if_pos c33] at H
                     have c33b0 : decide (0 ≤ x70_3) = true := decide_eq_true c33
                     clear c33
                     by_cases c34 : x70_3 < (l1.length : Int)
                     ·rw [if_pos c34] at H
                      have c34b0 : decide (x70_3 < (l1.length : Int)) = true := decide_eq_true c34
                      (try (have c34b0l : _ := c34b0; rw [hl7_1] at c34b0l))
                      (try (have c34b0l : _ := c34b0; rw [hl6_3] at c34b0l))
                      (try (have c34b0l : _ := c34b0; rw [hl7_3] at c34b0l))
                      clear c34
                      obtain ⟨ji35, hji35⟩ : ∃ j_ : Int, (wrap64 (x8_1 + x70_3)) = j_ := ⟨_, rfl⟩
                      first | rw [hji35] at H | simp only [hji35] at H
                      have hji35w : (IntKind.i64.wrap (x8_1 + x70_3)) = ji35 := (i64_w _).trans hji35
                      by_cases c36 : 0 ≤ (ji35)
                      ·rw [if_pos c36] at H
                       have c36b0 : decide (0 ≤ (ji35)) = true := decide_eq_true c36
                       clear c36
                       by_cases c37 : (ji35) < (x6_3.length : Int)
                       ·rw [if_pos c37] at H
                        have c37b0 : decide ((ji35) < (x6_3.length : Int)) = true := decide_eq_true c37
                        (try (have c37b0l : _ := c37b0; rw [hl7_1] at c37b0l))
                        (try (have c37b0l : _ := c37b0; rw [hl6_3] at c37b0l))
                        (try (have c37b0l : _ := c37b0; rw [hl7_3] at c37b0l))
                        clear c37
                        by_cases c38 : 0 ≤ x8_1
                        ·rw [if_pos c38] at H
                         have c38b0 : decide (0 ≤ x8_1) = true := decide_eq_true c38
                         clear c38
                         by_cases c39 : x8_1 < (y535.length : Int)
                         ·rw [if_pos c39] at H
                          have c39b0 : decide (x8_1 < (y535.length : Int)) = true := decide_eq_true c39
                          (try (have c39b0l : _ := c39b0; rw [hl7_1] at c39b0l))
                          (try (have c39b0l : _ := c39b0; rw [hl6_3] at c39b0l))
                          (try (have c39b0l : _ := c39b0; rw [hl7_3] at c39b0l))
                          clear c39
                          obtain ⟨y539, hy539⟩ : ∃ y_ : List Int, y_ = (x6_3.set ((ji35) : Int).toNat (wrap64 ((rd x6_3 (ji35)) - (wrap64 ((rd y535 x8_1) * (rd l1 x70_3)))))) := ⟨_, rfl⟩
                          replace H : (spec_sgDivide.l1 k3 l1 y539 y535 x8_1 l1 (l1.length : Int) (wrap64 (x70_3 + 1))) = some (r1, r2) := by first | (rw [hy539]; with_reducible exact H) | (have H2_ := (Option.bind_some _ _).symm.trans H; rw [hy539]; with_reducible exact H2_) | (have H2_ := (Option.bind_some _ _).symm.trans H; with_reducible exact H2_) | with_reducible exact H | (rw [hy539]; exact H) | exact H
                          have Ny539 := Aside0.mk hy539
                          clear hy539
                          have H' := Aside0.mk H
                          clear H
                          have p536 : 0 ≤ (x70_3 : Int) := of_decide_eq_true am
                          have q536 : x70_3 < (l1.length : Int) := of_decide_eq_true am
                          obtain ⟨ad536, e536, hx536_0⟩ := Kd.at_int HR1.out x70_3 p536 q536
                          obtain rfl : ad533 = ad536 := (by injection e536)
                          replace hx536_0 := (HB.out.cell (World.block_lt_of_cell? w _ hx536_0)).trans hx536_0
                          replace p536 := eq_true p536
                          replace q536 := eq_true q536
                          try go_wp2
                          have n0_ := Aside0.mk (Kd.R_drew HO_6.out)
                          have n1_ := Aside0.mk (Kd.R_drew HO_7.out)
                          have n2_ := Aside0.mk (below_drew1 HB.out)
                          clear HO_6 HO_7 HB
                          have HO_6 := n0_
                          have HO_7 := n1_
                          have HB := n2_
                          clear n0_ n1_ n2_
                          have p537 : 0 ≤ ((ji35) : Int) := of_decide_eq_true am
                          have q537 : (ji35) < (x6_3.length : Int) := of_decide_eq_true am
                          obtain ⟨ad537, e537, hx537_0⟩ := Kd.at_int (Kd.R_reads' HO_6.out).2.2 (ji35) p537 q537
                          obtain rfl : ad532 = ad537 := (by injection e537)
                          replace p537 := eq_true p537
                          replace q537 := eq_true q537
                          have p538 : 0 ≤ (x8_1 : Int) := of_decide_eq_true am
                          have q538 : x8_1 < (y535.length : Int) := of_decide_eq_true am
                          obtain ⟨ad538, e538, hx538_0⟩ := Kd.at_int (Kd.R_reads' HO_7.out).2.2 x8_1 p538 q538
                          obtain rfl : (⟨go29, 0, none⟩ : Addr) = ad538 := (by injection e538)
                          (first | simp only [add_plain] at hx538_0 | simp only [add_at] at hx538_0 | simp only [Addr.add, Nat.zero_add] at hx538_0 | skip)
                          replace p538 := eq_true p538
                          replace q538 := eq_true q538
                          have p40 : 0 ≤ ((ji35) : Int) := of_decide_eq_true am
                          have q40 : ((ji35) : Int) < ((x6_3.length : Int) : Int) := of_decide_eq_true am
                          obtain ⟨go40, co40, eo40, gb40, gl40, cl40, HG40⟩ := Kd.R_form HO_6.out (by omega)
                          (first | cases eo40 | (injection eo40 with ea_ en_ ec_; (first | subst ea_ | (injection ea_ with ea_; subst ea_)); subst ec_; clear en_))
                          have GB40 := Aside0.mk gb40
                          have GG40 := Aside0.mk HG40
                          clear gb40 gl40 HG40
                          (first | simp only [add_plain] at hx532_0 | skip)
                          (first | simp only [add_plain] at hx537_0 | skip)
                          obtain ⟨hx40_0, hf40_0⟩ := Kd.R_celln 0 HO_6.out ((ji35) : Int) p40 q40
                          replace p40 := eq_true p40
                          replace q40 := eq_true q40
                          have HP42 := Kd.R_putn HO_6.out ((ji35) : Int) (wrap64 ((rd x6_3 (ji35)) - (wrap64 ((rd y535 x8_1) * (rd l1 x70_3)))))
                          rw [← Ny539.out] at HP42
                          have HQ42 := Aside0.mk HP42
                          clear HP42
                          refine start_ (n := 15) (S := fun w' => w'.cell? ⟨go40, ((ji35)).toNat, none⟩ = some (.int .i64 (rd x6_3 (ji35))) ∧ w'.cell? ⟨go29, (x8_1).toNat, none⟩ = some (.int .i64 (rd y535 x8_1))) (ds := [14]) #[fF, fF, fF, fF, fF, fF, fF, fF, fF, fF, fF, fF, fF, fF, fF] kf rfl rfl ⟨hx537_0, hx538_0⟩ (fun hHeld => ?_); refine with_tabW spec_sgDivide.tab15 spec_sgDivide.bits15 (fun HT_ HW_ => ?_)
                          generalize wr.drew = w41 at HO_6 HO_7 HB GG40 HQ42 hf40_0 hx40_0 hx537_0 hx538_0 hHeld ⊢
                          refine pq (i := 0) (N := some 75) #[tT, fF, fF, fF, fF, fF, fF, fF, fF, fF, fF, fF, fF, fF, fF] rfl rfl HT_.out ?_
                          refine pq (i := 1) (N := some 76) #[tT, tT, fF, fF, fF, fF, fF, fF, fF, fF, fF, fF, fF, fF, fF] rfl rfl HT_.out ?_
                          refine pq (i := 2) (N := some 77) #[tT, tT, tT, fF, fF, fF, fF, fF, fF, fF, fF, fF, fF, fF, fF] rfl rfl HT_.out ?_
                          refine pq (i := 3) (N := some 78) #[tT, tT, tT, tT, fF, fF, fF, fF, fF, fF, fF, fF, fF, fF, fF] rfl rfl HT_.out ?_
                          refine pq (i := 4) (N := some 79) #[tT, tT, tT, tT, tT, fF, fF, fF, fF, fF, fF, fF, fF, fF, fF] rfl rfl HT_.out ?_
                          refine pq (i := 6) (N := some 81) #[tT, tT, tT, tT, tT, fF, tT, fF, fF, fF, fF, fF, fF, fF, fF] rfl rfl HT_.out ?_
                          refine pq (i := 7) (N := some 82) #[tT, tT, tT, tT, tT, fF, tT, tT, fF, fF, fF, fF, fF, fF, fF] rfl rfl HT_.out ?_
                          refine pq (i := 8) (N := some 83) #[tT, tT, tT, tT, tT, fF, tT, tT, tT, fF, fF, fF, fF, fF, fF] rfl rfl HT_.out ?_
                          refine pq (i := 10) (N := some 85) #[tT, tT, tT, tT, tT, fF, tT, tT, tT, fF, tT, fF, fF, fF, fF] rfl rfl HT_.out ?_
                          refine tq2 (i := 5) (N := some 80) #[tT, tT, tT, tT, tT, tT, tT, tT, tT, fF, tT, fF, fF, fF, fF] rfl rfl HT_.out HW_.out hHeld ?_
                          refine tq2 (i := 9) (N := some 84) #[tT, tT, tT, tT, tT, tT, tT, tT, tT, tT, tT, fF, fF, fF, fF] rfl rfl HT_.out HW_.out hHeld ?_
                          refine pq (i := 11) (N := some 86) #[tT, tT, tT, tT, tT, tT, tT, tT, tT, tT, tT, tT, fF, fF, fF] rfl rfl HT_.out ?_
                          refine pq (i := 12) (N := some 87) #[tT, tT, tT, tT, tT, tT, tT, tT, tT, tT, tT, tT, tT, fF, fF] rfl rfl HT_.out ?_
                          refine pq (i := 13) (N := some 88) #[tT, tT, tT, tT, tT, tT, tT, tT, tT, tT, tT, tT, tT, tT, fF] rfl rfl HT_.out ?_
                          refine last_ (i := 14) (N := none) #[tT, tT, tT, tT, tT, tT, tT, tT, tT, tT, tT, tT, tT, tT, tT] rfl rfl (one_of HT_.out kf) (by decide) (fun K hK => ?_)
                          refine skip_ (w1 := ?_) (by rfl) rfl ?_ ?_
                          rotate_left
                          ·go_simp
                           rfl
                          refine hK.out _ _ ?_
                          clear hK K
                          refine done_ (done_of HT_.out kf) ?_
                          try go_wp2
                          (try simp only [← hl6_3, ← hl7_3])
                          (try rw [← add_plain go40 (((ji13) : Int).toNat)])
                          go_roundg k3
                          case measure => have := HK1.out; have := HJ18.out; have := HK3.out; omega
                          case rel => exact ⟨(y539), (wrap64 (x70_3 + 1)), sr, H', ⟨by have := HK1.out; have := HJ18.out; have := HK3.out; omega⟩, ⟨by (try simp only [hl7_1]); (try simp only [hl6_3]); (try simp only [hl7_3]); (with_reducible repeat (first | apply Kd.R_alloc | apply Kd.R_drewN | apply Kd.R_drew)); exact HQ42.out⟩, ⟨by (try simp only [hl7_1]); (try simp only [hl6_3]); (try simp only [hl7_3]); (with_reducible repeat (first | apply Kd.R_alloc | apply Kd.R_drewN | apply Kd.R_drew)); exact Kd.R_mono (Kd.R_far (p := ⟨go40, ((ji35) : Int).toNat, none⟩) (Kd.R_mono HO_7.out (fun k_ hk => (⟨hk, fun e_ => hk (by rw [e_]; rfl)⟩ : _ ∧ k_ ≠ go40))) (fun _ hk => hk.2) (.int .i64 (wrap64 ((rd x6_3 (ji35)) - (wrap64 ((rd y535 x8_1) * (rd l1 x70_3))))))) (fun _ hk => hk.1)⟩, ⟨bz1 GB40⟩⟩
                         ·rw [if_neg c39] at H
                          exact absurd H (by simp)
                        ·rw [if_neg c38] at H
                         exact absurd H (by simp)
                       ·rw [if_neg c37] at H
                        exact absurd H (by simp)
                      ·rw [if_neg c36] at H
                       exact absurd H (by simp)
                     ·rw [if_neg c34] at H
                      exact absurd H (by simp)
                    ·rw [if_neg c33] at H
                     exact absurd H (by simp)
                   ·rw [if_neg c32] at H
                    have c32b0 : decide (x70_3 < (l1.length : Int)) = false := decide_eq_false c32
                    (try (have c32b0l : _ := c32b0; rw [hl7_1] at c32b0l))
                    (try (have c32b0l : _ := c32b0; rw [hl6_3] at c32b0l))
                    (try (have c32b0l : _ := c32b0; rw [hl7_3] at c32b0l))
                    clear c32
                    have H' := Aside0.mk H
                    clear H
                    go_wp2
                    (try simp only [← hl7_1, ← hl6_3, ← hl7_3])
                    (try rw [← add_plain go40 (((ji13) : Int).toNat)])
                    go_roundg k3
                    case measure => have := HK1.out; have := HJ18.out; have := HK3.out; omega
                    case rel => exact ⟨(x6_3), (y535), (wrap64 (x8_1 - 1)), sr, H', ⟨by have := HK1.out; have := HJ18.out; have := HK3.out; omega⟩, ⟨by (try simp only [hl7_1]); (try simp only [hl6_3]); (try simp only [hl7_3]); (with_reducible repeat (first | apply Kd.R_alloc | apply Kd.R_drewN | apply Kd.R_drew)); exact HO_6.out⟩, ⟨by (try simp only [hl7_1]); (try simp only [hl6_3]); (try simp only [hl7_3]); (with_reducible repeat (first | apply Kd.R_alloc | apply Kd.R_drewN | apply Kd.R_drew)); exact HO_7.out⟩, ⟨bz⟩⟩
                ·rw [if_neg c28] at H
                 exact absurd H (by simp)
               ·rw [if_neg c27] at H
                exact absurd H (by simp)
          ·rw [if_neg c18] at H
           exact absurd H (by simp)
         ·rw [if_neg c17] at H
          exact absurd H (by simp)
        ·rw [if_neg c15] at H
         exact absurd H (by simp)
       ·rw [if_neg c14] at H
        exact absurd H (by simp)
      ·rw [if_neg c12] at H
       have c12b0 : decide (0 ≤ x8_1) = false := decide_eq_false c12
       clear c12
       obtain ⟨t531, A43, H⟩ := bi H
       simp only [Option.some.injEq, Prod.mk.injEq] at H
       obtain ⟨rfl, rfl⟩ := H
       obtain ⟨Ao44, co44, eo44⟩ := Kd.R_slice HO_6.out
       subst eo44
       go_wp2_with (first | ((with_reducible refine gate_callee (f := 50) rfl ?_); refine goesL_ (some 92) rfl rfl Try.func50 kf rfl #[.slice Ao44 x6_1.length co44, .int .i64 0, .int .i64 0] rfl sm ?_; (with_reducible refine (spec_l1All.calls k1 _ _ x6_1 0 0 t531 _ ?side1 ?side2 A43.out).mono ?_); (case side1 => exact cr HO_6); (case side2 => exact (Kd.R_reads' HO_6.out).2.1); rintro e w' ⟨rfl, ⟨nd, rfl⟩⟩; refine ⟨_, rfl, ?_⟩))
       go_ret2
       exact ⟨_, by first | rfl | (simp [errW_none, errW_some] <;> rfl) | (simp only [← hji5]; first | rfl | (simp [errW_none, errW_some] <;> rfl)) | (simp [*, errW_none, errW_some] <;> rfl), by (with_reducible repeat (first | apply Kd.R_alloc | apply Kd.R_drewN | apply Kd.R_drew)); exact Kd.R_mono HO_7.out (fun _ hk => trivial), bz⟩
   ·rw [if_neg c7] at H
    exact absurd H (by simp)
  ·rw [if_neg c6] at H
   exact absurd H (by simp)
end Go.Proofs.Ytgkpbbmacjgilaa.QSgs
