import Derived.Test.YtalcohajbcijlaaZHasPointSq
import Derived.Test.YtalcohajbcijlaaZHasPointQHpsx2
import Derived.Test.YtalcohajbcijlaaZHasPointQHpsx5
namespace Go.Proofs.Ytalcohajbcijlaa.QHps
open Go.RowKit Go.Proofs.YtalcohajbcijlaaW.PrintWords Go.Proofs.YtalcohajbcijlaaW.PrintLast Go.Proofs.YtalcohajbcijlaaW.PrintMore
attribute [local go_sem] max2_int min2_int max_two min_two max_three min_three max_four min_four
set_option linter.unusedVariables false
set_option linter.unusedSimpArgs false
set_option maxHeartbeats 8000000 in
set_option maxRecDepth 100000 in
theorem impl_isBox.callsF (k : Nat) (g : Nat) (B1_ : Option Addr) (b1_ : Nat) (B2_ : Option Addr) (b2_ : Nat) (s0_0 : Int) (s0_1 : List Int) (s0_2 : List Int) (r1 : Bool) (r2 : Int) (w0 w : World) (hI : IsF36 B1_ b1_ B2_ b2_ w0 w g s0_0 s0_1 s0_2) (hB : Below w0.heap.size w0 w) (h : impl_isBox.f k s0_0 s0_1 s0_2 = some (r1, r2)) :
 Calls Try.prog 64 #[.pointer (some ⟨g, 0, none⟩)] w fun e w' => e = .returned (.bool r1) ∧ IsF36 B1_ b1_ B2_ b2_ w0 w' g s0_0 s0_1 s0_2 ∧ Below w0.heap.size w0 w' ∧ KeepBut w w' g none := by
 have HI0 := Aside0.mk hI
 have HK := Aside0.mk (KeepBut.refl w g none)
 have HL := Aside0.mk hB.size
 clear hI
 have HW0 := Aside0.mk hB.size
 have HB := Aside0.mk hB
 clear hB
 have H : ((impl_inside.f s0_0 0 8).bind fun t164 => (if t164 = true then ((impl_inside.f (s0_1.length : Int) 1 3).bind fun t165 => (if t165 = true then (impl_isBox.j0 k ((s0_2.length : Int) != (s0_1.length : Int)) s0_0 s0_1 s0_2) else (impl_isBox.j0 k true s0_0 s0_1 s0_2))) else (impl_isBox.j0 k true s0_0 s0_1 s0_2))) = some (r1, r2) := h
 clear h
 have HC2 := Aside0.mk H
 clear H
 go_enter Try.func64, Try.ntmps64
 go_upto_region 1 with (fail)
 repeat (go_quiet (fail); go_upto_region 1 with (fail))
 go_cut [34] (fun v34 wc => ∃ (kq : Nat) (x34_1 : Bool), v34 = .bool x34_1 ∧ Aside0 (impl_isBox.j0 kq x34_1 s0_0 s0_1 s0_2 = some (r1, r2)) ∧ Aside0 (kq ≤ k) ∧ Aside0 (IsF36 B1_ b1_ B2_ b2_ w0 wc g s0_0 s0_1 s0_2) ∧ Aside0 (KeepBut w wc g none) ∧ Aside0 (Below w0.heap.size w0 wc))
 case first =>
  have H := HC2.out
  clear HC2
  obtain ⟨t164, A3, H⟩ := bi H
  by_cases c4 : t164 = true
  ·subst c4
   rw [if_pos rfl] at H
   obtain ⟨t165, A5, H⟩ := bi H
   by_cases c6 : t165 = true
   ·subst c6
    rw [if_pos rfl] at H
    have H' := Aside0.mk H
    clear H
    obtain ⟨HGz7, hgz7, HSz7_1, HSz7_2⟩ := HI0.out
    have hcz7_0 := cellS36_0 HGz7
    have hcz7_1 := cellS36_1 HGz7
    have hcz7_2 := cellS36_2 HGz7
    have hfz7_0 := blk_frozen HGz7 0
    clear HGz7 hgz7
    go_wp2_with (first | (go_at_call 96; (with_reducible refine (impl_inside.calls s0_0 0 8 true _ A3.out).mono ?_); rintro e w' ⟨rfl, ⟨nd, rfl⟩⟩; (try first | exact ⟨rfl, _, World.drewN_drewN _ _ _⟩ | exact ⟨rfl, _, Eq.trans (World.drewN_drewN _ _ _) (congrArg (World.drewN _) (Nat.add_assoc _ _ _))⟩)) | (go_at_call 96; (with_reducible refine (impl_inside.calls (s0_1.length : Int) 1 3 true _ A5.out).mono ?_); rintro e w' ⟨rfl, ⟨nd, rfl⟩⟩; (try first | exact ⟨rfl, _, World.drewN_drewN _ _ _⟩ | exact ⟨rfl, _, Eq.trans (World.drewN_drewN _ _ _) (congrArg (World.drewN _) (Nat.add_assoc _ _ _))⟩)))
    repeat (go_quiet (first | (go_at_call 96; (with_reducible refine (impl_inside.calls s0_0 0 8 true _ A3.out).mono ?_); rintro e w' ⟨rfl, ⟨nd, rfl⟩⟩; (try first | exact ⟨rfl, _, World.drewN_drewN _ _ _⟩ | exact ⟨rfl, _, Eq.trans (World.drewN_drewN _ _ _) (congrArg (World.drewN _) (Nat.add_assoc _ _ _))⟩)) | (go_at_call 96; (with_reducible refine (impl_inside.calls (s0_1.length : Int) 1 3 true _ A5.out).mono ?_); rintro e w' ⟨rfl, ⟨nd, rfl⟩⟩; (try first | exact ⟨rfl, _, World.drewN_drewN _ _ _⟩ | exact ⟨rfl, _, Eq.trans (World.drewN_drewN _ _ _) (congrArg (World.drewN _) (Nat.add_assoc _ _ _))⟩))); try go_wp2_with (first | (go_at_call 96; (with_reducible refine (impl_inside.calls s0_0 0 8 true _ A3.out).mono ?_); rintro e w' ⟨rfl, ⟨nd, rfl⟩⟩; (try first | exact ⟨rfl, _, World.drewN_drewN _ _ _⟩ | exact ⟨rfl, _, Eq.trans (World.drewN_drewN _ _ _) (congrArg (World.drewN _) (Nat.add_assoc _ _ _))⟩)) | (go_at_call 96; (with_reducible refine (impl_inside.calls (s0_1.length : Int) 1 3 true _ A5.out).mono ?_); rintro e w' ⟨rfl, ⟨nd, rfl⟩⟩; (try first | exact ⟨rfl, _, World.drewN_drewN _ _ _⟩ | exact ⟨rfl, _, Eq.trans (World.drewN_drewN _ _ _) (congrArg (World.drewN _) (Nat.add_assoc _ _ _))⟩))))
    go_meet
    case rel => exact ⟨_, (((s0_2.length : Int) != (s0_1.length : Int))), sr, H', ⟨by first | omega | exact Nat.le_refl _⟩, ⟨by repeat (first | (with_reducible first | exact HI0.out | apply IsF36.alloc | apply IsF36.drewN | apply IsF36.drew | apply IsF36.set_0) | exact HI0.out)⟩, ⟨by repeat (first | (with_reducible first | exact HK.out | apply KeepBut.set_ | apply keep_drewN | apply keep_drew | apply keep_alloc) | exact HK.out)⟩, ⟨by repeat (first | (with_reducible first | exact HB.out | apply below_alloc | apply pw_below_drewN | apply below_drew1 | refine below_set ?_ (IsF36.ge HI0.out)) | exact HB.out)⟩⟩
   ·replace c6 := Bool.eq_false_iff.mpr c6
    subst c6
    rw [if_neg (show ¬ (false = true) by decide)] at H
    have H' := Aside0.mk H
    clear H
    obtain ⟨HGz8, hgz8, HSz8_1, HSz8_2⟩ := HI0.out
    have hcz8_0 := cellS36_0 HGz8
    have hcz8_1 := cellS36_1 HGz8
    have hcz8_2 := cellS36_2 HGz8
    have hfz8_0 := blk_frozen HGz8 0
    clear HGz8 hgz8
    go_wp2_with (first | (go_at_call 96; (with_reducible refine (impl_inside.calls s0_0 0 8 true _ A3.out).mono ?_); rintro e w' ⟨rfl, ⟨nd, rfl⟩⟩; (try first | exact ⟨rfl, _, World.drewN_drewN _ _ _⟩ | exact ⟨rfl, _, Eq.trans (World.drewN_drewN _ _ _) (congrArg (World.drewN _) (Nat.add_assoc _ _ _))⟩)) | (go_at_call 96; (with_reducible refine (impl_inside.calls (s0_1.length : Int) 1 3 false _ A5.out).mono ?_); rintro e w' ⟨rfl, ⟨nd, rfl⟩⟩; (try first | exact ⟨rfl, _, World.drewN_drewN _ _ _⟩ | exact ⟨rfl, _, Eq.trans (World.drewN_drewN _ _ _) (congrArg (World.drewN _) (Nat.add_assoc _ _ _))⟩)))
    repeat (go_quiet (first | (go_at_call 96; (with_reducible refine (impl_inside.calls s0_0 0 8 true _ A3.out).mono ?_); rintro e w' ⟨rfl, ⟨nd, rfl⟩⟩; (try first | exact ⟨rfl, _, World.drewN_drewN _ _ _⟩ | exact ⟨rfl, _, Eq.trans (World.drewN_drewN _ _ _) (congrArg (World.drewN _) (Nat.add_assoc _ _ _))⟩)) | (go_at_call 96; (with_reducible refine (impl_inside.calls (s0_1.length : Int) 1 3 false _ A5.out).mono ?_); rintro e w' ⟨rfl, ⟨nd, rfl⟩⟩; (try first | exact ⟨rfl, _, World.drewN_drewN _ _ _⟩ | exact ⟨rfl, _, Eq.trans (World.drewN_drewN _ _ _) (congrArg (World.drewN _) (Nat.add_assoc _ _ _))⟩))); try go_wp2_with (first | (go_at_call 96; (with_reducible refine (impl_inside.calls s0_0 0 8 true _ A3.out).mono ?_); rintro e w' ⟨rfl, ⟨nd, rfl⟩⟩; (try first | exact ⟨rfl, _, World.drewN_drewN _ _ _⟩ | exact ⟨rfl, _, Eq.trans (World.drewN_drewN _ _ _) (congrArg (World.drewN _) (Nat.add_assoc _ _ _))⟩)) | (go_at_call 96; (with_reducible refine (impl_inside.calls (s0_1.length : Int) 1 3 false _ A5.out).mono ?_); rintro e w' ⟨rfl, ⟨nd, rfl⟩⟩; (try first | exact ⟨rfl, _, World.drewN_drewN _ _ _⟩ | exact ⟨rfl, _, Eq.trans (World.drewN_drewN _ _ _) (congrArg (World.drewN _) (Nat.add_assoc _ _ _))⟩))))
    go_meet
    case rel => exact ⟨_, (true), sr, H', ⟨by first | omega | exact Nat.le_refl _⟩, ⟨by repeat (first | (with_reducible first | exact HI0.out | apply IsF36.alloc | apply IsF36.drewN | apply IsF36.drew | apply IsF36.set_0) | exact HI0.out)⟩, ⟨by repeat (first | (with_reducible first | exact HK.out | apply KeepBut.set_ | apply keep_drewN | apply keep_drew | apply keep_alloc) | exact HK.out)⟩, ⟨by repeat (first | (with_reducible first | exact HB.out | apply below_alloc | apply pw_below_drewN | apply below_drew1 | refine below_set ?_ (IsF36.ge HI0.out)) | exact HB.out)⟩⟩
  ·replace c4 := Bool.eq_false_iff.mpr c4
   subst c4
   rw [if_neg (show ¬ (false = true) by decide)] at H
   have H' := Aside0.mk H
   clear H
   obtain ⟨HGz9, hgz9, HSz9_1, HSz9_2⟩ := HI0.out
   have hcz9_0 := cellS36_0 HGz9
   have hcz9_1 := cellS36_1 HGz9
   have hcz9_2 := cellS36_2 HGz9
   have hfz9_0 := blk_frozen HGz9 0
   clear HGz9 hgz9
   go_wp2_with (first | (go_at_call 96; (with_reducible refine (impl_inside.calls s0_0 0 8 false _ A3.out).mono ?_); rintro e w' ⟨rfl, ⟨nd, rfl⟩⟩; (try first | exact ⟨rfl, _, World.drewN_drewN _ _ _⟩ | exact ⟨rfl, _, Eq.trans (World.drewN_drewN _ _ _) (congrArg (World.drewN _) (Nat.add_assoc _ _ _))⟩)))
   repeat (go_quiet (first | (go_at_call 96; (with_reducible refine (impl_inside.calls s0_0 0 8 false _ A3.out).mono ?_); rintro e w' ⟨rfl, ⟨nd, rfl⟩⟩; (try first | exact ⟨rfl, _, World.drewN_drewN _ _ _⟩ | exact ⟨rfl, _, Eq.trans (World.drewN_drewN _ _ _) (congrArg (World.drewN _) (Nat.add_assoc _ _ _))⟩))); try go_wp2_with (first | (go_at_call 96; (with_reducible refine (impl_inside.calls s0_0 0 8 false _ A3.out).mono ?_); rintro e w' ⟨rfl, ⟨nd, rfl⟩⟩; (try first | exact ⟨rfl, _, World.drewN_drewN _ _ _⟩ | exact ⟨rfl, _, Eq.trans (World.drewN_drewN _ _ _) (congrArg (World.drewN _) (Nat.add_assoc _ _ _))⟩))))
   go_meet
   case rel => exact ⟨_, (true), sr, H', ⟨by first | omega | exact Nat.le_refl _⟩, ⟨by repeat (first | (with_reducible first | exact HI0.out | apply IsF36.alloc | apply IsF36.drewN | apply IsF36.drew | apply IsF36.set_0) | exact HI0.out)⟩, ⟨by repeat (first | (with_reducible first | exact HK.out | apply KeepBut.set_ | apply keep_drewN | apply keep_drew | apply keep_alloc) | exact HK.out)⟩, ⟨by repeat (first | (with_reducible first | exact HB.out | apply below_alloc | apply pw_below_drewN | apply below_drew1 | refine below_set ?_ (IsF36.ge HI0.out)) | exact HB.out)⟩⟩
 case rest =>
  clear HC2
  try clear p2; try clear c4; try clear c6; try clear hcz7_0; try clear hcz7_1; try clear hcz7_2; try clear hcz8_0; try clear hcz8_1; try clear hcz8_2; try clear hcz9_0; try clear hcz9_1; try clear hcz9_2; try clear hfz7_0; try clear hfz8_0; try clear hfz9_0
  obtain ⟨kq, x34_1, rfl, HA, HJ1, HI0, HK, HB⟩ := hcut
  cases kq with
  | zero => exact absurd HA.out (by simp [impl_isBox.j0])
  | succ kj1 =>
   have H := HA.out
   clear HA
   simp only [impl_isBox.j0] at H
   by_cases c10 : x34_1 = true
   ·subst c10
    rw [if_pos rfl] at H
    simp only [Option.some.injEq, Prod.mk.injEq] at H
    obtain ⟨rfl, rfl⟩ := H
    go_wp2
    repeat (go_quiet (fail); try go_wp2)
    go_ret
    exact ⟨er, by repeat (first | (with_reducible first | exact HI0.out | apply IsF36.alloc | apply IsF36.drewN | apply IsF36.drew | apply IsF36.set_0) | exact HI0.out), by repeat (first | (with_reducible first | exact HB.out | apply below_alloc | apply pw_below_drewN | apply below_drew1 | refine below_set ?_ (IsF36.ge HI0.out)) | exact HB.out), by repeat (first | (with_reducible first | exact HK.out | apply KeepBut.set_ | apply keep_drewN | apply keep_drew | apply keep_alloc) | exact HK.out)⟩
   ·replace c10 := Bool.eq_false_iff.mpr c10
    subst c10
    rw [if_neg (show ¬ (false = true) by decide)] at H
    by_cases c11 : 0 ≤ s0_0
    ·rw [if_pos c11] at H
     have c11b0 := eq_true c11
     have c11b1 : decide (0 ≤ s0_0) = true := decide_eq_true c11
     clear c11
     obtain ⟨ji12, hji12⟩ : ∃ j_ : Int, (shl .i64 8 s0_0) = j_ := ⟨_, rfl⟩
     first | rw [hji12] at H | simp only [hji12] at H
     have hji12_ : (IntKind.i64.wrap (8 * 2 ^ min s0_0.toNat 64)) = ji12 := hji12
     have hji12z : s0_0 ≤ 64 → (IntKind.i64.wrap (8 * 2 ^ s0_0.toNat)) = ji12 := shl_small hji12
     have hji12y : (wrap64 (8 * 2 ^ min s0_0.toNat 64)) = ji12 := (i64_w _).symm.trans hji12_
     have hji12x : s0_0 ≤ 64 → (wrap64 (8 * 2 ^ s0_0.toNat)) = ji12 := fun h_ => (i64_w _).symm.trans (hji12z h_)
     have H' := Aside0.mk H
     clear H
     obtain ⟨HGz13, hgz13, HSz13_1, HSz13_2⟩ := HI0.out
     have hcz13_0 := cellS36_0 HGz13
     have hcz13_1 := cellS36_1 HGz13
     have hcz13_2 := cellS36_2 HGz13
     have hfz13_0 := blk_frozen HGz13 0
     clear HGz13 hgz13
     go_wp2
     repeat (go_quiet (fail); try go_wp2)
     go_loopg [4, 50] kj1 (fun kq v4 v50 w' => ∃ (x4_2 : Bool) (x50_2 : Int), v4 = .bool x4_2 ∧ v50 = .int .i64 x50_2 ∧ Aside0 (impl_isBox.l0 kq ji12 x4_2 s0_1 (s0_1.length : Int) x50_2 s0_0 s0_1 s0_2 = some (r1, r2)) ∧ Aside0 (kq ≤ kj1) ∧ Aside0 (IsF36 B1_ b1_ B2_ b2_ w0 w' g s0_0 s0_1 s0_2) ∧ Aside0 (KeepBut w w' g none) ∧ Aside0 (Below w0.heap.size w0 w'))
     case atStart => exact ⟨((s0_0 == 0)), (0), sr, sr, H', ⟨Nat.le_refl _⟩, ⟨by repeat (first | (with_reducible first | exact HI0.out | apply IsF36.alloc | apply IsF36.drewN | apply IsF36.drew | apply IsF36.set_0) | exact HI0.out)⟩, ⟨by repeat (first | (with_reducible first | exact HK.out | apply KeepBut.set_ | apply keep_drewN | apply keep_drew | apply keep_alloc) | exact HK.out)⟩, ⟨by repeat (first | (with_reducible first | exact HB.out | apply below_alloc | apply pw_below_drewN | apply below_drew1 | refine below_set ?_ (IsF36.ge HI0.out)) | exact HB.out)⟩⟩
     case round =>
      clear H'
      try clear c1; try clear p2; try clear c4; try clear c6; try clear p6; try clear c10; try clear c11; try clear c11b0; try clear c11b1; try clear hcz13_0; try clear hcz13_1; try clear hcz13_2; try clear hcz7_0; try clear hcz7_1; try clear hcz7_2; try clear hcz8_0; try clear hcz8_1; try clear hcz8_2; try clear hcz9_0; try clear hcz9_1; try clear hcz9_2; try clear hfz13_0; try clear hfz7_0; try clear hfz8_0; try clear hfz9_0; try clear p2
      obtain ⟨x4_2, x50_2, rfl, rfl, HA, HK2, HI0, HK, HB⟩ := hrel
      cases gk with
      | zero => exact absurd HA.out (by simp [impl_isBox.l0])
      | succ k2 =>
       have H := HA.out
       clear HA
       simp only [impl_isBox.l0] at H
       by_cases c14 : x50_2 < (s0_1.length : Int)
       ·rw [if_pos c14] at H
        have c14b0 : decide (x50_2 < (s0_1.length : Int)) = true := decide_eq_true c14
        clear c14
        by_cases c15 : 0 ≤ x50_2
        ·rw [if_pos c15] at H
         have c15b0 : decide (0 ≤ x50_2) = true := decide_eq_true c15
         clear c15
         by_cases c16 : x50_2 < (s0_1.length : Int)
         ·rw [if_pos c16] at H
          have c16b0 : decide (x50_2 < (s0_1.length : Int)) = true := decide_eq_true c16
          clear c16
          obtain ⟨t167, A17, H⟩ := bi H
          by_cases c18 : t167 = true
          ·subst c18
           rw [if_pos rfl] at H
           by_cases c19 : x50_2 < (s0_2.length : Int)
           ·rw [if_pos c19] at H
            have c19b0 : decide (x50_2 < (s0_2.length : Int)) = true := decide_eq_true c19
            clear c19
            obtain ⟨t169, A20, H⟩ := bi H
            by_cases c21 : t169 = true
            ·subst c21
             rw [if_pos rfl] at H
             by_cases c22 : x4_2 = true
             ·subst c22
              rw [if_pos rfl] at H
              have H' := Aside0.mk H
              clear H
              obtain ⟨HGz23, hgz23, HSz23_1, HSz23_2⟩ := HI0.out
              have hcz23_0 := cellS36_0 HGz23
              have hcz23_1 := cellS36_1 HGz23
              have hcz23_2 := cellS36_2 HGz23
              have hfz23_0 := blk_frozen HGz23 0
              clear HGz23 hgz23
              have p166 : 0 ≤ (x50_2 : Int) := of_decide_eq_true am
              have q166 : x50_2 < (s0_1.length : Int) := of_decide_eq_true am
              obtain ⟨ad166, e166, hx166_0⟩ := Kd.at_int HSz23_1 x50_2 p166 q166
              cases e166
              replace hx166_0 := pw_cell_below HB.out hx166_0
              replace p166 := eq_true p166
              replace q166 := eq_true q166
              go_wp2_with (first | (go_at_call 96; (with_reducible refine (impl_inside.calls (rd s0_1 x50_2) (wrap64 (-ji12)) ji12 true _ A17.out).mono ?_); rintro e w' ⟨rfl, ⟨nd, rfl⟩⟩; (try first | exact ⟨rfl, _, World.drewN_drewN _ _ _⟩ | exact ⟨rfl, _, Eq.trans (World.drewN_drewN _ _ _) (congrArg (World.drewN _) (Nat.add_assoc _ _ _))⟩); have p168 : 0 ≤ (x50_2 : Int) := of_decide_eq_true am; have q168 : x50_2 < (s0_2.length : Int) := of_decide_eq_true am; obtain ⟨ad168, e168, hx168_0⟩ := Kd.at_int HSz23_2 x50_2 p168 q168; cases e168; replace hx168_0 := pw_cell_below HB.out hx168_0; replace p168 := eq_true p168; replace q168 := eq_true q168) | (go_at_call 96; (with_reducible refine (impl_inside.calls (rd s0_2 x50_2) (wrap64 ((rd s0_1 x50_2) + 1)) ji12 true _ A20.out).mono ?_); rintro e w' ⟨rfl, ⟨nd, rfl⟩⟩; (try first | exact ⟨rfl, _, World.drewN_drewN _ _ _⟩ | exact ⟨rfl, _, Eq.trans (World.drewN_drewN _ _ _) (congrArg (World.drewN _) (Nat.add_assoc _ _ _))⟩)))
              repeat (go_quiet (first | (go_at_call 96; (with_reducible refine (impl_inside.calls (rd s0_1 x50_2) (wrap64 (-ji12)) ji12 true _ A17.out).mono ?_); rintro e w' ⟨rfl, ⟨nd, rfl⟩⟩; (try first | exact ⟨rfl, _, World.drewN_drewN _ _ _⟩ | exact ⟨rfl, _, Eq.trans (World.drewN_drewN _ _ _) (congrArg (World.drewN _) (Nat.add_assoc _ _ _))⟩); have p168 : 0 ≤ (x50_2 : Int) := of_decide_eq_true am; have q168 : x50_2 < (s0_2.length : Int) := of_decide_eq_true am; obtain ⟨ad168, e168, hx168_0⟩ := Kd.at_int HSz23_2 x50_2 p168 q168; cases e168; replace hx168_0 := pw_cell_below HB.out hx168_0; replace p168 := eq_true p168; replace q168 := eq_true q168) | (go_at_call 96; (with_reducible refine (impl_inside.calls (rd s0_2 x50_2) (wrap64 ((rd s0_1 x50_2) + 1)) ji12 true _ A20.out).mono ?_); rintro e w' ⟨rfl, ⟨nd, rfl⟩⟩; (try first | exact ⟨rfl, _, World.drewN_drewN _ _ _⟩ | exact ⟨rfl, _, Eq.trans (World.drewN_drewN _ _ _) (congrArg (World.drewN _) (Nat.add_assoc _ _ _))⟩))); try go_wp2_with (first | (go_at_call 96; (with_reducible refine (impl_inside.calls (rd s0_1 x50_2) (wrap64 (-ji12)) ji12 true _ A17.out).mono ?_); rintro e w' ⟨rfl, ⟨nd, rfl⟩⟩; (try first | exact ⟨rfl, _, World.drewN_drewN _ _ _⟩ | exact ⟨rfl, _, Eq.trans (World.drewN_drewN _ _ _) (congrArg (World.drewN _) (Nat.add_assoc _ _ _))⟩); have p168 : 0 ≤ (x50_2 : Int) := of_decide_eq_true am; have q168 : x50_2 < (s0_2.length : Int) := of_decide_eq_true am; obtain ⟨ad168, e168, hx168_0⟩ := Kd.at_int HSz23_2 x50_2 p168 q168; cases e168; replace hx168_0 := pw_cell_below HB.out hx168_0; replace p168 := eq_true p168; replace q168 := eq_true q168) | (go_at_call 96; (with_reducible refine (impl_inside.calls (rd s0_2 x50_2) (wrap64 ((rd s0_1 x50_2) + 1)) ji12 true _ A20.out).mono ?_); rintro e w' ⟨rfl, ⟨nd, rfl⟩⟩; (try first | exact ⟨rfl, _, World.drewN_drewN _ _ _⟩ | exact ⟨rfl, _, Eq.trans (World.drewN_drewN _ _ _) (congrArg (World.drewN _) (Nat.add_assoc _ _ _))⟩))))
              go_roundg k2
              case measure => have := HJ1.out; have := HK2.out; omega
              case rel => exact ⟨(true), (wrap64 (x50_2 + 1)), sr, sr, H', ⟨by have := HJ1.out; have := HK2.out; omega⟩, ⟨by repeat (first | (with_reducible first | exact HI0.out | apply IsF36.alloc | apply IsF36.drewN | apply IsF36.drew | apply IsF36.set_0) | exact HI0.out)⟩, ⟨by repeat (first | (with_reducible first | exact HK.out | apply KeepBut.set_ | apply keep_drewN | apply keep_drew | apply keep_alloc) | exact HK.out)⟩, ⟨by repeat (first | (with_reducible first | exact HB.out | apply below_alloc | apply pw_below_drewN | apply below_drew1 | refine below_set ?_ (IsF36.ge HI0.out)) | exact HB.out)⟩⟩
             ·replace c22 := Bool.eq_false_iff.mpr c22
              subst c22
              rw [if_neg (show ¬ (false = true) by decide)] at H
              by_cases c24 : (Int.tmod (rd s0_1 x50_2) 2) = 0
              ·rw [if_pos c24] at H
               have c24b0 : ((Int.tmod (rd s0_1 x50_2) 2) == 0) = true := beq_iff_eq.mpr c24
               have c24b1 : ((Int.tmod (rd s0_1 x50_2) 2) != 0) = false := bne_eq_false_iff_eq.mpr c24
               clear c24
               have H' := Aside0.mk H
               clear H
               obtain ⟨HGz25, hgz25, HSz25_1, HSz25_2⟩ := HI0.out
               have hcz25_0 := cellS36_0 HGz25
               have hcz25_1 := cellS36_1 HGz25
               have hcz25_2 := cellS36_2 HGz25
               have hfz25_0 := blk_frozen HGz25 0
               clear HGz25 hgz25
               have p166 : 0 ≤ (x50_2 : Int) := of_decide_eq_true am
               have q166 : x50_2 < (s0_1.length : Int) := of_decide_eq_true am
               obtain ⟨ad166, e166, hx166_0⟩ := Kd.at_int HSz25_1 x50_2 p166 q166
               cases e166
               replace hx166_0 := pw_cell_below HB.out hx166_0
               replace p166 := eq_true p166
               replace q166 := eq_true q166
               go_wp2_with (first | (go_at_call 96; (with_reducible refine (impl_inside.calls (rd s0_1 x50_2) (wrap64 (-ji12)) ji12 true _ A17.out).mono ?_); rintro e w' ⟨rfl, ⟨nd, rfl⟩⟩; (try first | exact ⟨rfl, _, World.drewN_drewN _ _ _⟩ | exact ⟨rfl, _, Eq.trans (World.drewN_drewN _ _ _) (congrArg (World.drewN _) (Nat.add_assoc _ _ _))⟩); have p168 : 0 ≤ (x50_2 : Int) := of_decide_eq_true am; have q168 : x50_2 < (s0_2.length : Int) := of_decide_eq_true am; obtain ⟨ad168, e168, hx168_0⟩ := Kd.at_int HSz25_2 x50_2 p168 q168; cases e168; replace hx168_0 := pw_cell_below HB.out hx168_0; replace p168 := eq_true p168; replace q168 := eq_true q168) | (go_at_call 96; (with_reducible refine (impl_inside.calls (rd s0_2 x50_2) (wrap64 ((rd s0_1 x50_2) + 1)) ji12 true _ A20.out).mono ?_); rintro e w' ⟨rfl, ⟨nd, rfl⟩⟩; (try first | exact ⟨rfl, _, World.drewN_drewN _ _ _⟩ | exact ⟨rfl, _, Eq.trans (World.drewN_drewN _ _ _) (congrArg (World.drewN _) (Nat.add_assoc _ _ _))⟩); have p170 : 0 ≤ (x50_2 : Int) := of_decide_eq_true am; have q170 : x50_2 < (s0_2.length : Int) := of_decide_eq_true am; obtain ⟨ad170, e170, hx170_0⟩ := Kd.at_int HSz25_2 x50_2 p170 q170; obtain rfl : ad168 = ad170 := (by injection e170); replace hx170_0 := pw_cell_below HB.out hx170_0; replace p170 := eq_true p170; replace q170 := eq_true q170))
               repeat (go_quiet (first | (go_at_call 96; (with_reducible refine (impl_inside.calls (rd s0_1 x50_2) (wrap64 (-ji12)) ji12 true _ A17.out).mono ?_); rintro e w' ⟨rfl, ⟨nd, rfl⟩⟩; (try first | exact ⟨rfl, _, World.drewN_drewN _ _ _⟩ | exact ⟨rfl, _, Eq.trans (World.drewN_drewN _ _ _) (congrArg (World.drewN _) (Nat.add_assoc _ _ _))⟩); have p168 : 0 ≤ (x50_2 : Int) := of_decide_eq_true am; have q168 : x50_2 < (s0_2.length : Int) := of_decide_eq_true am; obtain ⟨ad168, e168, hx168_0⟩ := Kd.at_int HSz25_2 x50_2 p168 q168; cases e168; replace hx168_0 := pw_cell_below HB.out hx168_0; replace p168 := eq_true p168; replace q168 := eq_true q168) | (go_at_call 96; (with_reducible refine (impl_inside.calls (rd s0_2 x50_2) (wrap64 ((rd s0_1 x50_2) + 1)) ji12 true _ A20.out).mono ?_); rintro e w' ⟨rfl, ⟨nd, rfl⟩⟩; (try first | exact ⟨rfl, _, World.drewN_drewN _ _ _⟩ | exact ⟨rfl, _, Eq.trans (World.drewN_drewN _ _ _) (congrArg (World.drewN _) (Nat.add_assoc _ _ _))⟩); have p170 : 0 ≤ (x50_2 : Int) := of_decide_eq_true am; have q170 : x50_2 < (s0_2.length : Int) := of_decide_eq_true am; obtain ⟨ad170, e170, hx170_0⟩ := Kd.at_int HSz25_2 x50_2 p170 q170; obtain rfl : ad168 = ad170 := (by injection e170); replace hx170_0 := pw_cell_below HB.out hx170_0; replace p170 := eq_true p170; replace q170 := eq_true q170)); try go_wp2_with (first | (go_at_call 96; (with_reducible refine (impl_inside.calls (rd s0_1 x50_2) (wrap64 (-ji12)) ji12 true _ A17.out).mono ?_); rintro e w' ⟨rfl, ⟨nd, rfl⟩⟩; (try first | exact ⟨rfl, _, World.drewN_drewN _ _ _⟩ | exact ⟨rfl, _, Eq.trans (World.drewN_drewN _ _ _) (congrArg (World.drewN _) (Nat.add_assoc _ _ _))⟩); have p168 : 0 ≤ (x50_2 : Int) := of_decide_eq_true am; have q168 : x50_2 < (s0_2.length : Int) := of_decide_eq_true am; obtain ⟨ad168, e168, hx168_0⟩ := Kd.at_int HSz25_2 x50_2 p168 q168; cases e168; replace hx168_0 := pw_cell_below HB.out hx168_0; replace p168 := eq_true p168; replace q168 := eq_true q168) | (go_at_call 96; (with_reducible refine (impl_inside.calls (rd s0_2 x50_2) (wrap64 ((rd s0_1 x50_2) + 1)) ji12 true _ A20.out).mono ?_); rintro e w' ⟨rfl, ⟨nd, rfl⟩⟩; (try first | exact ⟨rfl, _, World.drewN_drewN _ _ _⟩ | exact ⟨rfl, _, Eq.trans (World.drewN_drewN _ _ _) (congrArg (World.drewN _) (Nat.add_assoc _ _ _))⟩); have p170 : 0 ≤ (x50_2 : Int) := of_decide_eq_true am; have q170 : x50_2 < (s0_2.length : Int) := of_decide_eq_true am; obtain ⟨ad170, e170, hx170_0⟩ := Kd.at_int HSz25_2 x50_2 p170 q170; obtain rfl : ad168 = ad170 := (by injection e170); replace hx170_0 := pw_cell_below HB.out hx170_0; replace p170 := eq_true p170; replace q170 := eq_true q170)))
               go_roundg k2
               case measure => have := HJ1.out; have := HK2.out; omega
               case rel => exact ⟨(((Int.tmod (rd s0_2 x50_2) 2) != 0)), (wrap64 (x50_2 + 1)), sr, sr, H', ⟨by have := HJ1.out; have := HK2.out; omega⟩, ⟨by repeat (first | (with_reducible first | exact HI0.out | apply IsF36.alloc | apply IsF36.drewN | apply IsF36.drew | apply IsF36.set_0) | exact HI0.out)⟩, ⟨by repeat (first | (with_reducible first | exact HK.out | apply KeepBut.set_ | apply keep_drewN | apply keep_drew | apply keep_alloc) | exact HK.out)⟩, ⟨by repeat (first | (with_reducible first | exact HB.out | apply below_alloc | apply pw_below_drewN | apply below_drew1 | refine below_set ?_ (IsF36.ge HI0.out)) | exact HB.out)⟩⟩
              ·rw [if_neg c24] at H
               have c24b0 : ((Int.tmod (rd s0_1 x50_2) 2) == 0) = false := beq_eq_false_iff_ne.mpr c24
               have c24b1 : ((Int.tmod (rd s0_1 x50_2) 2) != 0) = true := bne_iff_ne.mpr c24
               have H' := Aside0.mk H
               clear H
               obtain ⟨HGz26, hgz26, HSz26_1, HSz26_2⟩ := HI0.out
               have hcz26_0 := cellS36_0 HGz26
               have hcz26_1 := cellS36_1 HGz26
               have hcz26_2 := cellS36_2 HGz26
               have hfz26_0 := blk_frozen HGz26 0
               clear HGz26 hgz26
               have p166 : 0 ≤ (x50_2 : Int) := of_decide_eq_true am
               have q166 : x50_2 < (s0_1.length : Int) := of_decide_eq_true am
               obtain ⟨ad166, e166, hx166_0⟩ := Kd.at_int HSz26_1 x50_2 p166 q166
               cases e166
               replace hx166_0 := pw_cell_below HB.out hx166_0
               replace p166 := eq_true p166
               replace q166 := eq_true q166
               go_wp2_with (first | (go_at_call 96; (with_reducible refine (impl_inside.calls (rd s0_1 x50_2) (wrap64 (-ji12)) ji12 true _ A17.out).mono ?_); rintro e w' ⟨rfl, ⟨nd, rfl⟩⟩; (try first | exact ⟨rfl, _, World.drewN_drewN _ _ _⟩ | exact ⟨rfl, _, Eq.trans (World.drewN_drewN _ _ _) (congrArg (World.drewN _) (Nat.add_assoc _ _ _))⟩); have p168 : 0 ≤ (x50_2 : Int) := of_decide_eq_true am; have q168 : x50_2 < (s0_2.length : Int) := of_decide_eq_true am; obtain ⟨ad168, e168, hx168_0⟩ := Kd.at_int HSz26_2 x50_2 p168 q168; cases e168; replace hx168_0 := pw_cell_below HB.out hx168_0; replace p168 := eq_true p168; replace q168 := eq_true q168) | (go_at_call 96; (with_reducible refine (impl_inside.calls (rd s0_2 x50_2) (wrap64 ((rd s0_1 x50_2) + 1)) ji12 true _ A20.out).mono ?_); rintro e w' ⟨rfl, ⟨nd, rfl⟩⟩; (try first | exact ⟨rfl, _, World.drewN_drewN _ _ _⟩ | exact ⟨rfl, _, Eq.trans (World.drewN_drewN _ _ _) (congrArg (World.drewN _) (Nat.add_assoc _ _ _))⟩)))
               repeat (go_quiet (first | (go_at_call 96; (with_reducible refine (impl_inside.calls (rd s0_1 x50_2) (wrap64 (-ji12)) ji12 true _ A17.out).mono ?_); rintro e w' ⟨rfl, ⟨nd, rfl⟩⟩; (try first | exact ⟨rfl, _, World.drewN_drewN _ _ _⟩ | exact ⟨rfl, _, Eq.trans (World.drewN_drewN _ _ _) (congrArg (World.drewN _) (Nat.add_assoc _ _ _))⟩); have p168 : 0 ≤ (x50_2 : Int) := of_decide_eq_true am; have q168 : x50_2 < (s0_2.length : Int) := of_decide_eq_true am; obtain ⟨ad168, e168, hx168_0⟩ := Kd.at_int HSz26_2 x50_2 p168 q168; cases e168; replace hx168_0 := pw_cell_below HB.out hx168_0; replace p168 := eq_true p168; replace q168 := eq_true q168) | (go_at_call 96; (with_reducible refine (impl_inside.calls (rd s0_2 x50_2) (wrap64 ((rd s0_1 x50_2) + 1)) ji12 true _ A20.out).mono ?_); rintro e w' ⟨rfl, ⟨nd, rfl⟩⟩; (try first | exact ⟨rfl, _, World.drewN_drewN _ _ _⟩ | exact ⟨rfl, _, Eq.trans (World.drewN_drewN _ _ _) (congrArg (World.drewN _) (Nat.add_assoc _ _ _))⟩))); try go_wp2_with (first | (go_at_call 96; (with_reducible refine (impl_inside.calls (rd s0_1 x50_2) (wrap64 (-ji12)) ji12 true _ A17.out).mono ?_); rintro e w' ⟨rfl, ⟨nd, rfl⟩⟩; (try first | exact ⟨rfl, _, World.drewN_drewN _ _ _⟩ | exact ⟨rfl, _, Eq.trans (World.drewN_drewN _ _ _) (congrArg (World.drewN _) (Nat.add_assoc _ _ _))⟩); have p168 : 0 ≤ (x50_2 : Int) := of_decide_eq_true am; have q168 : x50_2 < (s0_2.length : Int) := of_decide_eq_true am; obtain ⟨ad168, e168, hx168_0⟩ := Kd.at_int HSz26_2 x50_2 p168 q168; cases e168; replace hx168_0 := pw_cell_below HB.out hx168_0; replace p168 := eq_true p168; replace q168 := eq_true q168) | (go_at_call 96; (with_reducible refine (impl_inside.calls (rd s0_2 x50_2) (wrap64 ((rd s0_1 x50_2) + 1)) ji12 true _ A20.out).mono ?_); rintro e w' ⟨rfl, ⟨nd, rfl⟩⟩; (try first | exact ⟨rfl, _, World.drewN_drewN _ _ _⟩ | exact ⟨rfl, _, Eq.trans (World.drewN_drewN _ _ _) (congrArg (World.drewN _) (Nat.add_assoc _ _ _))⟩))))
               go_roundg k2
               case measure => have := HJ1.out; have := HK2.out; omega
               case rel => exact ⟨(true), (wrap64 (x50_2 + 1)), sr, sr, H', ⟨by have := HJ1.out; have := HK2.out; omega⟩, ⟨by repeat (first | (with_reducible first | exact HI0.out | apply IsF36.alloc | apply IsF36.drewN | apply IsF36.drew | apply IsF36.set_0) | exact HI0.out)⟩, ⟨by repeat (first | (with_reducible first | exact HK.out | apply KeepBut.set_ | apply keep_drewN | apply keep_drew | apply keep_alloc) | exact HK.out)⟩, ⟨by repeat (first | (with_reducible first | exact HB.out | apply below_alloc | apply pw_below_drewN | apply below_drew1 | refine below_set ?_ (IsF36.ge HI0.out)) | exact HB.out)⟩⟩
            ·replace c21 := Bool.eq_false_iff.mpr c21
             subst c21
             rw [if_neg (show ¬ (false = true) by decide)] at H
             simp only [Option.some.injEq, Prod.mk.injEq] at H
             obtain ⟨rfl, rfl⟩ := H
             obtain ⟨HGz27, hgz27, HSz27_1, HSz27_2⟩ := HI0.out
             have hcz27_0 := cellS36_0 HGz27
             have hcz27_1 := cellS36_1 HGz27
             have hcz27_2 := cellS36_2 HGz27
             have hfz27_0 := blk_frozen HGz27 0
             clear HGz27 hgz27
             have p166 : 0 ≤ (x50_2 : Int) := of_decide_eq_true am
             have q166 : x50_2 < (s0_1.length : Int) := of_decide_eq_true am
             obtain ⟨ad166, e166, hx166_0⟩ := Kd.at_int HSz27_1 x50_2 p166 q166
             cases e166
             replace hx166_0 := pw_cell_below HB.out hx166_0
             replace p166 := eq_true p166
             replace q166 := eq_true q166
             go_wp2_with (first | (go_at_call 96; (with_reducible refine (impl_inside.calls (rd s0_1 x50_2) (wrap64 (-ji12)) ji12 true _ A17.out).mono ?_); rintro e w' ⟨rfl, ⟨nd, rfl⟩⟩; (try first | exact ⟨rfl, _, World.drewN_drewN _ _ _⟩ | exact ⟨rfl, _, Eq.trans (World.drewN_drewN _ _ _) (congrArg (World.drewN _) (Nat.add_assoc _ _ _))⟩); have p168 : 0 ≤ (x50_2 : Int) := of_decide_eq_true am; have q168 : x50_2 < (s0_2.length : Int) := of_decide_eq_true am; obtain ⟨ad168, e168, hx168_0⟩ := Kd.at_int HSz27_2 x50_2 p168 q168; cases e168; replace hx168_0 := pw_cell_below HB.out hx168_0; replace p168 := eq_true p168; replace q168 := eq_true q168) | (go_at_call 96; (with_reducible refine (impl_inside.calls (rd s0_2 x50_2) (wrap64 ((rd s0_1 x50_2) + 1)) ji12 false _ A20.out).mono ?_); rintro e w' ⟨rfl, ⟨nd, rfl⟩⟩; (try first | exact ⟨rfl, _, World.drewN_drewN _ _ _⟩ | exact ⟨rfl, _, Eq.trans (World.drewN_drewN _ _ _) (congrArg (World.drewN _) (Nat.add_assoc _ _ _))⟩)))
             repeat (go_quiet (first | (go_at_call 96; (with_reducible refine (impl_inside.calls (rd s0_1 x50_2) (wrap64 (-ji12)) ji12 true _ A17.out).mono ?_); rintro e w' ⟨rfl, ⟨nd, rfl⟩⟩; (try first | exact ⟨rfl, _, World.drewN_drewN _ _ _⟩ | exact ⟨rfl, _, Eq.trans (World.drewN_drewN _ _ _) (congrArg (World.drewN _) (Nat.add_assoc _ _ _))⟩); have p168 : 0 ≤ (x50_2 : Int) := of_decide_eq_true am; have q168 : x50_2 < (s0_2.length : Int) := of_decide_eq_true am; obtain ⟨ad168, e168, hx168_0⟩ := Kd.at_int HSz27_2 x50_2 p168 q168; cases e168; replace hx168_0 := pw_cell_below HB.out hx168_0; replace p168 := eq_true p168; replace q168 := eq_true q168) | (go_at_call 96; (with_reducible refine (impl_inside.calls (rd s0_2 x50_2) (wrap64 ((rd s0_1 x50_2) + 1)) ji12 false _ A20.out).mono ?_); rintro e w' ⟨rfl, ⟨nd, rfl⟩⟩; (try first | exact ⟨rfl, _, World.drewN_drewN _ _ _⟩ | exact ⟨rfl, _, Eq.trans (World.drewN_drewN _ _ _) (congrArg (World.drewN _) (Nat.add_assoc _ _ _))⟩))); try go_wp2_with (first | (go_at_call 96; (with_reducible refine (impl_inside.calls (rd s0_1 x50_2) (wrap64 (-ji12)) ji12 true _ A17.out).mono ?_); rintro e w' ⟨rfl, ⟨nd, rfl⟩⟩; (try first | exact ⟨rfl, _, World.drewN_drewN _ _ _⟩ | exact ⟨rfl, _, Eq.trans (World.drewN_drewN _ _ _) (congrArg (World.drewN _) (Nat.add_assoc _ _ _))⟩); have p168 : 0 ≤ (x50_2 : Int) := of_decide_eq_true am; have q168 : x50_2 < (s0_2.length : Int) := of_decide_eq_true am; obtain ⟨ad168, e168, hx168_0⟩ := Kd.at_int HSz27_2 x50_2 p168 q168; cases e168; replace hx168_0 := pw_cell_below HB.out hx168_0; replace p168 := eq_true p168; replace q168 := eq_true q168) | (go_at_call 96; (with_reducible refine (impl_inside.calls (rd s0_2 x50_2) (wrap64 ((rd s0_1 x50_2) + 1)) ji12 false _ A20.out).mono ?_); rintro e w' ⟨rfl, ⟨nd, rfl⟩⟩; (try first | exact ⟨rfl, _, World.drewN_drewN _ _ _⟩ | exact ⟨rfl, _, Eq.trans (World.drewN_drewN _ _ _) (congrArg (World.drewN _) (Nat.add_assoc _ _ _))⟩))))
             go_ret
             exact ⟨by first | rfl | (simp [errW_none, errW_some] <;> rfl) | (simp only [← hji12]; first | rfl | (simp [errW_none, errW_some] <;> rfl)) | (simp [*, errW_none, errW_some] <;> rfl), by repeat (first | (with_reducible first | exact HI0.out | apply IsF36.alloc | apply IsF36.drewN | apply IsF36.drew | apply IsF36.set_0) | exact HI0.out), by repeat (first | (with_reducible first | exact HB.out | apply below_alloc | apply pw_below_drewN | apply below_drew1 | refine below_set ?_ (IsF36.ge HI0.out)) | exact HB.out), by repeat (first | (with_reducible first | exact HK.out | apply KeepBut.set_ | apply keep_drewN | apply keep_drew | apply keep_alloc) | exact HK.out)⟩
           ·rw [if_neg c19] at H
            exact absurd H (by simp)
          ·replace c18 := Bool.eq_false_iff.mpr c18
           subst c18
           rw [if_neg (show ¬ (false = true) by decide)] at H
           simp only [Option.some.injEq, Prod.mk.injEq] at H
           obtain ⟨rfl, rfl⟩ := H
           obtain ⟨HGz28, hgz28, HSz28_1, HSz28_2⟩ := HI0.out
           have hcz28_0 := cellS36_0 HGz28
           have hcz28_1 := cellS36_1 HGz28
           have hcz28_2 := cellS36_2 HGz28
           have hfz28_0 := blk_frozen HGz28 0
           clear HGz28 hgz28
           have p166 : 0 ≤ (x50_2 : Int) := of_decide_eq_true am
           have q166 : x50_2 < (s0_1.length : Int) := of_decide_eq_true am
           obtain ⟨ad166, e166, hx166_0⟩ := Kd.at_int HSz28_1 x50_2 p166 q166
           cases e166
           replace hx166_0 := pw_cell_below HB.out hx166_0
           replace p166 := eq_true p166
           replace q166 := eq_true q166
           go_wp2_with (first | (go_at_call 96; (with_reducible refine (impl_inside.calls (rd s0_1 x50_2) (wrap64 (-ji12)) ji12 false _ A17.out).mono ?_); rintro e w' ⟨rfl, ⟨nd, rfl⟩⟩; (try first | exact ⟨rfl, _, World.drewN_drewN _ _ _⟩ | exact ⟨rfl, _, Eq.trans (World.drewN_drewN _ _ _) (congrArg (World.drewN _) (Nat.add_assoc _ _ _))⟩)))
           repeat (go_quiet (first | (go_at_call 96; (with_reducible refine (impl_inside.calls (rd s0_1 x50_2) (wrap64 (-ji12)) ji12 false _ A17.out).mono ?_); rintro e w' ⟨rfl, ⟨nd, rfl⟩⟩; (try first | exact ⟨rfl, _, World.drewN_drewN _ _ _⟩ | exact ⟨rfl, _, Eq.trans (World.drewN_drewN _ _ _) (congrArg (World.drewN _) (Nat.add_assoc _ _ _))⟩))); try go_wp2_with (first | (go_at_call 96; (with_reducible refine (impl_inside.calls (rd s0_1 x50_2) (wrap64 (-ji12)) ji12 false _ A17.out).mono ?_); rintro e w' ⟨rfl, ⟨nd, rfl⟩⟩; (try first | exact ⟨rfl, _, World.drewN_drewN _ _ _⟩ | exact ⟨rfl, _, Eq.trans (World.drewN_drewN _ _ _) (congrArg (World.drewN _) (Nat.add_assoc _ _ _))⟩))))
           go_ret
           exact ⟨by first | rfl | (simp [errW_none, errW_some] <;> rfl) | (simp only [← hji12]; first | rfl | (simp [errW_none, errW_some] <;> rfl)) | (simp [*, errW_none, errW_some] <;> rfl), by repeat (first | (with_reducible first | exact HI0.out | apply IsF36.alloc | apply IsF36.drewN | apply IsF36.drew | apply IsF36.set_0) | exact HI0.out), by repeat (first | (with_reducible first | exact HB.out | apply below_alloc | apply pw_below_drewN | apply below_drew1 | refine below_set ?_ (IsF36.ge HI0.out)) | exact HB.out), by repeat (first | (with_reducible first | exact HK.out | apply KeepBut.set_ | apply keep_drewN | apply keep_drew | apply keep_alloc) | exact HK.out)⟩
         ·rw [if_neg c16] at H
          exact absurd H (by simp)
        ·rw [if_neg c15] at H
         exact absurd H (by simp)
       ·rw [if_neg c14] at H
        have c14b0 : decide (x50_2 < (s0_1.length : Int)) = false := decide_eq_false c14
        clear c14
        simp only [Option.some.injEq, Prod.mk.injEq] at H
        obtain ⟨rfl, rfl⟩ := H
        go_wp2
        repeat (go_quiet (fail); try go_wp2)
        go_ret
        exact ⟨by first | rfl | (simp [errW_none, errW_some] <;> rfl) | (simp only [← hji12]; first | rfl | (simp [errW_none, errW_some] <;> rfl)) | (simp [*, errW_none, errW_some] <;> rfl), by repeat (first | (with_reducible first | exact HI0.out | apply IsF36.alloc | apply IsF36.drewN | apply IsF36.drew | apply IsF36.set_0) | exact HI0.out), by repeat (first | (with_reducible first | exact HB.out | apply below_alloc | apply pw_below_drewN | apply below_drew1 | refine below_set ?_ (IsF36.ge HI0.out)) | exact HB.out), by repeat (first | (with_reducible first | exact HK.out | apply KeepBut.set_ | apply keep_drewN | apply keep_drew | apply keep_alloc) | exact HK.out)⟩
    ·rw [if_neg c11] at H
     exact absurd H (by simp)
theorem impl_isBox.callsB (k : Nat) (g : Nat) (B1_ : Option Addr) (b1_ : Nat) (B2_ : Option Addr) (b2_ : Nat) (s0_0 : Int) (s0_1 : List Int) (s0_2 : List Int) (r1 : Bool) (r2 : Int) (w0 w : World) (hI : IsF36 B1_ b1_ B2_ b2_ w0 w g s0_0 s0_1 s0_2) (hB : Below w0.heap.size w0 w) (h : impl_isBox.f k s0_0 s0_1 s0_2 = some (r1, r2)) :
 Calls Try.prog 64 #[.pointer (some ⟨g, 0, none⟩)] w fun e w' => e = .returned (.bool r1) ∧ Below w.heap.size w w' := by
 refine (impl_isBox.callsF k g B1_ b1_ B2_ b2_ s0_0 s0_1 s0_2 r1 r2 w0 w hI hB h).mono ?_
 rintro e w' ⟨h0, i1_, i2_, i3_⟩
 refine ⟨h0, i2_.os.trans hB.os.symm, i2_.tape.trans hB.tape.symm, i2_.output.trans hB.output.symm, i3_.1, fun i hi => ?_⟩
 by_cases hg : i = g
 ·rw [hg]; exact i1_.1.trans hI.1.symm
 ·exact i3_.2 i hi hg (by simp)
def impl_size.f (a0 : Int) : Option (Int) := if a0 < 0 then (some (IntKind.u64.wrap (wrap64 (-a0)))) else (some (IntKind.u64.wrap (a0)))
set_option maxHeartbeats 8000000 in
set_option maxRecDepth 100000 in
theorem impl_size.calls (a0 : Int) (r : Int) (w : World) (h : impl_size.f a0 = some r) :
 Calls Try.prog 145 #[.int .i64 a0] w fun e w' => e = .returned (.int .u64 r) ∧ Drawn0 w w' := by
 have H : (if a0 < 0 then (some (IntKind.u64.wrap (wrap64 (-a0)))) else (some (IntKind.u64.wrap (a0)))) = some r := h
 clear h
 by_cases c2 : a0 < 0
 ·rw [if_pos c2] at H
  have c2b0 : decide (a0 < 0) = true := decide_eq_true c2
  clear c2
  obtain rfl := Option.some.inj H
  go_enter Try.func145, Try.ntmps145
  go_wp2
  go_ret
  exact ⟨sr, dz⟩
 ·rw [if_neg c2] at H
  have c2b0 : decide (a0 < 0) = false := decide_eq_false c2
  clear c2
  obtain rfl := Option.some.inj H
  go_enter Try.func145, Try.ntmps145
  go_wp2
  go_ret
  exact ⟨sr, dz⟩
def impl_wideOf.f (a0 : Int) : Option (Bool × Int × Int) := (impl_size.f a0).bind fun t172 => (some (decide (a0 < 0), 0, t172))
set_option maxHeartbeats 8000000 in
set_option maxRecDepth 100000 in
theorem impl_wideOf.calls (a0 : Int) (r1 : Bool) (r2 : Int) (r3 : Int) (w : World) (h : impl_wideOf.f a0 = some (r1, r2, r3)) :
 Calls Try.prog 128 #[.int .i64 a0] w fun e w' => e = .returned (.agg #[.bool r1, .int .u64 r2, .int .u64 r3]) ∧ Below w.heap.size w w' := by
 have hu140 := Try.underlying140
 have HB := Aside0.mk (Below.refl w.heap.size w)
 have H : ((impl_size.f a0).bind fun t172 => (some (decide (a0 < 0), 0, t172))) = some (r1, r2, r3) := h
 clear h
 obtain ⟨t172, A2, H⟩ := bi H
 simp only [Option.some.injEq, Prod.mk.injEq] at H
 obtain ⟨rfl, rfl, rfl⟩ := H
 go_enter Try.func128, Try.ntmps128
 go_wp2_with (first | ((with_reducible refine gate_dst (N := 2) rfl ?_); refine bv (N := 2) (cs := #[.bool false, .int .u64 0, .int .u64 0]) (t := 140) ?_; intro gb171 hg w3 hbox hb; have n0_ := Aside0.mk (below_step bz hb); have n1_ := Aside0.mk (hbox); have n2_ := (gz hg : Aside0 (w.heap.size ≤ _)); have n3_ := (gz hg : Aside0 (w.heap.size ≤ _)); clear HB; have HB := n0_; have BK171 := n1_; have GW171 := n2_; have GE171 := n3_; clear n0_ n1_ n2_ n3_; clear hb hbox hg) | ((with_reducible refine gate_callee (f := 145) rfl ?_); refine goesL_ (some 6) rfl rfl Try.func145 kf rfl #[.int .i64 a0] rfl sm ?_; (with_reducible refine (impl_size.calls a0 t172 _ A2.out).mono ?_); rintro e w' ⟨rfl, ⟨nd, rfl⟩⟩; refine ⟨_, rfl, ?_⟩; (try (rw [drewN_self w3]; generalize hq_ : World.drewN w3 _ = w3; have n0_ : Aside0 (w3.heap[gb171]? = some (.cells #[.bool false, .int .u64 0, .int .u64 0] 140 (0, 0))) := ⟨by rw [← hq_]; exact (bk BK171)⟩; have n1_ : Aside0 (Below w.heap.size w w3) := ⟨by rw [← hq_]; exact (bz1 GE171)⟩; clear BK171 HB hq_; have BK171 := n0_; have HB := n1_; clear n0_ n1_)); have hcz4_0 : w3.cell? ⟨gb171, 0, none⟩ = some (.bool false) := (blk_cell BK171.out 0).trans rfl; have hcz4_1 : w3.cell? ⟨gb171, 1, none⟩ = some (.int .u64 0) := (blk_cell BK171.out 1).trans rfl; have hcz4_2 : w3.cell? ⟨gb171, 2, none⟩ = some (.int .u64 0) := (blk_cell BK171.out 2).trans rfl; have hfz4_0 := blk_frozen BK171.out 0; have hfz4_1 := blk_frozen BK171.out 1; have hfz4_2 := blk_frozen BK171.out 2))
 refine bodyPost_ret (results_cell_row rfl _ _ gb171 140 #[.bool (decide (a0 < 0)), .int .u64 0, .int .u64 t172] (0, 0) _ rfl (by (with_reducible repeat (first | refine blk_drewN ?_ _ | refine blk_drew ?_ | refine blk_alloc ?_ _)); refine blk_put (cs := #[.bool (decide (a0 < 0)), .int .u64 0, .int .u64 0]) ?_ 2 _ rfl; (with_reducible repeat (first | refine blk_drewN ?_ _ | refine blk_drew ?_ | refine blk_alloc ?_ _)); refine blk_put (cs := #[.bool (decide (a0 < 0)), .int .u64 0, .int .u64 0]) ?_ 1 _ rfl; (with_reducible repeat (first | refine blk_drewN ?_ _ | refine blk_drew ?_ | refine blk_alloc ?_ _)); refine blk_put (cs := #[.bool false, .int .u64 0, .int .u64 0]) ?_ 0 _ rfl; (with_reducible repeat (first | refine blk_drewN ?_ _ | refine blk_drew ?_ | refine blk_alloc ?_ _)); exact BK171.out) Try.underlying140 rfl kf) rfl ?_
 exact ⟨er, bz1 GE171⟩
def impl_wide_shift.f (a0_0 : Bool) (a0_1 : Int) (a0_2 : Int) (a1 : Int) : Option (Bool × Int × Int) := if a1 ≥ 0 then (if a1 ≥ 64 then (if 0 ≤ (wrap64 (a1 - 64)) then (some (a0_0, shl .u64 a0_2 (wrap64 (a1 - 64)), 0)) else (none)) else (if 0 ≤ a1 then (if 0 ≤ (wrap64 (64 - a1)) then (some (a0_0, Go.bits .or .u64 (shl .u64 a0_1 a1) (shr .u64 a0_2 (wrap64 (64 - a1))), shl .u64 a0_2 a1)) else (none)) else (none))) else (if (wrap64 (-a1)) ≥ 64 then (if 0 ≤ (wrap64 ((wrap64 (-a1)) - 64)) then (some (a0_0, 0, shr .u64 a0_1 (wrap64 ((wrap64 (-a1)) - 64)))) else (none)) else (if 0 ≤ (wrap64 (-a1)) then (if 0 ≤ (wrap64 (64 - (wrap64 (-a1)))) then (some (a0_0, shr .u64 a0_1 (wrap64 (-a1)), Go.bits .or .u64 (shr .u64 a0_2 (wrap64 (-a1))) (shl .u64 a0_1 (wrap64 (64 - (wrap64 (-a1))))))) else (none)) else (none)))
def impl_wide_shift.T3 : Bool × List (List Nat × List Nat) := (true, [([], []), ([0], [0]), ([], []), ([2], [2]), ([], []), ([4], [4]), ([3, 5], [3, 5]), ([1, 6], [1, 6]), ([7, 0, 1, 2, 3, 4, 5, 6, 7], [7])])
def impl_wide_shift.B3 : List Nat := [0, 1, 0, 4, 0, 16, 60, 127, 255]
theorem impl_wide_shift.tab3 : rtab .any (opsOf Try.f129 3) = impl_wide_shift.T3 := by kernel_rfl
theorem impl_wide_shift.bits3 : waitsOk impl_wide_shift.T3.2 impl_wide_shift.B3 = true := by kernel_rfl
def impl_wide_shift.T4 : Bool × List (List Nat × List Nat) := (true, [([], []), ([0], [0]), ([], []), ([2], [2]), ([], []), ([3, 4], [3, 4]), ([], []), ([6], [6]), ([], []), ([8], [8]), ([7, 9], [7, 9]), ([5, 10], [5, 10]), ([], []), ([12], [12]), ([], []), ([13, 14], [13, 14]), ([1, 11, 15], [1, 11, 15]), ([16, 0, 1, 2, 3, 4, 5, 6, 7, 8, 9, 10, 11, 12, 13, 14, 15, 16], [16])])
def impl_wide_shift.B4 : List Nat := [0, 1, 0, 4, 0, 28, 0, 64, 0, 256, 960, 2044, 0, 4096, 0, 28672, 65535, 131071]
theorem impl_wide_shift.tab4 : rtab .any (opsOf Try.f129 4) = impl_wide_shift.T4 := by kernel_rfl
theorem impl_wide_shift.bits4 : waitsOk impl_wide_shift.T4.2 impl_wide_shift.B4 = true := by kernel_rfl
def impl_wide_shift.T7 : Bool × List (List Nat × List Nat) := (true, [([], []), ([0], [0]), ([], []), ([2], [2]), ([], []), ([4], [4]), ([3, 5], [3, 5]), ([1, 6], [1, 6]), ([7, 0, 1, 2, 3, 4, 5, 6, 7], [7])])
def impl_wide_shift.B7 : List Nat := [0, 1, 0, 4, 0, 16, 60, 127, 255]
theorem impl_wide_shift.tab7 : rtab .any (opsOf Try.f129 7) = impl_wide_shift.T7 := by kernel_rfl
theorem impl_wide_shift.bits7 : waitsOk impl_wide_shift.T7.2 impl_wide_shift.B7 = true := by kernel_rfl
def impl_wide_shift.T8 : Bool × List (List Nat × List Nat) := (true, [([], []), ([0], [0]), ([], []), ([2], [2]), ([], []), ([3, 4], [3, 4]), ([], []), ([6], [6]), ([], []), ([7, 8], [7, 8]), ([], []), ([10], [10]), ([], []), ([12], [12]), ([11, 13], [11, 13]), ([9, 14], [9, 14]), ([1, 5, 15], [1, 5, 15]), ([16, 0, 1, 2, 3, 4, 5, 6, 7, 8, 9, 10, 11, 12, 13, 14, 15, 16], [16])])
def impl_wide_shift.B8 : List Nat := [0, 1, 0, 4, 0, 28, 0, 64, 0, 448, 0, 1024, 0, 4096, 15360, 32704, 65535, 131071]
theorem impl_wide_shift.tab8 : rtab .any (opsOf Try.f129 8) = impl_wide_shift.T8 := by kernel_rfl
theorem impl_wide_shift.bits8 : waitsOk impl_wide_shift.T8.2 impl_wide_shift.B8 = true := by kernel_rfl
set_option maxHeartbeats 8000000 in
set_option maxRecDepth 100000 in
theorem impl_wide_shift.calls (a0_0 : Bool) (a0_1 : Int) (a0_2 : Int) (a1 : Int) (r1 : Bool) (r2 : Int) (r3 : Int) (w : World) (h : impl_wide_shift.f a0_0 a0_1 a0_2 a1 = some (r1, r2, r3)) :
 Calls Try.prog 129 #[.agg #[.bool a0_0, .int .u64 a0_1, .int .u64 a0_2], .int .i64 a1] w fun e w' => e = .returned (.agg #[.bool r1, .int .u64 r2, .int .u64 r3]) ∧ Below w.heap.size w w' := by
 have hu140 := Try.underlying140
 have HB := Aside0.mk (Below.refl w.heap.size w)
 have H : (if a1 ≥ 0 then (if a1 ≥ 64 then (if 0 ≤ (wrap64 (a1 - 64)) then (some (a0_0, shl .u64 a0_2 (wrap64 (a1 - 64)), 0)) else (none)) else (if 0 ≤ a1 then (if 0 ≤ (wrap64 (64 - a1)) then (some (a0_0, Go.bits .or .u64 (shl .u64 a0_1 a1) (shr .u64 a0_2 (wrap64 (64 - a1))), shl .u64 a0_2 a1)) else (none)) else (none))) else (if (wrap64 (-a1)) ≥ 64 then (if 0 ≤ (wrap64 ((wrap64 (-a1)) - 64)) then (some (a0_0, 0, shr .u64 a0_1 (wrap64 ((wrap64 (-a1)) - 64)))) else (none)) else (if 0 ≤ (wrap64 (-a1)) then (if 0 ≤ (wrap64 (64 - (wrap64 (-a1)))) then (some (a0_0, shr .u64 a0_1 (wrap64 (-a1)), Go.bits .or .u64 (shr .u64 a0_2 (wrap64 (-a1))) (shl .u64 a0_1 (wrap64 (64 - (wrap64 (-a1))))))) else (none)) else (none)))) = some (r1, r2, r3) := h
 clear h
 by_cases c3 : a1 ≥ 0
 ·rw [if_pos c3] at H
  have c3b0 : decide (0 ≤ a1) = true := decide_eq_true c3
  clear c3
  by_cases c4 : a1 ≥ 64
  ·rw [if_pos c4] at H
   have c4b0 : decide (64 ≤ a1) = true := decide_eq_true c4
   clear c4
   obtain ⟨ji5, hji5⟩ : ∃ j_ : Int, (wrap64 (a1 - 64)) = j_ := ⟨_, rfl⟩
   first | rw [hji5] at H | simp only [hji5] at H
   have hji5w : (IntKind.i64.wrap (a1 - 64)) = ji5 := (i64_w _).trans hji5
   by_cases c6 : 0 ≤ (ji5)
   ·rw [if_pos c6] at H
    have c6b0 := eq_true c6
    have c6b1 : decide (0 ≤ (ji5)) = true := decide_eq_true c6
    clear c6
    obtain ⟨ji7, hji7⟩ : ∃ j_ : Int, (shl .u64 a0_2 (ji5)) = j_ := ⟨_, rfl⟩
    first | rw [hji7] at H | simp only [hji7] at H
    have hji7_ : (IntKind.u64.wrap (a0_2 * 2 ^ min (ji5).toNat 64)) = ji7 := hji7
    have hji7z : (ji5) ≤ 64 → (IntKind.u64.wrap (a0_2 * 2 ^ (ji5).toNat)) = ji7 := shl_small hji7
    simp only [Option.some.injEq, Prod.mk.injEq] at H
    obtain ⟨rfl, rfl, rfl⟩ := H
    go_enter Try.func129, Try.ntmps129
    try go_wp2_with (first | ((with_reducible refine gate_dst (N := 2) rfl ?_); refine bv (N := 2) (cs := #[.bool a0_0, .int .u64 a0_1, .int .u64 a0_2]) (t := 140) ?_; intro gb173 hg w8 hbox hb; have n0_ := Aside0.mk (below_step bz hb); have n1_ := Aside0.mk (hbox); have n2_ := (gz hg : Aside0 (w.heap.size ≤ _)); have n3_ := (gz hg : Aside0 (w.heap.size ≤ _)); clear HB; have HB := n0_; have BK173 := n1_; have GW173 := n2_; have GE173 := n3_; clear n0_ n1_ n2_ n3_; clear hb hbox hg) | ((with_reducible refine gate_dst (N := 4) rfl ?_); refine bv (N := 4) (cs := #[.bool false, .int .u64 0, .int .u64 0]) (t := 140) ?_; intro gb174 hg w9 hbox hb; have n0_ := bb BK173 hb; have n1_ := Aside0.mk (below_step (bz1 GE173) hb); have n2_ := Aside0.mk (hbox); have n3_ := Aside0.mk ((by rw [hg]; exact (below_size (bz1 GE173)) : w.heap.size ≤ gb174)); have n4_ := Aside0.mk ((by rw [hg]; exact (below_size (bz1 GE173)) : w.heap.size ≤ gb174)); have n5_ := Aside0.mk ((by rw [hg]; exact Nat.ne_of_lt (blk_lt (g := gb173) (o := .cells #[.bool a0_0, .int .u64 a0_1, .int .u64 a0_2] 140 (0, 0)) (bk BK173)) : gb173 ≠ gb174)); have n6_ := Aside0.mk ((by rw [hg]; exact Nat.ne_of_gt (blk_lt (g := gb173) (o := .cells #[.bool a0_0, .int .u64 a0_1, .int .u64 a0_2] 140 (0, 0)) (bk BK173)) : gb174 ≠ gb173)); clear BK173; clear HB; have BK173 := n0_; have HB := n1_; have BK174 := n2_; have GW174 := n3_; have GE174 := n4_; have NB173_174 := n5_; have NB174_173 := n6_; clear n0_ n1_ n2_ n3_ n4_ n5_ n6_; clear hb hbox hg))
    have n0_ := Aside0.mk (blk_drew BK173.out)
    have n1_ := Aside0.mk (blk_drew BK174.out)
    have n2_ := Aside0.mk (below_drew1 HB.out)
    clear BK173 BK174 HB
    have BK173 := n0_
    have BK174 := n1_
    have HB := n2_
    clear n0_ n1_ n2_
    refine start_ (n := 9) (S := fun w' => w'.cell? ⟨gb173, 0, none⟩ = some (.bool a0_0) ∧ w'.cell? ⟨gb173, 1, none⟩ = some (.int .u64 a0_1) ∧ w'.cell? ⟨gb173, 2, none⟩ = some (.int .u64 a0_2)) (ds := []) #[fF, fF, fF, fF, fF, fF, fF, fF, fF] kf rfl rfl ⟨(blk_cell BK173.out 0).trans rfl, (blk_cell BK173.out 1).trans rfl, (blk_cell BK173.out 2).trans rfl⟩ (fun hHeld => ?_); refine with_tabW impl_wide_shift.tab3 impl_wide_shift.bits3 (fun HT_ HW_ => ?_)
    generalize w9.drew = w10 at BK173 BK174 HB hHeld ⊢
    refine pq (i := 0) (N := some 9) #[tT, fF, fF, fF, fF, fF, fF, fF, fF] rfl rfl HT_.out ?_
    refine pq (i := 2) (N := some 11) #[tT, fF, tT, fF, fF, fF, fF, fF, fF] rfl rfl HT_.out ?_
    refine pq (i := 4) (N := some 13) #[tT, fF, tT, fF, tT, fF, fF, fF, fF] rfl rfl HT_.out ?_
    refine pq (i := 5) (N := some 14) #[tT, fF, tT, fF, tT, tT, fF, fF, fF] rfl rfl HT_.out ?_
    refine tq3 (i := 1) (N := some 10) #[tT, tT, tT, fF, tT, tT, fF, fF, fF] rfl rfl HT_.out HW_.out hHeld ?_
    refine tq3 (i := 3) (N := some 12) #[tT, tT, tT, tT, tT, tT, fF, fF, fF] rfl rfl HT_.out HW_.out hHeld ?_
    refine pq (i := 6) (N := some 15) #[tT, tT, tT, tT, tT, tT, tT, fF, fF] rfl rfl HT_.out ?_
    refine pq (i := 7) (N := some 16) #[tT, tT, tT, tT, tT, tT, tT, tT, fF] rfl rfl HT_.out ?_
    refine one_ (i := 8) (N := none) #[tT, tT, tT, tT, tT, tT, tT, tT, tT] rfl rfl (one_of HT_.out kf) (by decide) (fun K hK => ?_)
    have hs11 : w10.cell? ⟨gb174, 0, none⟩ = some (.bool false) := (blk_cell BK174.out 0).trans rfl
    have hfs11 := blk_frozen BK174.out 0
    have hns11_0 := NB173_174.out
    have hms11_0 := NB174_173.out
    have hs12 : w10.cell? ⟨gb174, 1, none⟩ = some (.int .u64 0) := (blk_cell BK174.out 1).trans rfl
    have hfs12 := blk_frozen BK174.out 1
    have hns12_0 := NB173_174.out
    have hms12_0 := NB174_173.out
    have hs13 : w10.cell? ⟨gb174, 2, none⟩ = some (.int .u64 0) := (blk_cell BK174.out 2).trans rfl
    have hfs13 := blk_frozen BK174.out 2
    have hns13_0 := NB173_174.out
    have hms13_0 := NB174_173.out
    refine skip_ (w1 := ?_) (by rfl) rfl ?_ ?_
    rotate_left
    ·go_simp
     rfl
    refine hK.out _ _ ⟨((cell_far (p := ⟨gb174, _, none⟩) NB173_174.out _).trans (((cell_far (p := ⟨gb174, _, none⟩) NB173_174.out _).trans (((cell_far (p := ⟨gb174, _, none⟩) NB173_174.out _).trans (hHeld.1)))))), ((cell_far (p := ⟨gb174, _, none⟩) NB173_174.out _).trans (((cell_far (p := ⟨gb174, _, none⟩) NB173_174.out _).trans (((cell_far (p := ⟨gb174, _, none⟩) NB173_174.out _).trans (hHeld.2.1)))))), ((cell_far (p := ⟨gb174, _, none⟩) NB173_174.out _).trans (((cell_far (p := ⟨gb174, _, none⟩) NB173_174.out _).trans (((cell_far (p := ⟨gb174, _, none⟩) NB173_174.out _).trans (hHeld.2.2))))))⟩ (fun hHeld => ?_)
    clear hK K
    refine done_ (done_of HT_.out kf) ?_
    try go_wp2
    refine bodyPost_ret (results_cell_row rfl _ _ gb174 140 #[.bool a0_0, .int .u64 ji7, .int .u64 0] (0, 0) _ rfl (by (with_reducible repeat (first | refine blk_drewN ?_ _ | refine blk_drew ?_ | refine blk_alloc ?_ _)); refine blk_put (cs := #[.bool a0_0, .int .u64 ji7, .int .u64 0]) ?_ 2 _ rfl; (with_reducible repeat (first | refine blk_drewN ?_ _ | refine blk_drew ?_ | refine blk_alloc ?_ _)); refine blk_put (cs := #[.bool a0_0, .int .u64 0, .int .u64 0]) ?_ 1 _ rfl; (with_reducible repeat (first | refine blk_drewN ?_ _ | refine blk_drew ?_ | refine blk_alloc ?_ _)); refine blk_put (cs := #[.bool false, .int .u64 0, .int .u64 0]) ?_ 0 _ rfl; (with_reducible repeat (first | refine blk_drewN ?_ _ | refine blk_drew ?_ | refine blk_alloc ?_ _)); exact BK174.out) Try.underlying140 rfl kf) rfl ?_
    exact ⟨by first | rfl | (simp [errW_none, errW_some] <;> rfl) | (simp only [← hji5, ← hji7]; first | rfl | (simp [errW_none, errW_some] <;> rfl)) | (simp [*, errW_none, errW_some] <;> rfl), bz2 GE173 GE174⟩
   ·rw [if_neg c6] at H
    exact absurd H (by simp)
  ·rw [if_neg c4] at H
   have c4b0 : decide (64 ≤ a1) = false := decide_eq_false c4
   clear c4
   by_cases c14 : 0 ≤ a1
   ·rw [if_pos c14] at H
    have c14b0 := eq_true c14
    have c14b1 : decide (0 ≤ a1) = true := decide_eq_true c14
    clear c14
    obtain ⟨ji15, hji15⟩ : ∃ j_ : Int, (shl .u64 a0_1 a1) = j_ := ⟨_, rfl⟩
    first | rw [hji15] at H | simp only [hji15] at H
    have hji15_ : (IntKind.u64.wrap (a0_1 * 2 ^ min a1.toNat 64)) = ji15 := hji15
    have hji15z : a1 ≤ 64 → (IntKind.u64.wrap (a0_1 * 2 ^ a1.toNat)) = ji15 := shl_small hji15
    obtain ⟨ji16, hji16⟩ : ∃ j_ : Int, (wrap64 (64 - a1)) = j_ := ⟨_, rfl⟩
    first | rw [hji16] at H | simp only [hji16] at H
    have hji16w : (IntKind.i64.wrap (64 - a1)) = ji16 := (i64_w _).trans hji16
    by_cases c17 : 0 ≤ (ji16)
    ·rw [if_pos c17] at H
     have c17b0 := eq_true c17
     have c17b1 : decide (0 ≤ (ji16)) = true := decide_eq_true c17
     clear c17
     obtain ⟨ji18, hji18⟩ : ∃ j_ : Int, (shr .u64 a0_2 (ji16)) = j_ := ⟨_, rfl⟩
     first | rw [hji18] at H | simp only [hji18] at H
     have hji18_ : (a0_2 / 2 ^ min (ji16).toNat 64) = ji18 := hji18
     have hji18z : (ji16) ≤ 64 → (a0_2 / 2 ^ (ji16).toNat) = ji18 := shr_small hji18
     have c19b0 := eq_true (of_decide_eq_true am : 0 ≤ a1)
     obtain ⟨ji20, hji20⟩ : ∃ j_ : Int, (shl .u64 a0_2 a1) = j_ := ⟨_, rfl⟩
     first | rw [hji20] at H | simp only [hji20] at H
     have hji20_ : (IntKind.u64.wrap (a0_2 * 2 ^ min a1.toNat 64)) = ji20 := hji20
     have hji20z : a1 ≤ 64 → (IntKind.u64.wrap (a0_2 * 2 ^ a1.toNat)) = ji20 := shl_small hji20
     simp only [Option.some.injEq, Prod.mk.injEq] at H
     obtain ⟨rfl, rfl, rfl⟩ := H
     go_enter Try.func129, Try.ntmps129
     try go_wp2_with (first | ((with_reducible refine gate_dst (N := 2) rfl ?_); refine bv (N := 2) (cs := #[.bool a0_0, .int .u64 a0_1, .int .u64 a0_2]) (t := 140) ?_; intro gb173 hg w21 hbox hb; have n0_ := Aside0.mk (below_step bz hb); have n1_ := Aside0.mk (hbox); have n2_ := (gz hg : Aside0 (w.heap.size ≤ _)); have n3_ := (gz hg : Aside0 (w.heap.size ≤ _)); clear HB; have HB := n0_; have BK173 := n1_; have GW173 := n2_; have GE173 := n3_; clear n0_ n1_ n2_ n3_; clear hb hbox hg) | ((with_reducible refine gate_dst (N := 4) rfl ?_); refine bv (N := 4) (cs := #[.bool false, .int .u64 0, .int .u64 0]) (t := 140) ?_; intro gb174 hg w22 hbox hb; have n0_ := bb BK173 hb; have n1_ := Aside0.mk (below_step (bz1 GE173) hb); have n2_ := Aside0.mk (hbox); have n3_ := Aside0.mk ((by rw [hg]; exact (below_size (bz1 GE173)) : w.heap.size ≤ gb174)); have n4_ := Aside0.mk ((by rw [hg]; exact (below_size (bz1 GE173)) : w.heap.size ≤ gb174)); have n5_ := Aside0.mk ((by rw [hg]; exact Nat.ne_of_lt (blk_lt (g := gb173) (o := .cells #[.bool a0_0, .int .u64 a0_1, .int .u64 a0_2] 140 (0, 0)) (bk BK173)) : gb173 ≠ gb174)); have n6_ := Aside0.mk ((by rw [hg]; exact Nat.ne_of_gt (blk_lt (g := gb173) (o := .cells #[.bool a0_0, .int .u64 a0_1, .int .u64 a0_2] 140 (0, 0)) (bk BK173)) : gb174 ≠ gb173)); clear BK173; clear HB; have BK173 := n0_; have HB := n1_; have BK174 := n2_; have GW174 := n3_; have GE174 := n4_; have NB173_174 := n5_; have NB174_173 := n6_; clear n0_ n1_ n2_ n3_ n4_ n5_ n6_; clear hb hbox hg))
     have n0_ := Aside0.mk (blk_drew BK173.out)
     have n1_ := Aside0.mk (blk_drew BK174.out)
     have n2_ := Aside0.mk (below_drew1 HB.out)
     clear BK173 BK174 HB
     have BK173 := n0_
     have BK174 := n1_
     have HB := n2_
     clear n0_ n1_ n2_
     refine start_ (n := 18) (S := fun w' => w'.cell? ⟨gb173, 0, none⟩ = some (.bool a0_0) ∧ w'.cell? ⟨gb173, 1, none⟩ = some (.int .u64 a0_1) ∧ w'.cell? ⟨gb173, 2, none⟩ = some (.int .u64 a0_2)) (ds := []) #[fF, fF, fF, fF, fF, fF, fF, fF, fF, fF, fF, fF, fF, fF, fF, fF, fF, fF] kf rfl rfl ⟨(blk_cell BK173.out 0).trans rfl, (blk_cell BK173.out 1).trans rfl, (blk_cell BK173.out 2).trans rfl⟩ (fun hHeld => ?_); refine with_tabW impl_wide_shift.tab4 impl_wide_shift.bits4 (fun HT_ HW_ => ?_)
     generalize w22.drew = w23 at BK173 BK174 HB hHeld ⊢
     refine pq (i := 0) (N := some 17) #[tT, fF, fF, fF, fF, fF, fF, fF, fF, fF, fF, fF, fF, fF, fF, fF, fF, fF] rfl rfl HT_.out ?_
     refine pq (i := 2) (N := some 19) #[tT, fF, tT, fF, fF, fF, fF, fF, fF, fF, fF, fF, fF, fF, fF, fF, fF, fF] rfl rfl HT_.out ?_
     refine pq (i := 4) (N := some 21) #[tT, fF, tT, fF, tT, fF, fF, fF, fF, fF, fF, fF, fF, fF, fF, fF, fF, fF] rfl rfl HT_.out ?_
     refine pq (i := 6) (N := some 23) #[tT, fF, tT, fF, tT, fF, tT, fF, fF, fF, fF, fF, fF, fF, fF, fF, fF, fF] rfl rfl HT_.out ?_
     refine pq (i := 8) (N := some 25) #[tT, fF, tT, fF, tT, fF, tT, fF, tT, fF, fF, fF, fF, fF, fF, fF, fF, fF] rfl rfl HT_.out ?_
     refine pq (i := 9) (N := some 26) #[tT, fF, tT, fF, tT, fF, tT, fF, tT, tT, fF, fF, fF, fF, fF, fF, fF, fF] rfl rfl HT_.out ?_
     refine pq (i := 12) (N := some 29) #[tT, fF, tT, fF, tT, fF, tT, fF, tT, tT, fF, fF, tT, fF, fF, fF, fF, fF] rfl rfl HT_.out ?_
     refine pq (i := 14) (N := some 31) #[tT, fF, tT, fF, tT, fF, tT, fF, tT, tT, fF, fF, tT, fF, tT, fF, fF, fF] rfl rfl HT_.out ?_
     refine tq3 (i := 1) (N := some 18) #[tT, tT, tT, fF, tT, fF, tT, fF, tT, tT, fF, fF, tT, fF, tT, fF, fF, fF] rfl rfl HT_.out HW_.out hHeld ?_
     refine tq3 (i := 3) (N := some 20) #[tT, tT, tT, tT, tT, fF, tT, fF, tT, tT, fF, fF, tT, fF, tT, fF, fF, fF] rfl rfl HT_.out HW_.out hHeld ?_
     refine pq (i := 5) (N := some 22) #[tT, tT, tT, tT, tT, tT, tT, fF, tT, tT, fF, fF, tT, fF, tT, fF, fF, fF] rfl rfl HT_.out ?_
     refine tq3 (i := 7) (N := some 24) #[tT, tT, tT, tT, tT, tT, tT, tT, tT, tT, fF, fF, tT, fF, tT, fF, fF, fF] rfl rfl HT_.out HW_.out hHeld ?_
     refine pq (i := 10) (N := some 27) #[tT, tT, tT, tT, tT, tT, tT, tT, tT, tT, tT, fF, tT, fF, tT, fF, fF, fF] rfl rfl HT_.out ?_
     refine pq (i := 11) (N := some 28) #[tT, tT, tT, tT, tT, tT, tT, tT, tT, tT, tT, tT, tT, fF, tT, fF, fF, fF] rfl rfl HT_.out ?_
     refine tq3 (i := 13) (N := some 30) #[tT, tT, tT, tT, tT, tT, tT, tT, tT, tT, tT, tT, tT, tT, tT, fF, fF, fF] rfl rfl HT_.out HW_.out hHeld ?_
     refine pq (i := 15) (N := some 32) #[tT, tT, tT, tT, tT, tT, tT, tT, tT, tT, tT, tT, tT, tT, tT, tT, fF, fF] rfl rfl HT_.out ?_
     refine pq (i := 16) (N := some 33) #[tT, tT, tT, tT, tT, tT, tT, tT, tT, tT, tT, tT, tT, tT, tT, tT, tT, fF] rfl rfl HT_.out ?_
     refine one_ (i := 17) (N := none) #[tT, tT, tT, tT, tT, tT, tT, tT, tT, tT, tT, tT, tT, tT, tT, tT, tT, tT] rfl rfl (one_of HT_.out kf) (by decide) (fun K hK => ?_)
     have hs24 : w23.cell? ⟨gb174, 0, none⟩ = some (.bool false) := (blk_cell BK174.out 0).trans rfl
     have hfs24 := blk_frozen BK174.out 0
     have hns24_0 := NB173_174.out
     have hms24_0 := NB174_173.out
     have hs25 : w23.cell? ⟨gb174, 1, none⟩ = some (.int .u64 0) := (blk_cell BK174.out 1).trans rfl
     have hfs25 := blk_frozen BK174.out 1
     have hns25_0 := NB173_174.out
     have hms25_0 := NB174_173.out
     have hs26 : w23.cell? ⟨gb174, 2, none⟩ = some (.int .u64 0) := (blk_cell BK174.out 2).trans rfl
     have hfs26 := blk_frozen BK174.out 2
     have hns26_0 := NB173_174.out
     have hms26_0 := NB174_173.out
     refine skip_ (w1 := ?_) (by rfl) rfl ?_ ?_
     rotate_left
     ·go_simp
      rfl
     refine hK.out _ _ ⟨((cell_far (p := ⟨gb174, _, none⟩) NB173_174.out _).trans (((cell_far (p := ⟨gb174, _, none⟩) NB173_174.out _).trans (((cell_far (p := ⟨gb174, _, none⟩) NB173_174.out _).trans (hHeld.1)))))), ((cell_far (p := ⟨gb174, _, none⟩) NB173_174.out _).trans (((cell_far (p := ⟨gb174, _, none⟩) NB173_174.out _).trans (((cell_far (p := ⟨gb174, _, none⟩) NB173_174.out _).trans (hHeld.2.1)))))), ((cell_far (p := ⟨gb174, _, none⟩) NB173_174.out _).trans (((cell_far (p := ⟨gb174, _, none⟩) NB173_174.out _).trans (((cell_far (p := ⟨gb174, _, none⟩) NB173_174.out _).trans (hHeld.2.2))))))⟩ (fun hHeld => ?_)
     clear hK K
     refine done_ (done_of HT_.out kf) ?_
     try go_wp2
     refine bodyPost_ret (results_cell_row rfl _ _ gb174 140 #[.bool a0_0, .int .u64 (Go.bits .or .u64 (ji15) (ji18)), .int .u64 ji20] (0, 0) _ rfl (by (with_reducible repeat (first | refine blk_drewN ?_ _ | refine blk_drew ?_ | refine blk_alloc ?_ _)); refine blk_put (cs := #[.bool a0_0, .int .u64 (Go.bits .or .u64 (ji15) (ji18)), .int .u64 0]) ?_ 2 _ rfl; (with_reducible repeat (first | refine blk_drewN ?_ _ | refine blk_drew ?_ | refine blk_alloc ?_ _)); refine blk_put (cs := #[.bool a0_0, .int .u64 0, .int .u64 0]) ?_ 1 _ rfl; (with_reducible repeat (first | refine blk_drewN ?_ _ | refine blk_drew ?_ | refine blk_alloc ?_ _)); refine blk_put (cs := #[.bool false, .int .u64 0, .int .u64 0]) ?_ 0 _ rfl; (with_reducible repeat (first | refine blk_drewN ?_ _ | refine blk_drew ?_ | refine blk_alloc ?_ _)); exact BK174.out) Try.underlying140 rfl kf) rfl ?_
     exact ⟨by first | rfl | (simp [errW_none, errW_some] <;> rfl) | (simp only [← hji15, ← hji16, ← hji18, ← hji20]; first | rfl | (simp [errW_none, errW_some] <;> rfl)) | (simp [*, errW_none, errW_some] <;> rfl), bz2 GE173 GE174⟩
    ·rw [if_neg c17] at H
     exact absurd H (by simp)
   ·rw [if_neg c14] at H
    exact absurd H (by simp)
 ·rw [if_neg c3] at H
  have c3b0 : decide (0 ≤ a1) = false := decide_eq_false c3
  clear c3
  by_cases c27 : (wrap64 (-a1)) ≥ 64
  ·rw [if_pos c27] at H
   have c27b0 : decide (64 ≤ (wrap64 (-a1))) = true := decide_eq_true c27
   (try (have c27b0w : decide (64 ≤ (IntKind.i64.wrap (-a1))) = true := by simp only [i64_w]; exact c27b0))
   clear c27
   obtain ⟨ji28, hji28⟩ : ∃ j_ : Int, (wrap64 ((wrap64 (-a1)) - 64)) = j_ := ⟨_, rfl⟩
   first | rw [hji28] at H | simp only [hji28] at H
   have hji28w : (IntKind.i64.wrap ((wrap64 (-a1)) - 64)) = ji28 := (i64_w _).trans hji28
   by_cases c29 : 0 ≤ (ji28)
   ·rw [if_pos c29] at H
    have c29b0 := eq_true c29
    have c29b1 : decide (0 ≤ (ji28)) = true := decide_eq_true c29
    clear c29
    obtain ⟨ji30, hji30⟩ : ∃ j_ : Int, (shr .u64 a0_1 (ji28)) = j_ := ⟨_, rfl⟩
    first | rw [hji30] at H | simp only [hji30] at H
    have hji30_ : (a0_1 / 2 ^ min (ji28).toNat 64) = ji30 := hji30
    have hji30z : (ji28) ≤ 64 → (a0_1 / 2 ^ (ji28).toNat) = ji30 := shr_small hji30
    simp only [Option.some.injEq, Prod.mk.injEq] at H
    obtain ⟨rfl, rfl, rfl⟩ := H
    go_enter Try.func129, Try.ntmps129
    try go_wp2_with (first | ((with_reducible refine gate_dst (N := 2) rfl ?_); refine bv (N := 2) (cs := #[.bool a0_0, .int .u64 a0_1, .int .u64 a0_2]) (t := 140) ?_; intro gb173 hg w31 hbox hb; have n0_ := Aside0.mk (below_step bz hb); have n1_ := Aside0.mk (hbox); have n2_ := (gz hg : Aside0 (w.heap.size ≤ _)); have n3_ := (gz hg : Aside0 (w.heap.size ≤ _)); clear HB; have HB := n0_; have BK173 := n1_; have GW173 := n2_; have GE173 := n3_; clear n0_ n1_ n2_ n3_; clear hb hbox hg) | ((with_reducible refine gate_dst (N := 4) rfl ?_); refine bv (N := 4) (cs := #[.bool false, .int .u64 0, .int .u64 0]) (t := 140) ?_; intro gb174 hg w32 hbox hb; have n0_ := bb BK173 hb; have n1_ := Aside0.mk (below_step (bz1 GE173) hb); have n2_ := Aside0.mk (hbox); have n3_ := Aside0.mk ((by rw [hg]; exact (below_size (bz1 GE173)) : w.heap.size ≤ gb174)); have n4_ := Aside0.mk ((by rw [hg]; exact (below_size (bz1 GE173)) : w.heap.size ≤ gb174)); have n5_ := Aside0.mk ((by rw [hg]; exact Nat.ne_of_lt (blk_lt (g := gb173) (o := .cells #[.bool a0_0, .int .u64 a0_1, .int .u64 a0_2] 140 (0, 0)) (bk BK173)) : gb173 ≠ gb174)); have n6_ := Aside0.mk ((by rw [hg]; exact Nat.ne_of_gt (blk_lt (g := gb173) (o := .cells #[.bool a0_0, .int .u64 a0_1, .int .u64 a0_2] 140 (0, 0)) (bk BK173)) : gb174 ≠ gb173)); clear BK173; clear HB; have BK173 := n0_; have HB := n1_; have BK174 := n2_; have GW174 := n3_; have GE174 := n4_; have NB173_174 := n5_; have NB174_173 := n6_; clear n0_ n1_ n2_ n3_ n4_ n5_ n6_; clear hb hbox hg))
    have n0_ := Aside0.mk (blk_drew BK173.out)
    have n1_ := Aside0.mk (blk_drew BK174.out)
    have n2_ := Aside0.mk (below_drew1 HB.out)
    clear BK173 BK174 HB
    have BK173 := n0_
    have BK174 := n1_
    have HB := n2_
    clear n0_ n1_ n2_
    refine start_ (n := 9) (S := fun w' => w'.cell? ⟨gb173, 0, none⟩ = some (.bool a0_0) ∧ w'.cell? ⟨gb173, 1, none⟩ = some (.int .u64 a0_1) ∧ w'.cell? ⟨gb173, 2, none⟩ = some (.int .u64 a0_2)) (ds := []) #[fF, fF, fF, fF, fF, fF, fF, fF, fF] kf rfl rfl ⟨(blk_cell BK173.out 0).trans rfl, (blk_cell BK173.out 1).trans rfl, (blk_cell BK173.out 2).trans rfl⟩ (fun hHeld => ?_); refine with_tabW impl_wide_shift.tab7 impl_wide_shift.bits7 (fun HT_ HW_ => ?_)
    generalize w32.drew = w33 at BK173 BK174 HB hHeld ⊢
    refine pq (i := 0) (N := some 38) #[tT, fF, fF, fF, fF, fF, fF, fF, fF] rfl rfl HT_.out ?_
    refine pq (i := 2) (N := some 40) #[tT, fF, tT, fF, fF, fF, fF, fF, fF] rfl rfl HT_.out ?_
    refine pq (i := 4) (N := some 42) #[tT, fF, tT, fF, tT, fF, fF, fF, fF] rfl rfl HT_.out ?_
    refine pq (i := 5) (N := some 43) #[tT, fF, tT, fF, tT, tT, fF, fF, fF] rfl rfl HT_.out ?_
    refine tq3 (i := 1) (N := some 39) #[tT, tT, tT, fF, tT, tT, fF, fF, fF] rfl rfl HT_.out HW_.out hHeld ?_
    refine tq3 (i := 3) (N := some 41) #[tT, tT, tT, tT, tT, tT, fF, fF, fF] rfl rfl HT_.out HW_.out hHeld ?_
    refine pq (i := 6) (N := some 44) #[tT, tT, tT, tT, tT, tT, tT, fF, fF] rfl rfl HT_.out ?_
    refine pq (i := 7) (N := some 45) #[tT, tT, tT, tT, tT, tT, tT, tT, fF] rfl rfl HT_.out ?_
    refine one_ (i := 8) (N := none) #[tT, tT, tT, tT, tT, tT, tT, tT, tT] rfl rfl (one_of HT_.out kf) (by decide) (fun K hK => ?_)
    have hs34 : w33.cell? ⟨gb174, 0, none⟩ = some (.bool false) := (blk_cell BK174.out 0).trans rfl
    have hfs34 := blk_frozen BK174.out 0
    have hns34_0 := NB173_174.out
    have hms34_0 := NB174_173.out
    have hs35 : w33.cell? ⟨gb174, 1, none⟩ = some (.int .u64 0) := (blk_cell BK174.out 1).trans rfl
    have hfs35 := blk_frozen BK174.out 1
    have hns35_0 := NB173_174.out
    have hms35_0 := NB174_173.out
    have hs36 : w33.cell? ⟨gb174, 2, none⟩ = some (.int .u64 0) := (blk_cell BK174.out 2).trans rfl
    have hfs36 := blk_frozen BK174.out 2
    have hns36_0 := NB173_174.out
    have hms36_0 := NB174_173.out
    refine skip_ (w1 := ?_) (by rfl) rfl ?_ ?_
    rotate_left
    ·go_simp
     rfl
    refine hK.out _ _ ⟨((cell_far (p := ⟨gb174, _, none⟩) NB173_174.out _).trans (((cell_far (p := ⟨gb174, _, none⟩) NB173_174.out _).trans (((cell_far (p := ⟨gb174, _, none⟩) NB173_174.out _).trans (hHeld.1)))))), ((cell_far (p := ⟨gb174, _, none⟩) NB173_174.out _).trans (((cell_far (p := ⟨gb174, _, none⟩) NB173_174.out _).trans (((cell_far (p := ⟨gb174, _, none⟩) NB173_174.out _).trans (hHeld.2.1)))))), ((cell_far (p := ⟨gb174, _, none⟩) NB173_174.out _).trans (((cell_far (p := ⟨gb174, _, none⟩) NB173_174.out _).trans (((cell_far (p := ⟨gb174, _, none⟩) NB173_174.out _).trans (hHeld.2.2))))))⟩ (fun hHeld => ?_)
    clear hK K
    refine done_ (done_of HT_.out kf) ?_
    try go_wp2
    refine bodyPost_ret (results_cell_row rfl _ _ gb174 140 #[.bool a0_0, .int .u64 0, .int .u64 ji30] (0, 0) _ rfl (by (with_reducible repeat (first | refine blk_drewN ?_ _ | refine blk_drew ?_ | refine blk_alloc ?_ _)); refine blk_put (cs := #[.bool a0_0, .int .u64 0, .int .u64 0]) ?_ 2 _ rfl; (with_reducible repeat (first | refine blk_drewN ?_ _ | refine blk_drew ?_ | refine blk_alloc ?_ _)); refine blk_put (cs := #[.bool a0_0, .int .u64 0, .int .u64 0]) ?_ 1 _ rfl; (with_reducible repeat (first | refine blk_drewN ?_ _ | refine blk_drew ?_ | refine blk_alloc ?_ _)); refine blk_put (cs := #[.bool false, .int .u64 0, .int .u64 0]) ?_ 0 _ rfl; (with_reducible repeat (first | refine blk_drewN ?_ _ | refine blk_drew ?_ | refine blk_alloc ?_ _)); exact BK174.out) Try.underlying140 rfl kf) rfl ?_
    exact ⟨by first | rfl | (simp [errW_none, errW_some] <;> rfl) | (simp only [← hji28, ← hji30]; first | rfl | (simp [errW_none, errW_some] <;> rfl)) | (simp [*, errW_none, errW_some] <;> rfl), bz2 GE173 GE174⟩
   ·rw [if_neg c29] at H
    exact absurd H (by simp)
  ·rw [if_neg c27] at H
   have c27b0 : decide (64 ≤ (wrap64 (-a1))) = false := decide_eq_false c27
   (try (have c27b0w : decide (64 ≤ (IntKind.i64.wrap (-a1))) = false := by simp only [i64_w]; exact c27b0))
   clear c27
   obtain ⟨ji37, hji37⟩ : ∃ j_ : Int, (wrap64 (-a1)) = j_ := ⟨_, rfl⟩
   first | rw [hji37] at H | simp only [hji37] at H
   (try rw [hji37] at c27b0)
   have hji37w : (IntKind.i64.wrap (-a1)) = ji37 := (i64_w _).trans hji37
   by_cases c38 : 0 ≤ (ji37)
   ·rw [if_pos c38] at H
    have c38b0 := eq_true c38
    have c38b1 : decide (0 ≤ (ji37)) = true := decide_eq_true c38
    clear c38
    obtain ⟨ji39, hji39⟩ : ∃ j_ : Int, (shr .u64 a0_1 (ji37)) = j_ := ⟨_, rfl⟩
    first | rw [hji39] at H | simp only [hji39] at H
    have hji39_ : (a0_1 / 2 ^ min (ji37).toNat 64) = ji39 := hji39
    have hji39z : (ji37) ≤ 64 → (a0_1 / 2 ^ (ji37).toNat) = ji39 := shr_small hji39
    have c40b0 := eq_true (of_decide_eq_true am : 0 ≤ (ji37))
    obtain ⟨ji41, hji41⟩ : ∃ j_ : Int, (shr .u64 a0_2 (ji37)) = j_ := ⟨_, rfl⟩
    first | rw [hji41] at H | simp only [hji41] at H
    have hji41_ : (a0_2 / 2 ^ min (ji37).toNat 64) = ji41 := hji41
    have hji41z : (ji37) ≤ 64 → (a0_2 / 2 ^ (ji37).toNat) = ji41 := shr_small hji41
    obtain ⟨ji42, hji42⟩ : ∃ j_ : Int, (wrap64 (64 - (ji37))) = j_ := ⟨_, rfl⟩
    first | rw [hji42] at H | simp only [hji42] at H
    have hji42w : (IntKind.i64.wrap (64 - (ji37))) = ji42 := (i64_w _).trans hji42
    by_cases c43 : 0 ≤ (ji42)
    ·rw [if_pos c43] at H
     have c43b0 := eq_true c43
     have c43b1 : decide (0 ≤ (ji42)) = true := decide_eq_true c43
     clear c43
     obtain ⟨ji44, hji44⟩ : ∃ j_ : Int, (shl .u64 a0_1 (ji42)) = j_ := ⟨_, rfl⟩
     first | rw [hji44] at H | simp only [hji44] at H
     have hji44_ : (IntKind.u64.wrap (a0_1 * 2 ^ min (ji42).toNat 64)) = ji44 := hji44
     have hji44z : (ji42) ≤ 64 → (IntKind.u64.wrap (a0_1 * 2 ^ (ji42).toNat)) = ji44 := shl_small hji44
     simp only [Option.some.injEq, Prod.mk.injEq] at H
     obtain ⟨rfl, rfl, rfl⟩ := H
     go_enter Try.func129, Try.ntmps129
     try go_wp2_with (first | ((with_reducible refine gate_dst (N := 2) rfl ?_); refine bv (N := 2) (cs := #[.bool a0_0, .int .u64 a0_1, .int .u64 a0_2]) (t := 140) ?_; intro gb173 hg w45 hbox hb; have n0_ := Aside0.mk (below_step bz hb); have n1_ := Aside0.mk (hbox); have n2_ := (gz hg : Aside0 (w.heap.size ≤ _)); have n3_ := (gz hg : Aside0 (w.heap.size ≤ _)); clear HB; have HB := n0_; have BK173 := n1_; have GW173 := n2_; have GE173 := n3_; clear n0_ n1_ n2_ n3_; clear hb hbox hg) | ((with_reducible refine gate_dst (N := 4) rfl ?_); refine bv (N := 4) (cs := #[.bool false, .int .u64 0, .int .u64 0]) (t := 140) ?_; intro gb174 hg w46 hbox hb; have n0_ := bb BK173 hb; have n1_ := Aside0.mk (below_step (bz1 GE173) hb); have n2_ := Aside0.mk (hbox); have n3_ := Aside0.mk ((by rw [hg]; exact (below_size (bz1 GE173)) : w.heap.size ≤ gb174)); have n4_ := Aside0.mk ((by rw [hg]; exact (below_size (bz1 GE173)) : w.heap.size ≤ gb174)); have n5_ := Aside0.mk ((by rw [hg]; exact Nat.ne_of_lt (blk_lt (g := gb173) (o := .cells #[.bool a0_0, .int .u64 a0_1, .int .u64 a0_2] 140 (0, 0)) (bk BK173)) : gb173 ≠ gb174)); have n6_ := Aside0.mk ((by rw [hg]; exact Nat.ne_of_gt (blk_lt (g := gb173) (o := .cells #[.bool a0_0, .int .u64 a0_1, .int .u64 a0_2] 140 (0, 0)) (bk BK173)) : gb174 ≠ gb173)); clear BK173; clear HB; have BK173 := n0_; have HB := n1_; have BK174 := n2_; have GW174 := n3_; have GE174 := n4_; have NB173_174 := n5_; have NB174_173 := n6_; clear n0_ n1_ n2_ n3_ n4_ n5_ n6_; clear hb hbox hg))
     have n0_ := Aside0.mk (blk_drew BK173.out)
     have n1_ := Aside0.mk (blk_drew BK174.out)
     have n2_ := Aside0.mk (below_drew1 HB.out)
     clear BK173 BK174 HB
     have BK173 := n0_
     have BK174 := n1_
     have HB := n2_
     clear n0_ n1_ n2_
     refine start_ (n := 18) (S := fun w' => w'.cell? ⟨gb173, 0, none⟩ = some (.bool a0_0) ∧ w'.cell? ⟨gb173, 1, none⟩ = some (.int .u64 a0_1) ∧ w'.cell? ⟨gb173, 2, none⟩ = some (.int .u64 a0_2)) (ds := []) #[fF, fF, fF, fF, fF, fF, fF, fF, fF, fF, fF, fF, fF, fF, fF, fF, fF, fF] kf rfl rfl ⟨(blk_cell BK173.out 0).trans rfl, (blk_cell BK173.out 1).trans rfl, (blk_cell BK173.out 2).trans rfl⟩ (fun hHeld => ?_); refine with_tabW impl_wide_shift.tab8 impl_wide_shift.bits8 (fun HT_ HW_ => ?_)
     generalize w46.drew = w47 at BK173 BK174 HB hHeld ⊢
     refine pq (i := 0) (N := some 46) #[tT, fF, fF, fF, fF, fF, fF, fF, fF, fF, fF, fF, fF, fF, fF, fF, fF, fF] rfl rfl HT_.out ?_
     refine pq (i := 2) (N := some 48) #[tT, fF, tT, fF, fF, fF, fF, fF, fF, fF, fF, fF, fF, fF, fF, fF, fF, fF] rfl rfl HT_.out ?_
     refine pq (i := 4) (N := some 50) #[tT, fF, tT, fF, tT, fF, fF, fF, fF, fF, fF, fF, fF, fF, fF, fF, fF, fF] rfl rfl HT_.out ?_
     refine pq (i := 6) (N := some 52) #[tT, fF, tT, fF, tT, fF, tT, fF, fF, fF, fF, fF, fF, fF, fF, fF, fF, fF] rfl rfl HT_.out ?_
     refine pq (i := 8) (N := some 54) #[tT, fF, tT, fF, tT, fF, tT, fF, tT, fF, fF, fF, fF, fF, fF, fF, fF, fF] rfl rfl HT_.out ?_
     refine pq (i := 10) (N := some 56) #[tT, fF, tT, fF, tT, fF, tT, fF, tT, fF, tT, fF, fF, fF, fF, fF, fF, fF] rfl rfl HT_.out ?_
     refine pq (i := 12) (N := some 58) #[tT, fF, tT, fF, tT, fF, tT, fF, tT, fF, tT, fF, tT, fF, fF, fF, fF, fF] rfl rfl HT_.out ?_
     refine pq (i := 13) (N := some 59) #[tT, fF, tT, fF, tT, fF, tT, fF, tT, fF, tT, fF, tT, tT, fF, fF, fF, fF] rfl rfl HT_.out ?_
     refine tq3 (i := 1) (N := some 47) #[tT, tT, tT, fF, tT, fF, tT, fF, tT, fF, tT, fF, tT, tT, fF, fF, fF, fF] rfl rfl HT_.out HW_.out hHeld ?_
     refine tq3 (i := 3) (N := some 49) #[tT, tT, tT, tT, tT, fF, tT, fF, tT, fF, tT, fF, tT, tT, fF, fF, fF, fF] rfl rfl HT_.out HW_.out hHeld ?_
     refine pq (i := 5) (N := some 51) #[tT, tT, tT, tT, tT, tT, tT, fF, tT, fF, tT, fF, tT, tT, fF, fF, fF, fF] rfl rfl HT_.out ?_
     refine tq3 (i := 7) (N := some 53) #[tT, tT, tT, tT, tT, tT, tT, tT, tT, fF, tT, fF, tT, tT, fF, fF, fF, fF] rfl rfl HT_.out HW_.out hHeld ?_
     refine pq (i := 9) (N := some 55) #[tT, tT, tT, tT, tT, tT, tT, tT, tT, tT, tT, fF, tT, tT, fF, fF, fF, fF] rfl rfl HT_.out ?_
     refine tq3 (i := 11) (N := some 57) #[tT, tT, tT, tT, tT, tT, tT, tT, tT, tT, tT, tT, tT, tT, fF, fF, fF, fF] rfl rfl HT_.out HW_.out hHeld ?_
     refine pq (i := 14) (N := some 60) #[tT, tT, tT, tT, tT, tT, tT, tT, tT, tT, tT, tT, tT, tT, tT, fF, fF, fF] rfl rfl HT_.out ?_
     refine pq (i := 15) (N := some 61) #[tT, tT, tT, tT, tT, tT, tT, tT, tT, tT, tT, tT, tT, tT, tT, tT, fF, fF] rfl rfl HT_.out ?_
     refine pq (i := 16) (N := some 62) #[tT, tT, tT, tT, tT, tT, tT, tT, tT, tT, tT, tT, tT, tT, tT, tT, tT, fF] rfl rfl HT_.out ?_
     refine one_ (i := 17) (N := none) #[tT, tT, tT, tT, tT, tT, tT, tT, tT, tT, tT, tT, tT, tT, tT, tT, tT, tT] rfl rfl (one_of HT_.out kf) (by decide) (fun K hK => ?_)
     have hs48 : w47.cell? ⟨gb174, 0, none⟩ = some (.bool false) := (blk_cell BK174.out 0).trans rfl
     have hfs48 := blk_frozen BK174.out 0
     have hns48_0 := NB173_174.out
     have hms48_0 := NB174_173.out
     have hs49 : w47.cell? ⟨gb174, 1, none⟩ = some (.int .u64 0) := (blk_cell BK174.out 1).trans rfl
     have hfs49 := blk_frozen BK174.out 1
     have hns49_0 := NB173_174.out
     have hms49_0 := NB174_173.out
     have hs50 : w47.cell? ⟨gb174, 2, none⟩ = some (.int .u64 0) := (blk_cell BK174.out 2).trans rfl
     have hfs50 := blk_frozen BK174.out 2
     have hns50_0 := NB173_174.out
     have hms50_0 := NB174_173.out
     refine skip_ (w1 := ?_) (by rfl) rfl ?_ ?_
     rotate_left
     ·go_simp
      rfl
     refine hK.out _ _ ⟨((cell_far (p := ⟨gb174, _, none⟩) NB173_174.out _).trans (((cell_far (p := ⟨gb174, _, none⟩) NB173_174.out _).trans (((cell_far (p := ⟨gb174, _, none⟩) NB173_174.out _).trans (hHeld.1)))))), ((cell_far (p := ⟨gb174, _, none⟩) NB173_174.out _).trans (((cell_far (p := ⟨gb174, _, none⟩) NB173_174.out _).trans (((cell_far (p := ⟨gb174, _, none⟩) NB173_174.out _).trans (hHeld.2.1)))))), ((cell_far (p := ⟨gb174, _, none⟩) NB173_174.out _).trans (((cell_far (p := ⟨gb174, _, none⟩) NB173_174.out _).trans (((cell_far (p := ⟨gb174, _, none⟩) NB173_174.out _).trans (hHeld.2.2))))))⟩ (fun hHeld => ?_)
     clear hK K
     refine done_ (done_of HT_.out kf) ?_
     try go_wp2
     refine bodyPost_ret (results_cell_row rfl _ _ gb174 140 #[.bool a0_0, .int .u64 ji39, .int .u64 (Go.bits .or .u64 (ji41) (ji44))] (0, 0) _ rfl (by (with_reducible repeat (first | refine blk_drewN ?_ _ | refine blk_drew ?_ | refine blk_alloc ?_ _)); refine blk_put (cs := #[.bool a0_0, .int .u64 ji39, .int .u64 0]) ?_ 2 _ rfl; (with_reducible repeat (first | refine blk_drewN ?_ _ | refine blk_drew ?_ | refine blk_alloc ?_ _)); refine blk_put (cs := #[.bool a0_0, .int .u64 0, .int .u64 0]) ?_ 1 _ rfl; (with_reducible repeat (first | refine blk_drewN ?_ _ | refine blk_drew ?_ | refine blk_alloc ?_ _)); refine blk_put (cs := #[.bool false, .int .u64 0, .int .u64 0]) ?_ 0 _ rfl; (with_reducible repeat (first | refine blk_drewN ?_ _ | refine blk_drew ?_ | refine blk_alloc ?_ _)); exact BK174.out) Try.underlying140 rfl kf) rfl ?_
     exact ⟨by first | rfl | (simp [errW_none, errW_some] <;> rfl) | (simp only [← hji37, ← hji39, ← hji41, ← hji42, ← hji44]; first | rfl | (simp [errW_none, errW_some] <;> rfl)) | (simp [*, errW_none, errW_some] <;> rfl), bz2 GE173 GE174⟩
    ·rw [if_neg c43] at H
     exact absurd H (by simp)
   ·rw [if_neg c38] at H
    exact absurd H (by simp)
def impl_wide_isZero.f (a0_0 : Bool) (a0_1 : Int) (a0_2 : Int) : Option (Bool) := if a0_1 = 0 then (some (a0_2 == 0)) else (some false)
set_option maxHeartbeats 8000000 in
set_option maxRecDepth 100000 in
theorem impl_wide_isZero.calls (a0_0 : Bool) (a0_1 : Int) (a0_2 : Int) (r : Bool) (w : World) (h : impl_wide_isZero.f a0_0 a0_1 a0_2 = some r) :
 Calls Try.prog 143 #[.agg #[.bool a0_0, .int .u64 a0_1, .int .u64 a0_2]] w fun e w' => e = .returned (.bool r) ∧ Below w.heap.size w w' := by
 have hu140 := Try.underlying140
 have HB := Aside0.mk (Below.refl w.heap.size w)
 have H : (if a0_1 = 0 then (some (a0_2 == 0)) else (some false)) = some r := h
 clear h
 by_cases c2 : a0_1 = 0
 ·rw [if_pos c2] at H
  have c2b0 : (a0_1 == 0) = true := beq_iff_eq.mpr c2
  have c2b1 : (a0_1 != 0) = false := bne_eq_false_iff_eq.mpr c2
  clear c2
  obtain rfl := Option.some.inj H
  go_enter Try.func143, Try.ntmps143
  go_wp2_with (first | ((with_reducible refine gate_dst (N := 1) rfl ?_); refine bv (N := 1) (cs := #[.bool a0_0, .int .u64 a0_1, .int .u64 a0_2]) (t := 140) ?_; intro gb175 hg w3 hbox hb; have n0_ := Aside0.mk (below_step bz hb); have n1_ := Aside0.mk (hbox); have n2_ := (gz hg : Aside0 (w.heap.size ≤ _)); have n3_ := (gz hg : Aside0 (w.heap.size ≤ _)); clear HB; have HB := n0_; have BK175 := n1_; have GW175 := n2_; have GE175 := n3_; clear n0_ n1_ n2_ n3_; clear hb hbox hg; have hcz4_0 : w3.cell? ⟨gb175, 0, none⟩ = some (.bool a0_0) := (blk_cell BK175.out 0).trans rfl; have hcz4_1 : w3.cell? ⟨gb175, 1, none⟩ = some (.int .u64 a0_1) := (blk_cell BK175.out 1).trans rfl; have hcz4_2 : w3.cell? ⟨gb175, 2, none⟩ = some (.int .u64 a0_2) := (blk_cell BK175.out 2).trans rfl; have hfz4_0 := blk_frozen BK175.out 0; have hfz4_1 := blk_frozen BK175.out 1; have hfz4_2 := blk_frozen BK175.out 2))
  go_ret
  exact ⟨er, bz1 GE175⟩
 ·rw [if_neg c2] at H
  have c2b0 : (a0_1 == 0) = false := beq_eq_false_iff_ne.mpr c2
  have c2b1 : (a0_1 != 0) = true := bne_iff_ne.mpr c2
  obtain rfl := Option.some.inj H
  go_enter Try.func143, Try.ntmps143
  go_wp2_with (first | ((with_reducible refine gate_dst (N := 1) rfl ?_); refine bv (N := 1) (cs := #[.bool a0_0, .int .u64 a0_1, .int .u64 a0_2]) (t := 140) ?_; intro gb175 hg w5 hbox hb; have n0_ := Aside0.mk (below_step bz hb); have n1_ := Aside0.mk (hbox); have n2_ := (gz hg : Aside0 (w.heap.size ≤ _)); have n3_ := (gz hg : Aside0 (w.heap.size ≤ _)); clear HB; have HB := n0_; have BK175 := n1_; have GW175 := n2_; have GE175 := n3_; clear n0_ n1_ n2_ n3_; clear hb hbox hg; have hcz6_0 : w5.cell? ⟨gb175, 0, none⟩ = some (.bool a0_0) := (blk_cell BK175.out 0).trans rfl; have hcz6_1 : w5.cell? ⟨gb175, 1, none⟩ = some (.int .u64 a0_1) := (blk_cell BK175.out 1).trans rfl; have hcz6_2 : w5.cell? ⟨gb175, 2, none⟩ = some (.int .u64 a0_2) := (blk_cell BK175.out 2).trans rfl; have hfz6_0 := blk_frozen BK175.out 0; have hfz6_1 := blk_frozen BK175.out 1; have hfz6_2 := blk_frozen BK175.out 2))
  go_ret
  exact ⟨er, bz1 GE175⟩
mutual
def impl_wide_fit.j1 : Nat → Int → Bool → Int → Int → Option (Int × Int × Bool)
 | 0, _, _, _, _ => none
 | k + 1, x1, x177000, x177001, x177002 => if x1 > 24 then (impl_wide_fit.j2 k x1 true x177000 x177001 x177002) else (if x177001 > 0 then (impl_wide_fit.j2 k x1 true x177000 x177001 x177002) else (impl_wide_fit.j2 k x1 (decide (x177002 > 1099511627776)) x177000 x177001 x177002))
def impl_wide_fit.j2 : Nat → Int → Bool → Bool → Int → Int → Option (Int × Int × Bool)
 | 0, _, _, _, _, _ => none
 | k + 1, x1, x33, x177000, x177001, x177002 => if x33 = true then (some (0, 0, false)) else (if x177000 = true then (some (wrap64 (-(wrap64 (x177002))), x1, true)) else (some (wrap64 (x177002), x1, true)))
def impl_wide_fit.l0 : Nat → Int → Bool → Int → Int → Option (Int × Int × Bool)
 | 0, _, _, _, _ => none
 | k + 1, x1, x177000, x177001, x177002 => if x1 > 0 then (if (Int.tmod x177002 2) = 0 then ((impl_wide_shift.f x177000 x177001 x177002 (-1)).bind fun bt179 => (impl_wide_fit.l0 k (wrap64 (x1 - 1)) bt179.1 bt179.2.1 bt179.2.2)) else (impl_wide_fit.j1 k x1 x177000 x177001 x177002)) else (impl_wide_fit.j1 k x1 x177000 x177001 x177002)
end
def impl_wide_fit.f (k : Nat) (a0_0 : Bool) (a0_1 : Int) (a0_2 : Int) (a1 : Int) : Option (Int × Int × Bool) := (impl_wide_isZero.f a0_0 a0_1 a0_2).bind fun t178 => (if t178 = true then (some (0, 0, true)) else (impl_wide_fit.l0 k a1 a0_0 a0_1 a0_2))
set_option maxHeartbeats 8000000 in
set_option maxRecDepth 100000 in
theorem impl_wide_fit.calls (k : Nat) (a0_0 : Bool) (a0_1 : Int) (a0_2 : Int) (a1 : Int) (r1 : Int) (r2 : Int) (r3 : Bool) (w : World) (h : impl_wide_fit.f k a0_0 a0_1 a0_2 a1 = some (r1, r2, r3)) :
 Calls Try.prog 131 #[.agg #[.bool a0_0, .int .u64 a0_1, .int .u64 a0_2], .int .i64 a1] w fun e w' => e = .returned (.tuple #[.agg #[.int .i64 r1, .int .i64 r2], .bool r3]) ∧ Below w.heap.size w w' := by
 have hu140 := Try.underlying140
 have hu44 := Try.underlying44
 have HB := Aside0.mk (Below.refl w.heap.size w)
 have H : ((impl_wide_isZero.f a0_0 a0_1 a0_2).bind fun t178 => (if t178 = true then (some (0, 0, true)) else (impl_wide_fit.l0 k a1 a0_0 a0_1 a0_2))) = some (r1, r2, r3) := h
 clear h
 obtain ⟨t178, A3, H⟩ := bi H
 by_cases c4 : t178 = true
 ·subst c4
  rw [if_pos rfl] at H
  simp only [Option.some.injEq, Prod.mk.injEq] at H
  obtain ⟨rfl, rfl, rfl⟩ := H
  go_enter Try.func131, Try.ntmps131
  go_wp2_with (first | ((with_reducible refine gate_dst (N := 2) rfl ?_); refine bv (N := 2) (cs := #[.bool a0_0, .int .u64 a0_1, .int .u64 a0_2]) (t := 140) ?_; intro gb176 hg w5 hbox hb; have n0_ := Aside0.mk (below_step bz hb); have n1_ := Aside0.mk (hbox); have n2_ := (gz hg : Aside0 (w.heap.size ≤ _)); have n3_ := (gz hg : Aside0 (w.heap.size ≤ _)); clear HB; have HB := n0_; have BK176 := n1_; have GW176 := n2_; have GE176 := n3_; clear n0_ n1_ n2_ n3_; clear hb hbox hg) | ((with_reducible refine gate_dst (N := 4) rfl ?_); refine bv (N := 4) (cs := #[.int .i64 0, .int .i64 0]) (t := 44) ?_; intro gb177 hg w6 hbox hb; have n0_ := bb BK176 hb; have n1_ := Aside0.mk (below_step (bz1 GE176) hb); have n2_ := Aside0.mk (hbox); have n3_ := Aside0.mk ((by rw [hg]; exact (below_size (bz1 GE176)) : w.heap.size ≤ gb177)); have n4_ := Aside0.mk ((by rw [hg]; exact (below_size (bz1 GE176)) : w.heap.size ≤ gb177)); have n5_ := Aside0.mk ((by rw [hg]; exact Nat.ne_of_lt (blk_lt (g := gb176) (o := .cells #[.bool a0_0, .int .u64 a0_1, .int .u64 a0_2] 140 (0, 0)) (bk BK176)) : gb176 ≠ gb177)); have n6_ := Aside0.mk ((by rw [hg]; exact Nat.ne_of_gt (blk_lt (g := gb176) (o := .cells #[.bool a0_0, .int .u64 a0_1, .int .u64 a0_2] 140 (0, 0)) (bk BK176)) : gb177 ≠ gb176)); clear BK176; clear HB; have BK176 := n0_; have HB := n1_; have BK177 := n2_; have GW177 := n3_; have GE177 := n4_; have NB176_177 := n5_; have NB177_176 := n6_; clear n0_ n1_ n2_ n3_ n4_ n5_ n6_; clear hb hbox hg; have hnb7 := NB176_177.out; have hnc7 := NB177_176.out; have hcz8_0 : w6.cell? ⟨gb176, 0, none⟩ = some (.bool a0_0) := (blk_cell BK176.out 0).trans rfl; have hcz8_1 : w6.cell? ⟨gb176, 1, none⟩ = some (.int .u64 a0_1) := (blk_cell BK176.out 1).trans rfl; have hcz8_2 : w6.cell? ⟨gb176, 2, none⟩ = some (.int .u64 a0_2) := (blk_cell BK176.out 2).trans rfl; have hfz8_0 := blk_frozen BK176.out 0; have hfz8_1 := blk_frozen BK176.out 1; have hfz8_2 := blk_frozen BK176.out 2) | ((with_reducible refine gate_callee (f := 143) rfl ?_); refine goesL_ (some 8) rfl rfl Try.func143 kf rfl #[.agg #[.bool a0_0, .int .u64 a0_1, .int .u64 a0_2]] rfl sm ?_; (with_reducible refine (impl_wide_isZero.calls a0_0 a0_1 a0_2 true _ A3.out).mono ?_); rintro e w9 ⟨rfl, hb⟩; refine ⟨_, rfl, ?_⟩; have n0_ := bb BK176 hb; have n1_ := bb BK177 hb; have n2_ := Aside0.mk (below_step (bz2 GE176 GE177) hb); clear BK176; clear BK177; clear HB; have BK176 := n0_; have BK177 := n1_; have HB := n2_; clear n0_ n1_ n2_; (try clear hb); (try clear hb2); (try clear hk); (try clear hi); have hcz10_0 : w9.cell? ⟨gb177, 0, none⟩ = some (.int .i64 0) := (blk_cell BK177.out 0).trans rfl; have hcz10_1 : w9.cell? ⟨gb177, 1, none⟩ = some (.int .i64 0) := (blk_cell BK177.out 1).trans rfl; have hfz10_0 := blk_frozen BK177.out 0; have hfz10_1 := blk_frozen BK177.out 1))
  refine bodyPost_ret (results_ct rfl _ _ gb177 44 #[.int .i64 0, .int .i64 0] (0, 0) _ rfl (by (with_reducible repeat (first | refine blk_drewN ?_ _ | refine blk_drew ?_ | refine blk_alloc ?_ _)); refine blk_put (cs := #[.int .i64 0, .int .i64 0]) ?_ 1 _ rfl; (with_reducible repeat (first | refine blk_drewN ?_ _ | refine blk_drew ?_ | refine blk_alloc ?_ _)); refine blk_put (cs := #[.int .i64 0, .int .i64 0]) ?_ 0 _ rfl; (with_reducible repeat (first | refine blk_drewN ?_ _ | refine blk_drew ?_ | refine blk_alloc ?_ _)); exact BK177.out) Try.underlying44 rfl kf) rfl ?_
  exact ⟨er, bz2 GE176 GE177⟩
 ·replace c4 := Bool.eq_false_iff.mpr c4
  subst c4
  rw [if_neg (show ¬ (false = true) by decide)] at H
  have HC11 := Aside0.mk H
  clear H
  go_enter Try.func131, Try.ntmps131
  go_upto_block 0 with (first | ((with_reducible refine gate_dst (N := 2) rfl ?_); refine bv (N := 2) (cs := #[.bool a0_0, .int .u64 a0_1, .int .u64 a0_2]) (t := 140) ?_; intro gb176 hg w12 hbox hb; have n0_ := Aside0.mk (below_step bz hb); have n1_ := Aside0.mk (hbox); have n2_ := (gz hg : Aside0 (w.heap.size ≤ _)); have n3_ := (gz hg : Aside0 (w.heap.size ≤ _)); clear HB; have HB := n0_; have BK176 := n1_; have GW176 := n2_; have GE176 := n3_; clear n0_ n1_ n2_ n3_; clear hb hbox hg) | ((with_reducible refine gate_dst (N := 4) rfl ?_); refine bv (N := 4) (cs := #[.int .i64 0, .int .i64 0]) (t := 44) ?_; intro gb177 hg w13 hbox hb; have n0_ := bb BK176 hb; have n1_ := Aside0.mk (below_step (bz1 GE176) hb); have n2_ := Aside0.mk (hbox); have n3_ := Aside0.mk ((by rw [hg]; exact (below_size (bz1 GE176)) : w.heap.size ≤ gb177)); have n4_ := Aside0.mk ((by rw [hg]; exact (below_size (bz1 GE176)) : w.heap.size ≤ gb177)); have n5_ := Aside0.mk ((by rw [hg]; exact Nat.ne_of_lt (blk_lt (g := gb176) (o := .cells #[.bool a0_0, .int .u64 a0_1, .int .u64 a0_2] 140 (0, 0)) (bk BK176)) : gb176 ≠ gb177)); have n6_ := Aside0.mk ((by rw [hg]; exact Nat.ne_of_gt (blk_lt (g := gb176) (o := .cells #[.bool a0_0, .int .u64 a0_1, .int .u64 a0_2] 140 (0, 0)) (bk BK176)) : gb177 ≠ gb176)); clear BK176; clear HB; have BK176 := n0_; have HB := n1_; have BK177 := n2_; have GW177 := n3_; have GE177 := n4_; have NB176_177 := n5_; have NB177_176 := n6_; clear n0_ n1_ n2_ n3_ n4_ n5_ n6_; clear hb hbox hg; have hnb14 := NB176_177.out; have hnc14 := NB177_176.out; have hcz15_0 : w13.cell? ⟨gb176, 0, none⟩ = some (.bool a0_0) := (blk_cell BK176.out 0).trans rfl; have hcz15_1 : w13.cell? ⟨gb176, 1, none⟩ = some (.int .u64 a0_1) := (blk_cell BK176.out 1).trans rfl; have hcz15_2 : w13.cell? ⟨gb176, 2, none⟩ = some (.int .u64 a0_2) := (blk_cell BK176.out 2).trans rfl; have hfz15_0 := blk_frozen BK176.out 0; have hfz15_1 := blk_frozen BK176.out 1; have hfz15_2 := blk_frozen BK176.out 2) | ((with_reducible refine gate_callee (f := 143) rfl ?_); refine goesL_ (some 8) rfl rfl Try.func143 kf rfl #[.agg #[.bool a0_0, .int .u64 a0_1, .int .u64 a0_2]] rfl sm ?_; (with_reducible refine (impl_wide_isZero.calls a0_0 a0_1 a0_2 false _ A3.out).mono ?_); rintro e w16 ⟨rfl, hb⟩; refine ⟨_, rfl, ?_⟩; have n0_ := bb BK176 hb; have n1_ := bb BK177 hb; have n2_ := Aside0.mk (below_step (bz2 GE176 GE177) hb); clear BK176; clear BK177; clear HB; have BK176 := n0_; have BK177 := n1_; have HB := n2_; clear n0_ n1_ n2_; (try clear hb); (try clear hb2); (try clear hk); (try clear hi)))
  (try simp only [Act.put, List.setIfInBounds_toArray, List.set_cons_zero, List.set_cons_succ])
  go_cut [1] (fun v1 wc => ∃ (kq : Nat) (x1_10 : Int) (x177000_10 : Bool) (x177001_10 : Int) (x177002_10 : Int), v1 = .int .i64 x1_10 ∧ Aside0 (impl_wide_fit.j1 kq x1_10 x177000_10 x177001_10 x177002_10 = some (r1, r2, r3)) ∧ Aside0 (kq ≤ k) ∧ Aside0 (wc.heap[gb176]? = some (.cells #[.bool x177000_10, .int .u64 x177001_10, .int .u64 x177002_10] 140 (0, 0))) ∧ Aside0 (wc.heap[gb177]? = some (.cells #[.int .i64 0, .int .i64 0] 44 (0, 0))) ∧ Aside0 (Below w.heap.size w wc))
  case first =>
   have H := HC11.out
   clear HC11
   have H' := Aside0.mk H
   clear H
   go_wp2
   go_loopg [1] k (fun kq v1 w' => ∃ (x1_1 : Int) (x177000_1 : Bool) (x177001_1 : Int) (x177002_1 : Int), v1 = .int .i64 x1_1 ∧ Aside0 (impl_wide_fit.l0 kq x1_1 x177000_1 x177001_1 x177002_1 = some (r1, r2, r3)) ∧ Aside0 (kq ≤ k) ∧ Aside0 (w'.heap[gb176]? = some (.cells #[.bool x177000_1, .int .u64 x177001_1, .int .u64 x177002_1] 140 (0, 0))) ∧ Aside0 (w'.heap[gb177]? = some (.cells #[.int .i64 0, .int .i64 0] 44 (0, 0))) ∧ Aside0 (Below w.heap.size w w'))
   case atStart => exact ⟨(a1), (a0_0), (a0_1), (a0_2), sr, H', ⟨Nat.le_refl _⟩, ⟨bk BK176⟩, ⟨bk BK177⟩, ⟨bz2 GE176 GE177⟩⟩
   case round =>
    clear H'
    try clear c1; try clear p2; try clear c4; try clear c7; try clear c13; try clear c14; try clear hcz10_0; try clear hcz10_1; try clear hcz15_0; try clear hcz15_1; try clear hcz15_2; try clear hcz8_0; try clear hcz8_1; try clear hcz8_2; try clear hfz10_0; try clear hfz10_1; try clear hfz15_0; try clear hfz15_1; try clear hfz15_2; try clear hfz8_0; try clear hfz8_1; try clear hfz8_2
    obtain ⟨x1_1, x177000_1, x177001_1, x177002_1, rfl, HA, HK1, BK176, BK177, HB⟩ := hrel
    cases gk with
    | zero => exact absurd HA.out (by simp [impl_wide_fit.l0])
    | succ k1 =>
     have H := HA.out
     clear HA
     simp only [impl_wide_fit.l0] at H
     by_cases c17 : x1_1 > 0
     ·rw [if_pos c17] at H
      have c17b0 : decide (0 < x1_1) = true := decide_eq_true c17
      clear c17
      (first | rw [c17b0] | (simp only [i64_w, i32_w]; rw [c17b0]) | skip)
      by_cases c18 : (Int.tmod x177002_1 2) = 0
      ·rw [if_pos c18] at H
       have c18b0 : ((Int.tmod x177002_1 2) == 0) = true := beq_iff_eq.mpr c18
       have c18b1 : ((Int.tmod x177002_1 2) != 0) = false := bne_eq_false_iff_eq.mpr c18
       clear c18
       obtain ⟨⟨t179, t180, t181⟩, A19, H⟩ := bi H
       try dsimp only at H
       have H' := Aside0.mk H
       clear H
       have hnb20 := NB176_177.out
       have hnc20 := NB177_176.out
       have hcz21_0 : wr.cell? ⟨gb176, 0, none⟩ = some (.bool x177000_1) := (blk_cell BK176.out 0).trans rfl
       have hcz21_1 : wr.cell? ⟨gb176, 1, none⟩ = some (.int .u64 x177001_1) := (blk_cell BK176.out 1).trans rfl
       have hcz21_2 : wr.cell? ⟨gb176, 2, none⟩ = some (.int .u64 x177002_1) := (blk_cell BK176.out 2).trans rfl
       have hfz21_0 := blk_frozen BK176.out 0
       have hfz21_1 := blk_frozen BK176.out 1
       have hfz21_2 := blk_frozen BK176.out 2
       go_wp2_with (first | ((with_reducible refine gate_callee (f := 129) rfl ?_); refine goesL_ (some 19) rfl rfl Try.func129 kf rfl #[.agg #[.bool x177000_1, .int .u64 x177001_1, .int .u64 x177002_1], .int .i64 (-1)] rfl sm ?_; (with_reducible refine (impl_wide_shift.calls x177000_1 x177001_1 x177002_1 (-1) t179 t180 t181 _ A19.out).mono ?_); rintro e w22 ⟨rfl, hb⟩; refine ⟨_, rfl, ?_⟩; have n0_ := bb BK176 hb; have n1_ := bb BK177 hb; have n2_ := Aside0.mk (below_step (bz2 GE176 GE177) hb); clear BK176; clear BK177; clear HB; have BK176 := n0_; have BK177 := n1_; have HB := n2_; clear n0_ n1_ n2_; (try clear hb); (try clear hb2); (try clear hk); (try clear hi); have hcz23_0 : w22.cell? ⟨gb176, 0, none⟩ = some (.bool x177000_1) := (blk_cell BK176.out 0).trans rfl; have hcz23_1 : w22.cell? ⟨gb176, 1, none⟩ = some (.int .u64 x177001_1) := (blk_cell BK176.out 1).trans rfl; have hcz23_2 : w22.cell? ⟨gb176, 2, none⟩ = some (.int .u64 x177002_1) := (blk_cell BK176.out 2).trans rfl; have hfz23_0 := blk_frozen BK176.out 0; have hfz23_1 := blk_frozen BK176.out 1; have hfz23_2 := blk_frozen BK176.out 2))
       go_roundg k1
       case measure => have := HK1.out; omega
       case rel => exact ⟨(wrap64 (x1_1 - 1)), (t179), (t180), (t181), sr, H', ⟨by have := HK1.out; omega⟩, ⟨by (with_reducible repeat (first | refine blk_drewN ?_ _ | refine blk_drew ?_ | refine blk_alloc ?_ _)); refine blk_put (cs := #[.bool t179, .int .u64 t180, .int .u64 x177002_1]) ?_ 2 _ rfl; (with_reducible repeat (first | refine blk_drewN ?_ _ | refine blk_drew ?_ | refine blk_alloc ?_ _)); refine blk_put (cs := #[.bool t179, .int .u64 x177001_1, .int .u64 x177002_1]) ?_ 1 _ rfl; (with_reducible repeat (first | refine blk_drewN ?_ _ | refine blk_drew ?_ | refine blk_alloc ?_ _)); refine blk_put (cs := #[.bool x177000_1, .int .u64 x177001_1, .int .u64 x177002_1]) ?_ 0 _ rfl; (with_reducible repeat (first | refine blk_drewN ?_ _ | refine blk_drew ?_ | refine blk_alloc ?_ _)); exact BK176.out⟩, ⟨by (with_reducible repeat (first | refine blk_drewN ?_ _ | refine blk_drew ?_ | refine blk_alloc ?_ _)); refine blk_far ?_ NB177_176.out _; (with_reducible repeat (first | refine blk_drewN ?_ _ | refine blk_drew ?_ | refine blk_alloc ?_ _)); refine blk_far ?_ NB177_176.out _; (with_reducible repeat (first | refine blk_drewN ?_ _ | refine blk_drew ?_ | refine blk_alloc ?_ _)); refine blk_far ?_ NB177_176.out _; (with_reducible repeat (first | refine blk_drewN ?_ _ | refine blk_drew ?_ | refine blk_alloc ?_ _)); exact BK177.out⟩, ⟨bz2 GE176 GE177⟩⟩
      ·rw [if_neg c18] at H
       have c18b0 : ((Int.tmod x177002_1 2) == 0) = false := beq_eq_false_iff_ne.mpr c18
       have c18b1 : ((Int.tmod x177002_1 2) != 0) = true := bne_iff_ne.mpr c18
       have H' := Aside0.mk H
       clear H
       have hnb24 := NB176_177.out
       have hnc24 := NB177_176.out
       have hcz25_0 : wr.cell? ⟨gb176, 0, none⟩ = some (.bool x177000_1) := (blk_cell BK176.out 0).trans rfl
       have hcz25_1 : wr.cell? ⟨gb176, 1, none⟩ = some (.int .u64 x177001_1) := (blk_cell BK176.out 1).trans rfl
       have hcz25_2 : wr.cell? ⟨gb176, 2, none⟩ = some (.int .u64 x177002_1) := (blk_cell BK176.out 2).trans rfl
       have hfz25_0 := blk_frozen BK176.out 0
       have hfz25_1 := blk_frozen BK176.out 1
       have hfz25_2 := blk_frozen BK176.out 2
       go_wp2
       go_meet
       case rel => exact ⟨_, (x1_1), (x177000_1), (x177001_1), (x177002_1), sr, H', ⟨by have := HK1.out; first | omega | exact Nat.le_refl _⟩, ⟨bk BK176⟩, ⟨bk BK177⟩, ⟨bz2 GE176 GE177⟩⟩
     ·rw [if_neg c17] at H
      have c17b0 : decide (0 < x1_1) = false := decide_eq_false c17
      clear c17
      (first | rw [c17b0] | (simp only [i64_w, i32_w]; rw [c17b0]) | skip)
      have H' := Aside0.mk H
      clear H
      go_wp2
      go_meet
      case rel => exact ⟨_, (x1_1), (x177000_1), (x177001_1), (x177002_1), sr, H', ⟨by have := HK1.out; first | omega | exact Nat.le_refl _⟩, ⟨bk BK176⟩, ⟨bk BK177⟩, ⟨bz2 GE176 GE177⟩⟩
  case rest =>
   clear HC11
   try clear c1; try clear c2; try clear p2; try clear c4; try clear p6; try clear c7; try clear c12; try clear c13; try clear c14; try clear c17; try clear c17b0; try clear c18; try clear c18b0; try clear c18b1; try clear c20; try clear c24; try clear hcz10_0; try clear hcz10_1; try clear hcz15_0; try clear hcz15_1; try clear hcz15_2; try clear hcz21_0; try clear hcz21_1; try clear hcz21_2; try clear hcz23_0; try clear hcz23_1; try clear hcz23_2; try clear hcz25_0; try clear hcz25_1; try clear hcz25_2; try clear hcz8_0; try clear hcz8_1; try clear hcz8_2; try clear hfz10_0; try clear hfz10_1; try clear hfz15_0; try clear hfz15_1; try clear hfz15_2; try clear hfz21_0; try clear hfz21_1; try clear hfz21_2; try clear hfz23_0; try clear hfz23_1; try clear hfz23_2; try clear hfz25_0; try clear hfz25_1; try clear hfz25_2; try clear hfz8_0; try clear hfz8_1; try clear hfz8_2; try clear p2
   obtain ⟨kq, x1_10, x177000_10, x177001_10, x177002_10, rfl, HA, HJ10, BK176, BK177, HB⟩ := hcut
   cases kq with
   | zero => exact absurd HA.out (by simp [impl_wide_fit.j1])
   | succ kj10 =>
    have H := HA.out
    clear HA
    simp only [impl_wide_fit.j1] at H
    have HC26 := Aside0.mk H
    clear H
    go_upto_region 6 with (fail)
    go_cut [33] (fun v33 wc => ∃ (kq : Nat) (x33_25 : Bool), v33 = .bool x33_25 ∧ Aside0 (impl_wide_fit.j2 kq x1_10 x33_25 x177000_10 x177001_10 x177002_10 = some (r1, r2, r3)) ∧ Aside0 (kq ≤ kj10) ∧ Aside0 (wc.heap[gb176]? = some (.cells #[.bool x177000_10, .int .u64 x177001_10, .int .u64 x177002_10] 140 (0, 0))) ∧ Aside0 (wc.heap[gb177]? = some (.cells #[.int .i64 0, .int .i64 0] 44 (0, 0))) ∧ Aside0 (Below w.heap.size w wc))
    case first =>
     have H := HC26.out
     clear HC26
     by_cases c27 : x1_10 > 24
     ·rw [if_pos c27] at H
      have c27b0 : decide (24 < x1_10) = true := decide_eq_true c27
      clear c27
      (first | rw [c27b0] | (simp only [i64_w, i32_w]; rw [c27b0]) | skip)
      have H' := Aside0.mk H
      clear H
      go_wp2
      go_meet
      case rel => exact ⟨_, (true), sr, H', ⟨by have := HJ10.out; first | omega | exact Nat.le_refl _⟩, ⟨bk BK176⟩, ⟨bk BK177⟩, ⟨bz2 GE176 GE177⟩⟩
     ·rw [if_neg c27] at H
      have c27b0 : decide (24 < x1_10) = false := decide_eq_false c27
      clear c27
      (first | rw [c27b0] | (simp only [i64_w, i32_w]; rw [c27b0]) | skip)
      by_cases c28 : x177001_10 > 0
      ·rw [if_pos c28] at H
       have c28b0 : decide (0 < x177001_10) = true := decide_eq_true c28
       clear c28
       have H' := Aside0.mk H
       clear H
       have hnb29 := NB176_177.out
       have hnc29 := NB177_176.out
       have hcz30_0 : wc.cell? ⟨gb176, 0, none⟩ = some (.bool x177000_10) := (blk_cell BK176.out 0).trans rfl
       have hcz30_1 : wc.cell? ⟨gb176, 1, none⟩ = some (.int .u64 x177001_10) := (blk_cell BK176.out 1).trans rfl
       have hcz30_2 : wc.cell? ⟨gb176, 2, none⟩ = some (.int .u64 x177002_10) := (blk_cell BK176.out 2).trans rfl
       have hfz30_0 := blk_frozen BK176.out 0
       have hfz30_1 := blk_frozen BK176.out 1
       have hfz30_2 := blk_frozen BK176.out 2
       go_wp2
       go_meet
       case rel => exact ⟨_, (true), sr, H', ⟨by have := HJ10.out; first | omega | exact Nat.le_refl _⟩, ⟨bk BK176⟩, ⟨bk BK177⟩, ⟨bz2 GE176 GE177⟩⟩
      ·rw [if_neg c28] at H
       have c28b0 : decide (0 < x177001_10) = false := decide_eq_false c28
       clear c28
       have H' := Aside0.mk H
       clear H
       have hnb31 := NB176_177.out
       have hnc31 := NB177_176.out
       have hcz32_0 : wc.cell? ⟨gb176, 0, none⟩ = some (.bool x177000_10) := (blk_cell BK176.out 0).trans rfl
       have hcz32_1 : wc.cell? ⟨gb176, 1, none⟩ = some (.int .u64 x177001_10) := (blk_cell BK176.out 1).trans rfl
       have hcz32_2 : wc.cell? ⟨gb176, 2, none⟩ = some (.int .u64 x177002_10) := (blk_cell BK176.out 2).trans rfl
       have hfz32_0 := blk_frozen BK176.out 0
       have hfz32_1 := blk_frozen BK176.out 1
       have hfz32_2 := blk_frozen BK176.out 2
       go_wp2
       go_meet
       case rel => exact ⟨_, (decide (x177002_10 > 1099511627776)), sr, H', ⟨by have := HJ10.out; first | omega | exact Nat.le_refl _⟩, ⟨bk BK176⟩, ⟨bk BK177⟩, ⟨bz2 GE176 GE177⟩⟩
    case rest =>
     clear HC26
     try clear c1; try clear c2; try clear p2; try clear c3; try clear c4; try clear p6; try clear c7; try clear c12; try clear c13; try clear c14; try clear c17; try clear c17b0; try clear c18; try clear c18b0; try clear c18b1; try clear c20; try clear c24; try clear c27; try clear c27b0; try clear c28; try clear c28b0; try clear c29; try clear c31; try clear hcz10_0; try clear hcz10_1; try clear hcz15_0; try clear hcz15_1; try clear hcz15_2; try clear hcz21_0; try clear hcz21_1; try clear hcz21_2; try clear hcz23_0; try clear hcz23_1; try clear hcz23_2; try clear hcz25_0; try clear hcz25_1; try clear hcz25_2; try clear hcz30_0; try clear hcz30_1; try clear hcz30_2; try clear hcz32_0; try clear hcz32_1; try clear hcz32_2; try clear hcz8_0; try clear hcz8_1; try clear hcz8_2; try clear hfz10_0; try clear hfz10_1; try clear hfz15_0; try clear hfz15_1; try clear hfz15_2; try clear hfz21_0; try clear hfz21_1; try clear hfz21_2; try clear hfz23_0; try clear hfz23_1; try clear hfz23_2; try clear hfz25_0; try clear hfz25_1; try clear hfz25_2; try clear hfz30_0; try clear hfz30_1; try clear hfz30_2; try clear hfz32_0; try clear hfz32_1; try clear hfz32_2; try clear hfz8_0; try clear hfz8_1; try clear hfz8_2; try clear p2; try clear p6
     obtain ⟨kq, x33_25, rfl, HA, HJ25, BK176, BK177, HB⟩ := hcut
     cases kq with
     | zero => exact absurd HA.out (by simp [impl_wide_fit.j2])
     | succ kj25 =>
      have H := HA.out
      clear HA
      simp only [impl_wide_fit.j2] at H
      by_cases c33 : x33_25 = true
      ·subst c33
       rw [if_pos rfl] at H
       simp only [Option.some.injEq, Prod.mk.injEq] at H
       obtain ⟨rfl, rfl, rfl⟩ := H
       have hnb34 := NB177_176.out
       have hnc34 := NB176_177.out
       have hcz35_0 : wc.cell? ⟨gb177, 0, none⟩ = some (.int .i64 0) := (blk_cell BK177.out 0).trans rfl
       have hcz35_1 : wc.cell? ⟨gb177, 1, none⟩ = some (.int .i64 0) := (blk_cell BK177.out 1).trans rfl
       have hfz35_0 := blk_frozen BK177.out 0
       have hfz35_1 := blk_frozen BK177.out 1
       go_wp2
       refine bodyPost_ret (results_ct rfl _ _ gb177 44 #[.int .i64 0, .int .i64 0] (0, 0) _ rfl (by (with_reducible repeat (first | refine blk_drewN ?_ _ | refine blk_drew ?_ | refine blk_alloc ?_ _)); refine blk_put (cs := #[.int .i64 0, .int .i64 0]) ?_ 1 _ rfl; (with_reducible repeat (first | refine blk_drewN ?_ _ | refine blk_drew ?_ | refine blk_alloc ?_ _)); refine blk_put (cs := #[.int .i64 0, .int .i64 0]) ?_ 0 _ rfl; (with_reducible repeat (first | refine blk_drewN ?_ _ | refine blk_drew ?_ | refine blk_alloc ?_ _)); exact BK177.out) Try.underlying44 rfl kf) rfl ?_
       exact ⟨er, bz2 GE176 GE177⟩
      ·replace c33 := Bool.eq_false_iff.mpr c33
       subst c33
       rw [if_neg (show ¬ (false = true) by decide)] at H
       by_cases c36 : x177000_10 = true
       ·subst c36
        rw [if_pos rfl] at H
        simp only [Option.some.injEq, Prod.mk.injEq] at H
        obtain ⟨rfl, rfl, rfl⟩ := H
        have hnb37 := NB176_177.out
        have hnc37 := NB177_176.out
        have hcz38_0 : wc.cell? ⟨gb176, 0, none⟩ = some (.bool true) := (blk_cell BK176.out 0).trans rfl
        have hcz38_1 : wc.cell? ⟨gb176, 1, none⟩ = some (.int .u64 x177001_10) := (blk_cell BK176.out 1).trans rfl
        have hcz38_2 : wc.cell? ⟨gb176, 2, none⟩ = some (.int .u64 x177002_10) := (blk_cell BK176.out 2).trans rfl
        have hfz38_0 := blk_frozen BK176.out 0
        have hfz38_1 := blk_frozen BK176.out 1
        have hfz38_2 := blk_frozen BK176.out 2
        have hcz39_0 : wc.cell? ⟨gb177, 0, none⟩ = some (.int .i64 0) := (blk_cell BK177.out 0).trans rfl
        have hcz39_1 : wc.cell? ⟨gb177, 1, none⟩ = some (.int .i64 0) := (blk_cell BK177.out 1).trans rfl
        have hfz39_0 := blk_frozen BK177.out 0
        have hfz39_1 := blk_frozen BK177.out 1
        go_wp2
        refine bodyPost_ret (results_ct rfl _ _ gb177 44 #[.int .i64 (wrap64 (-(wrap64 (x177002_10)))), .int .i64 x1_10] (0, 0) _ rfl (by (with_reducible repeat (first | refine blk_drewN ?_ _ | refine blk_drew ?_ | refine blk_alloc ?_ _)); refine blk_put (cs := #[.int .i64 (wrap64 (-(wrap64 (x177002_10)))), .int .i64 0]) ?_ 1 _ rfl; (with_reducible repeat (first | refine blk_drewN ?_ _ | refine blk_drew ?_ | refine blk_alloc ?_ _)); refine blk_put (cs := #[.int .i64 0, .int .i64 0]) ?_ 0 _ rfl; (with_reducible repeat (first | refine blk_drewN ?_ _ | refine blk_drew ?_ | refine blk_alloc ?_ _)); exact BK177.out) Try.underlying44 rfl kf) rfl ?_
        exact ⟨er, bz2 GE176 GE177⟩
       ·replace c36 := Bool.eq_false_iff.mpr c36
        subst c36
        rw [if_neg (show ¬ (false = true) by decide)] at H
        simp only [Option.some.injEq, Prod.mk.injEq] at H
        obtain ⟨rfl, rfl, rfl⟩ := H
        have hnb40 := NB176_177.out
        have hnc40 := NB177_176.out
        have hcz41_0 : wc.cell? ⟨gb176, 0, none⟩ = some (.bool false) := (blk_cell BK176.out 0).trans rfl
        have hcz41_1 : wc.cell? ⟨gb176, 1, none⟩ = some (.int .u64 x177001_10) := (blk_cell BK176.out 1).trans rfl
        have hcz41_2 : wc.cell? ⟨gb176, 2, none⟩ = some (.int .u64 x177002_10) := (blk_cell BK176.out 2).trans rfl
        have hfz41_0 := blk_frozen BK176.out 0
        have hfz41_1 := blk_frozen BK176.out 1
        have hfz41_2 := blk_frozen BK176.out 2
        have hcz42_0 : wc.cell? ⟨gb177, 0, none⟩ = some (.int .i64 0) := (blk_cell BK177.out 0).trans rfl
        have hcz42_1 : wc.cell? ⟨gb177, 1, none⟩ = some (.int .i64 0) := (blk_cell BK177.out 1).trans rfl
        have hfz42_0 := blk_frozen BK177.out 0
        have hfz42_1 := blk_frozen BK177.out 1
        go_wp2
        refine bodyPost_ret (results_ct rfl _ _ gb177 44 #[.int .i64 (wrap64 (x177002_10)), .int .i64 x1_10] (0, 0) _ rfl (by (with_reducible repeat (first | refine blk_drewN ?_ _ | refine blk_drew ?_ | refine blk_alloc ?_ _)); refine blk_put (cs := #[.int .i64 (wrap64 (x177002_10)), .int .i64 0]) ?_ 1 _ rfl; (with_reducible repeat (first | refine blk_drewN ?_ _ | refine blk_drew ?_ | refine blk_alloc ?_ _)); refine blk_put (cs := #[.int .i64 0, .int .i64 0]) ?_ 0 _ rfl; (with_reducible repeat (first | refine blk_drewN ?_ _ | refine blk_drew ?_ | refine blk_alloc ?_ _)); exact BK177.out) Try.underlying44 rfl kf) rfl ?_
        exact ⟨er, bz2 GE176 GE177⟩
def impl_Box_dyadic.f (k : Nat) (s0_0 : Int) (s0_1 : List Int) (s0_2 : List Int) (a1 : Int) : Option (Int × Int × Int) := (impl_wideOf.f a1).bind fun bt183 => ((impl_wide_fit.f k bt183.1 bt183.2.1 bt183.2.2 s0_0).bind fun bt186 => (some (bt186.1, bt186.2.1, s0_0)))
def impl_Box_dyadic.T1 : Bool × List (List Nat × List Nat) := (true, [([], []), ([0], [0]), ([], []), ([2], [2]), ([3], [3]), ([4], [4]), ([1, 5, 1], [1, 5]), ([6], [6]), ([7], [7]), ([7], [7]), ([], []), ([10, 8, 6, 0, 1, 2, 3, 4, 5, 6, 7, 8, 10], [8, 10]), ([9, 11, 0, 1, 2, 3, 4, 5, 6, 7, 8, 9, 10, 11], [9])])
def impl_Box_dyadic.B1 : List Nat := [0, 1, 0, 4, 12, 28, 63, 127, 255, 255, 0, 1535, 4095]
theorem impl_Box_dyadic.tab1 : rtab .any (opsOf Try.f114 1) = impl_Box_dyadic.T1 := by kernel_rfl
theorem impl_Box_dyadic.bits1 : waitsOk impl_Box_dyadic.T1.2 impl_Box_dyadic.B1 = true := by kernel_rfl
end Go.Proofs.Ytalcohajbcijlaa.QHps
