import Derived.Test.YtcgcgifndkeeoaaZHasRootBetweenSq
import Derived.Test.YtcgcgifndkeeoaaZHasRootBetweenQStx2
import Derived.Test.YtcgcgifndkeeoaaZHasRootBetweenQStx16
import Derived.Test.YtcgcgifndkeeoaaZHasRootBetweenQStx17
namespace Go.Proofs.Ytcgcgifndkeeoaa.QSt
open Go.RowKit Go.Proofs.YtcgcgifndkeeoaaW.PrintWords Go.Proofs.YtcgcgifndkeeoaaW.PrintLast Go.Proofs.YtcgcgifndkeeoaaW.PrintMore
attribute [local go_sem] max2_int min2_int max_two min_two max_three min_three max_four min_four
set_option linter.unusedVariables false
set_option linter.unusedSimpArgs false
def impl_commonDivisor.l0 : Nat → List Int → List Int → Option (List Int × Bool)
 | 0, _, _ => none
 | k + 1, x0, x1 => if (x1.length : Int) > 0 then ((impl_remainder.f k x0 x1).bind fun bt529 => (if bt529.2 = true then (impl_commonDivisor.l0 k x1 bt529.1) else (some (([] : List Int), false)))) else ((impl_divided.f k x0).bind fun t533 => ((impl_withSign.f k t533).bind fun t536 => (some (t536, true))))
def impl_commonDivisor.f (k : Nat) (l0 : List Int) (l1 : List Int) : Option (List Int × Bool) := impl_commonDivisor.l0 k l0 l1
set_option maxHeartbeats 8000000 in
set_option maxRecDepth 100000 in
theorem impl_commonDivisor.calls (k : Nat) (P0_ : Nat → Prop) (A0 : Option Addr) (c0 : Nat) (l0 : List Int) (P1_ : Nat → Prop) (A1 : Option Addr) (c1 : Nat) (l1 : List Int) (r1 : List Int) (r2 : Bool) (w : World) (hs0 : Kd.V (Kd.int .i64) 3 w w.heap.size (fun k_ => P0_ k_) (.slice A0 l0.length c0) l0) (hs1 : Kd.V (Kd.int .i64) 3 w w.heap.size (fun k_ => P1_ k_) (.slice A1 l1.length c1) l1) (h : impl_commonDivisor.f k l0 l1 = some (r1, r2)) :
 Calls Try.prog 54 #[.slice A0 l0.length c0, .slice A1 l1.length c1] w fun e w' => ∃ v0_ : Value, e = .returned (.tuple #[v0_, .bool r2]) ∧ Kd.R (Kd.int .i64) 3 w' w.heap.size (fun k_ => (w.heap.size ≤ k_)) v0_ r1 ∧ Below w.heap.size w w' := by
 have HO0 := Aside0.mk (show Kd.V (Kd.int .i64) 3 w w.heap.size (fun k_ => ((P0_ k_ ∨ P1_ k_) ∨ w.heap.size ≤ k_)) (.slice A0 l0.length c0) l0 from Kd.V_mono hs0 (fun k_ hk => .inl (.inl hk)))
 have HO1 := Aside0.mk (show Kd.V (Kd.int .i64) 3 w w.heap.size (fun k_ => ((P0_ k_ ∨ P1_ k_) ∨ w.heap.size ≤ k_)) (.slice A1 l1.length c1) l1 from Kd.V_mono hs1 (fun k_ hk => .inl (.inr hk)))
 have HB := Aside0.mk (Below.refl w.heap.size w)
 have H : (impl_commonDivisor.l0 k l0 l1) = some (r1, r2) := h
 clear h
 have H' := Aside0.mk H
 clear H
 go_enter Try.func54, Try.ntmps54
 go_wp2
 go_loopg [0, 1] k (fun kq v0 v1 w' => ∃ (x0_1 : List Int) (x1_1 : List Int), Aside0 (impl_commonDivisor.l0 kq x0_1 x1_1 = some (r1, r2)) ∧ Aside0 (kq ≤ k) ∧ Aside0 (Kd.V (Kd.int .i64) 3 w' w.heap.size (fun k_ => ((P0_ k_ ∨ P1_ k_) ∨ w.heap.size ≤ k_)) v0 x0_1) ∧ Aside0 (Kd.V (Kd.int .i64) 3 w' w.heap.size (fun k_ => ((P0_ k_ ∨ P1_ k_) ∨ w.heap.size ≤ k_)) v1 x1_1) ∧ Aside0 (Below w.heap.size w w'))
 case atStart => exact ⟨(l0), (l1), H', ⟨Nat.le_refl _⟩, ⟨kv HO0⟩, ⟨kv HO1⟩, ⟨bz⟩⟩
 case round =>
  clear H'
  try clear c1; try clear p2
  obtain ⟨x0_1, x1_1, HA, HK1, HO_0, HO_1, HB⟩ := hrel
  cases gk with
  | zero => exact absurd HA.out (by simp [impl_commonDivisor.l0])
  | succ k1 =>
   have H := HA.out
   clear HA
   simp only [impl_commonDivisor.l0] at H
   by_cases c3 : (x1_1.length : Int) > 0
   ·rw [if_pos c3] at H
    have c3b0 : decide (0 < (x1_1.length : Int)) = true := decide_eq_true c3
    have c3b1 : decide (0 < x1_1.length) = true := decide_eq_true (by omega)
    clear c3
    obtain ⟨⟨t529, t530⟩, A4, H⟩ := bi H
    try dsimp only at H
    by_cases c5 : t530 = true
    ·subst c5
     rw [if_pos rfl] at H
     have H' := Aside0.mk H
     clear H
     obtain ⟨Ao6, co6, eo6⟩ := Kd.V_slice HO_1.out
     subst eo6
     obtain ⟨Ao7, co7, eo7⟩ := Kd.V_slice HO_0.out
     subst eo7
     go_wp2_with (first | ((with_reducible refine gate_callee (f := 91) rfl ?_); refine goesL_ (some 14) rfl rfl Try.func91 kf rfl #[.slice Ao7 x0_1.length co7, .slice Ao6 x1_1.length co6] rfl sm ?_; (with_reducible refine (impl_remainder.calls k1 _ _ x0_1 _ _ x1_1 t529 true _ ?side1 ?side2 ?side3 ?side4 A4.out).mono ?_); (case side1 => repeat (first | exact (Kd.V_reads' HO_0.out).2.2 | (with_reducible refine Kd.C_alloc ?_ _) | (with_reducible refine Kd.C_drewN ?_ _) | (with_reducible refine Kd.C_drew ?_))); (case side2 => exact (Kd.V_reads' HO_0.out).2.1); (case side3 => repeat (first | exact (Kd.V_reads' HO_1.out).2.2 | (with_reducible refine Kd.C_alloc ?_ _) | (with_reducible refine Kd.C_drewN ?_ _) | (with_reducible refine Kd.C_drew ?_))); (case side4 => exact (Kd.V_reads' HO_1.out).2.1); rintro e w8 ⟨v531, rfl, ho0, hb⟩; refine ⟨_, rfl, ?_⟩; have n0_ := Aside0.mk (Kd.V_elder' (kv HO_0) (Kd.R_base ho0) hb); have n1_ := Aside0.mk (Kd.V_elder' (kv HO_1) (Kd.R_base ho0) hb); have n2_ := Aside0.mk (Kd.R_lower (Kd.R_newM (M := fun k_ => (w.heap.size ≤ k_)) ho0 (below_size bz) (fun k_ h_ => h_)) (below_size bz)); have n3_ := Aside0.mk (below_step bz hb); clear HO_0; clear HO_1; clear HB; have HO_0 := n0_; have HO_1 := n1_; have HO532 := n2_; have HB := n3_; clear n0_ n1_ n2_ n3_; (try clear hb); (try clear hb2); (try clear hk); (try clear hi); (try clear ho0)))
     go_roundg k1
     case measure => have := HK1.out; omega
     case rel => exact ⟨(x1_1), (t529), H', ⟨by have := HK1.out; omega⟩, ⟨by (with_reducible repeat (first | apply Kd.V_alloc | apply Kd.V_drewN | apply Kd.V_drew)); exact Kd.V_mono HO_1.out (fun _ hk => hk.1)⟩, ⟨Kd.V_mono (Kd.R_V (by (with_reducible repeat (first | apply Kd.R_alloc | apply Kd.R_drewN | apply Kd.R_drew)); exact Kd.R_mono HO532.out (fun _ hk => hk.1))) (fun k_ hk => by first | exact ⟨(.inr (hk.1)), hk.2⟩ | exact (.inr (hk)))⟩, ⟨bz⟩⟩
    ·replace c5 := Bool.eq_false_iff.mpr c5
     subst c5
     rw [if_neg (show ¬ (false = true) by decide)] at H
     simp only [Option.some.injEq, Prod.mk.injEq] at H
     obtain ⟨rfl, rfl⟩ := H
     obtain ⟨Ao9, co9, eo9⟩ := Kd.V_slice HO_1.out
     subst eo9
     obtain ⟨Ao10, co10, eo10⟩ := Kd.V_slice HO_0.out
     subst eo10
     go_wp2_with (first | ((with_reducible refine gate_callee (f := 91) rfl ?_); refine goesL_ (some 14) rfl rfl Try.func91 kf rfl #[.slice Ao10 x0_1.length co10, .slice Ao9 x1_1.length co9] rfl sm ?_; (with_reducible refine (impl_remainder.calls k1 _ _ x0_1 _ _ x1_1 t529 false _ ?side1 ?side2 ?side3 ?side4 A4.out).mono ?_); (case side1 => repeat (first | exact (Kd.V_reads' HO_0.out).2.2 | (with_reducible refine Kd.C_alloc ?_ _) | (with_reducible refine Kd.C_drewN ?_ _) | (with_reducible refine Kd.C_drew ?_))); (case side2 => exact (Kd.V_reads' HO_0.out).2.1); (case side3 => repeat (first | exact (Kd.V_reads' HO_1.out).2.2 | (with_reducible refine Kd.C_alloc ?_ _) | (with_reducible refine Kd.C_drewN ?_ _) | (with_reducible refine Kd.C_drew ?_))); (case side4 => exact (Kd.V_reads' HO_1.out).2.1); rintro e w11 ⟨v531, rfl, ho0, hb⟩; refine ⟨_, rfl, ?_⟩; have n0_ := Aside0.mk (Kd.V_elder' (kv HO_0) (Kd.R_base ho0) hb); have n1_ := Aside0.mk (Kd.V_elder' (kv HO_1) (Kd.R_base ho0) hb); have n2_ := Aside0.mk (Kd.R_lower (Kd.R_newM (M := fun k_ => (w.heap.size ≤ k_)) ho0 (below_size bz) (fun k_ h_ => h_)) (below_size bz)); have n3_ := Aside0.mk (below_step bz hb); clear HO_0; clear HO_1; clear HB; have HO_0 := n0_; have HO_1 := n1_; have HO532 := n2_; have HB := n3_; clear n0_ n1_ n2_ n3_; (try clear hb); (try clear hb2); (try clear hk); (try clear hi); (try clear ho0)))
     go_ret2
     exact ⟨_, er, by first | exact Kd.R_nil _ _ _ _ _ | exact Kd.N_nil _ _ _ _ _ | exact Kd.V_nil _ _ _ _ _ | exact Kd.Q_nil _ _ _ _ _ | exact Kd.S_nil _ _ _ _ _, bz⟩
   ·rw [if_neg c3] at H
    have c3b0 : decide (0 < (x1_1.length : Int)) = false := decide_eq_false c3
    have c3b1 : decide (0 < x1_1.length) = false := decide_eq_false (by omega)
    clear c3
    obtain ⟨t533, A12, H⟩ := bi H
    obtain ⟨t536, A13, H⟩ := bi H
    simp only [Option.some.injEq, Prod.mk.injEq] at H
    obtain ⟨rfl, rfl⟩ := H
    obtain ⟨Ao14, co14, eo14⟩ := Kd.V_slice HO_1.out
    subst eo14
    obtain ⟨Ao15, co15, eo15⟩ := Kd.V_slice HO_0.out
    subst eo15
    go_wp2_with (first | ((with_reducible refine gate_callee (f := 93) rfl ?_); refine goesL_ (some 22) rfl rfl Try.func93 kf rfl #[.slice Ao15 x0_1.length co15] rfl sm ?_; (with_reducible refine (impl_divided.calls k1 _ _ x0_1 t533 _ ?side1 ?side2 A12.out).mono ?_); (case side1 => repeat (first | exact (Kd.V_reads' HO_0.out).2.2 | (with_reducible refine Kd.C_alloc ?_ _) | (with_reducible refine Kd.C_drewN ?_ _) | (with_reducible refine Kd.C_drew ?_))); (case side2 => exact (Kd.V_reads' HO_0.out).2.1); rintro e w16 ⟨v534, rfl, ho0, hb⟩; refine ⟨_, rfl, ?_⟩; have n0_ := Aside0.mk (Kd.V_elder' (kv HO_0) (Kd.R_base ho0) hb); have n1_ := Aside0.mk (Kd.V_elder' (kv HO_1) (Kd.R_base ho0) hb); have n2_ := Aside0.mk (Kd.R_lower (Kd.R_newM (M := fun k_ => (w.heap.size ≤ k_)) ho0 (below_size bz) (fun k_ h_ => h_)) (below_size bz)); have n3_ := Aside0.mk (below_step bz hb); clear HO_0; clear HO_1; clear HB; have HO_0 := n0_; have HO_1 := n1_; have HO535 := n2_; have HB := n3_; clear n0_ n1_ n2_ n3_; (try clear hb); (try clear hb2); (try clear hk); (try clear hi); (try clear ho0); obtain ⟨Ao17, co17, eo17⟩ := Kd.R_slice HO535.out; subst eo17) | ((with_reducible refine gate_callee (f := 92) rfl ?_); refine goesL_ (some 23) rfl rfl Try.func92 kf rfl #[.slice Ao17 t533.length co17] rfl sm ?_; (with_reducible refine (impl_withSign.calls k1 (fun k_ => some k_ = (.slice Ao17 t533.length co17 : Value).ownBlock) (.slice Ao17 t533.length co17) t533 t536 w _ ?side1 ?side2 A13.out).mono ?_); (case side1 => repeat (first | (with_reducible first | exact HB.out | apply below_alloc | apply pw_below_drewN | apply below_drew1) | exact HB.out)); (case side2 => exact Kd.R_tight rfl HO535.out); rintro e w18 ⟨v537, rfl, ho0, hb, hkp⟩; refine ⟨_, rfl, ?_⟩; have n0_ := Aside0.mk (Kd.V_mono (ok' := fun k_ => ((P0_ k_ ∨ P1_ k_) ∨ w.heap.size ≤ k_) ∧ some k_ ≠ (v537 : Value).ownBlock) (Kd.V_keptB (HO_0.out) hkp (fun k_ hk_ hs_ => (hk_.2) hs_)) (fun k_ hk_ => ⟨hk_.1.1, fun e_ => Or.elim (ho0.1 k_ e_.symm) (fun hs_ => hk_.2.1 hs_) (fun hn_ => Nat.not_le.2 hk_.2.2 hn_)⟩)); have n1_ := Aside0.mk (Kd.V_mono (ok' := fun k_ => ((P0_ k_ ∨ P1_ k_) ∨ w.heap.size ≤ k_) ∧ some k_ ≠ (v537 : Value).ownBlock) (Kd.V_keptB (HO_1.out) hkp (fun k_ hk_ hs_ => (hk_.2) hs_)) (fun k_ hk_ => ⟨hk_.1.1, fun e_ => Or.elim (ho0.1 k_ e_.symm) (fun hs_ => hk_.2.1 hs_) (fun hn_ => Nat.not_le.2 hk_.2.2 hn_)⟩)); have n2_ := Aside0.mk (Kd.R_mono (ok' := fun k_ => (w.heap.size ≤ k_)) ho0 (fun k_ hk_ => Or.elim hk_ (fun hs_ => (HO535.out.1 k_ (hs_).symm).1) (fun hn_ => (Nat.le_trans (below_size bz) hn_)))); have n3_ := Aside0.mk (hb); clear HO_0; clear HO_1; clear HB; clear HO535; have HO_0 := n0_; have HO_1 := n1_; have HO538 := n2_; have HB := n3_; clear n0_ n1_ n2_ n3_; (try clear hb); (try clear hkp); (try clear ho0)))
    go_ret2
    exact ⟨_, er, by (with_reducible repeat (first | apply Kd.R_alloc | apply Kd.R_drewN | apply Kd.R_drew)); exact HO538.out, bz⟩
def impl_deriveSingle.l0 : Nat → List Int → List Int → Int → Option (List Int)
 | 0, _, _, _ => none
 | k + 1, x0, x3, x4 => if x4 < (x0.length : Int) then (if 0 ≤ x4 then (if x3.length < 17592186044416 then (impl_deriveSingle.l0 k x0 (x3 ++ [wrap64 (x4 * (rd x0 x4))]) (wrap64 (x4 + 1))) else (none)) else (none)) else ((impl_stripped.f k x3).bind fun t543 => (some t543))
def impl_deriveSingle.f (k : Nat) (l0 : List Int) : Option (List Int) := impl_deriveSingle.l0 k l0 ([] : List Int) 1
set_option maxHeartbeats 8000000 in
set_option maxRecDepth 100000 in
theorem impl_deriveSingle.calls (k : Nat) (A0 : Option Addr) (c0 : Nat) (l0 : List Int) (r : List Int) (w : World) (hr0 : Kd.C (Kd.int .i64) w A0 l0.length l0) (hc0 : l0.length ≤ c0) (h : impl_deriveSingle.f k l0 = some r) :
 Calls Try.prog 96 #[.slice A0 l0.length c0] w fun e w' => ∃ v0_ : Value, e = .returned (v0_) ∧ Kd.R (Kd.int .i64) 3 w' w.heap.size (fun _ => True) v0_ r ∧ Below w.heap.size w w' := by
 have HR0 := Aside0.mk hr0
 have HC0 := Aside0.mk hc0
 clear hr0 hc0
 have HB := Aside0.mk (Below.refl w.heap.size w)
 have H : (impl_deriveSingle.l0 k l0 ([] : List Int) 1) = some r := h
 clear h
 have H' := Aside0.mk H
 clear H
 go_enter Try.func96, Try.ntmps96
 go_wp2
 go_loopg [3, 4] k (fun kq v3 v4 w' => ∃ (x3_1 : List Int) (x4_1 : Int), v4 = .int .i64 x4_1 ∧ Aside0 (impl_deriveSingle.l0 kq l0 x3_1 x4_1 = some r) ∧ Aside0 (kq ≤ k) ∧ Aside0 (Kd.R (Kd.int .i64) 3 w' w.heap.size (fun _ => True) v3 x3_1) ∧ Aside0 (Below w.heap.size w w'))
 case atStart => exact ⟨(([] : List Int)), (1), sr, H', ⟨Nat.le_refl _⟩, ⟨by first | exact Kd.R_nil _ _ _ _ _ | exact Kd.N_nil _ _ _ _ _ | exact Kd.V_nil _ _ _ _ _ | exact Kd.Q_nil _ _ _ _ _ | exact Kd.S_nil _ _ _ _ _⟩, ⟨bz⟩⟩
 case round =>
  clear H'
  obtain ⟨x3_1, x4_1, rfl, HA, HK1, HO_3, HB⟩ := hrel
  cases gk with
  | zero => exact absurd HA.out (by simp [impl_deriveSingle.l0])
  | succ k1 =>
   have H := HA.out
   clear HA
   simp only [impl_deriveSingle.l0] at H
   by_cases c2 : x4_1 < (l0.length : Int)
   ·rw [if_pos c2] at H
    have c2b0 : decide (x4_1 < (l0.length : Int)) = true := decide_eq_true c2
    clear c2
    by_cases c3 : 0 ≤ x4_1
    ·rw [if_pos c3] at H
     have c3b0 : decide (0 ≤ x4_1) = true := decide_eq_true c3
     clear c3
     by_cases c4 : x3_1.length < 17592186044416
     ·rw [if_pos c4] at H
      have LMc4 := Aside0.mk c4
      clear c4
      obtain ⟨y540, hy540⟩ : ∃ y_ : List Int, y_ = (x3_1 ++ [wrap64 (x4_1 * (rd l0 x4_1))]) := ⟨_, rfl⟩
      replace H : (impl_deriveSingle.l0 k1 l0 y540 (wrap64 (x4_1 + 1))) = some r := by first | (rw [hy540]; with_reducible exact H) | (have H2_ := (Option.bind_some _ _).symm.trans H; rw [hy540]; with_reducible exact H2_) | (have H2_ := (Option.bind_some _ _).symm.trans H; with_reducible exact H2_) | with_reducible exact H | (rw [hy540]; exact H) | exact H
      have Ny540 := Aside0.mk hy540
      clear hy540
      have H' := Aside0.mk H
      clear H
      have p539 : 0 ≤ (x4_1 : Int) := of_decide_eq_true am
      have q539 : x4_1 < (l0.length : Int) := of_decide_eq_true am
      obtain ⟨ad539, e539, hx539_0⟩ := Kd.at_int HR0.out x4_1 p539 q539
      cases e539
      replace hx539_0 := (HB.out.cell (World.block_lt_of_cell? w _ hx539_0)).trans hx539_0
      replace p539 := eq_true p539
      replace q539 := eq_true q539
      go_wp2_with (first | ((with_reducible refine gate_builtin (b := .append) (xs := #[.tmp 11, .tmp 18]) rfl ?_); at_builtin; refine Kd.R_append (Kd.int .i64) (w0 := w) w.heap.size rfl (.tmp 11) (.tmp 18) 22 3 (.int .i64 0) 8 rfl Try.underlying22 info3 rfl (by decide) (by omega) u3 x3_1 (wrap64 (x4_1 * (rd l0 x4_1))) [.int .i64 (wrap64 (x4_1 * (rd l0 x4_1)))] (fun _ => True) (fun _ => False) rfl rfl ?aP (fun _ hk => hk.elim) ?aF ?aO ?aB ?aS ?aL ?_; (case aP => exact rfl); (case aB => exact bz); (case aF => exact (fun _ _ => trivial)); (case aO => exact (kr HO_3)); (case aS => exact (below_size bz)); (case aL => have := LMc4.out; omega); intro v541 w5 ho hb hg hat; rw [← Ny540.out] at ho; have n0_ := Aside0.mk (hb); have n1_ := Aside0.mk (ho); clear HB; clear HO_3; have HB := n0_; have HO542 := n1_; clear n0_ n1_; clear ho hb hg hat))
      go_roundg k1
      case measure => have := HK1.out; omega
      case rel => exact ⟨(y540), (wrap64 (x4_1 + 1)), sr, H', ⟨by have := HK1.out; omega⟩, ⟨kr HO542⟩, ⟨bz⟩⟩
     ·rw [if_neg c4] at H
      exact absurd H (by simp)
    ·rw [if_neg c3] at H
     exact absurd H (by simp)
   ·rw [if_neg c2] at H
    have c2b0 : decide (x4_1 < (l0.length : Int)) = false := decide_eq_false c2
    clear c2
    obtain ⟨t543, A6, H⟩ := bi H
    obtain rfl := Option.some.inj H
    obtain ⟨Ao7, co7, eo7⟩ := Kd.R_slice HO_3.out
    subst eo7
    go_wp2_with (first | ((with_reducible refine gate_callee (f := 118) rfl ?_); refine goesL_ (some 21) rfl rfl Try.func118 kf rfl #[.slice Ao7 x3_1.length co7] rfl sm ?_; (with_reducible refine (impl_stripped.calls k1 (fun k_ => some k_ = (.slice Ao7 x3_1.length co7 : Value).ownBlock) _ _ x3_1 t543 _ ?side1 A6.out).mono ?_); (case side1 => exact Kd.R_V (Kd.R_tight rfl (HO_3.out))); rintro e w8 ⟨v544, rfl, ho0, hb⟩; refine ⟨_, rfl, ?_⟩; have n0_ := Aside0.mk (Kd.R_elder' (kr HO_3) (Kd.R_base ho0) hb); have n1_ := Aside0.mk (Kd.R_lower (Kd.R_new' (Kd.R_mono (ok' := fun k_ => True) ho0 (fun _ hk_ => trivial)) (Kd.R_lt (kr HO_3))) (below_size bz)); have n2_ := Aside0.mk (below_step bz hb); clear HO_3; clear HB; have HO_3 := n0_; have HO545 := n1_; have HB := n2_; clear n0_ n1_ n2_; (try clear hb); (try clear hb2); (try clear hk); (try clear hi); (try clear ho0)))
    go_ret
    exact ⟨_, er, by (with_reducible repeat (first | apply Kd.R_alloc | apply Kd.R_drewN | apply Kd.R_drew)); exact Kd.R_mono HO545.out (fun _ hk => trivial), bz⟩
mutual
def impl_quotient.l0 : Nat → List Int → List Int → Int → List Int → Int → Option (List Int × Bool)
 | 0, _, _, _, _, _ => none
 | k + 1, x1, x6, x7, x8, x9 => if x9 ≥ 0 then (if 0 ≤ (wrap64 ((wrap64 (x9 + (x1.length : Int))) - 1)) then (if (wrap64 ((wrap64 (x9 + (x1.length : Int))) - 1)) < (x6.length : Int) then (if x7 = 0 then (none) else (if (Int.tmod (rd x6 (wrap64 ((wrap64 (x9 + (x1.length : Int))) - 1))) x7) = 0 then (if 0 ≤ x9 then (if x9 < (x8.length : Int) then (impl_quotient.l1 k x1 x6 x7 (x8.set (x9 : Int).toNat (wrap64 (Int.tdiv (rd x6 (wrap64 ((wrap64 (x9 + (x1.length : Int))) - 1))) x7))) x9 x1 (x1.length : Int) 0) else (none)) else (none)) else (some (([] : List Int), false)))) else (none)) else (none)) else ((impl_stripped.f k x6).bind fun t559 => (if (t559.length : Int) > 0 then (some (([] : List Int), false)) else ((impl_stripped.f k x8).bind fun t562 => (some (t562, true)))))
def impl_quotient.l1 : Nat → List Int → List Int → Int → List Int → Int → List Int → Int → Int → Option (List Int × Bool)
 | 0, _, _, _, _, _, _, _, _ => none
 | k + 1, x1, x6, x7, x8, x9, x54, x55, x56 => if x56 < x55 then (if 0 ≤ x56 then (if x56 < (x54.length : Int) then (if 0 ≤ (wrap64 (x9 + x56)) then (if (wrap64 (x9 + x56)) < (x6.length : Int) then (if 0 ≤ x9 then (if x9 < (x8.length : Int) then (impl_quotient.l1 k x1 (x6.set ((wrap64 (x9 + x56)) : Int).toNat (wrap64 ((rd x6 (wrap64 (x9 + x56))) - (wrap64 ((rd x8 x9) * (rd x54 x56)))))) x7 x8 x9 x54 x55 (wrap64 (x56 + 1))) else (none)) else (none)) else (none)) else (none)) else (none)) else (none)) else (impl_quotient.l0 k x1 x6 x7 x8 (wrap64 (x9 - 1)))
end
def impl_quotient.f (k : Nat) (l0 : List Int) (l1 : List Int) : Option (List Int × Bool) := (slices_Clone_int_int.f l0).bind fun t546 => (if 0 ≤ (wrap64 ((l1.length : Int) - 1)) then (if (wrap64 ((l1.length : Int) - 1)) < (l1.length : Int) then (if 0 ≤ (mx (wrap64 ((wrap64 ((l0.length : Int) - (l1.length : Int))) + 1)) 0) then (if (mx (wrap64 ((wrap64 ((l0.length : Int) - (l1.length : Int))) + 1)) 0 : Int).toNat ≤ 35184372088832 then ((some (List.replicate (mx (wrap64 ((wrap64 ((l0.length : Int) - (l1.length : Int))) + 1)) 0 : Int).toNat 0 : List Int)).bind fun y550 => (impl_quotient.l0 k l1 t546 (rd l1 (wrap64 ((l1.length : Int) - 1))) y550 (wrap64 ((y550.length : Int) - 1)))) else (none)) else (none)) else (none)) else (none))
def impl_quotient.T14 : Bool × List (List Nat × List Nat) := (true, [([], []), ([], []), ([], []), ([1, 2], [1, 2]), ([0, 3], [0, 3]), ([4], [4]), ([], []), ([], []), ([6, 7], [6, 7]), ([8], [8]), ([], []), ([9, 10], [9, 10]), ([5, 11], [5, 11]), ([0, 3, 0, 1, 2, 3, 4, 5, 6, 7, 8, 9, 10, 11, 12], [0, 3]), ([13, 12, 0, 1, 2, 3, 4, 5, 6, 7, 8, 9, 10, 11, 12], [12, 13])])
def impl_quotient.B14 : List Nat := [0, 0, 0, 6, 15, 31, 0, 0, 192, 448, 0, 1984, 4095, 8191, 16383]
theorem impl_quotient.tab14 : rtab .any (opsOf Try.f97 14) = impl_quotient.T14 := by kernel_rfl
theorem impl_quotient.bits14 : waitsOk impl_quotient.T14.2 impl_quotient.B14 = true := by kernel_rfl
set_option maxHeartbeats 8000000 in
set_option maxRecDepth 100000 in
theorem impl_quotient.calls (k : Nat) (A0 : Option Addr) (c0 : Nat) (l0 : List Int) (A1 : Option Addr) (c1 : Nat) (l1 : List Int) (r1 : List Int) (r2 : Bool) (w : World) (hr0 : Kd.C (Kd.int .i64) w A0 l0.length l0) (hc0 : l0.length ≤ c0) (hr1 : Kd.C (Kd.int .i64) w A1 l1.length l1) (hc1 : l1.length ≤ c1) (h : impl_quotient.f k l0 l1 = some (r1, r2)) :
 Calls Try.prog 97 #[.slice A0 l0.length c0, .slice A1 l1.length c1] w fun e w' => ∃ v0_ : Value, e = .returned (.tuple #[v0_, .bool r2]) ∧ Kd.R (Kd.int .i64) 3 w' w.heap.size (fun _ => True) v0_ r1 ∧ Below w.heap.size w w' := by
 have HR0 := Aside0.mk hr0
 have HC0 := Aside0.mk hc0
 clear hr0 hc0
 have HR1 := Aside0.mk hr1
 have HC1 := Aside0.mk hc1
 clear hr1 hc1
 have HB := Aside0.mk (Below.refl w.heap.size w)
 have H : ((slices_Clone_int_int.f l0).bind fun t546 => (if 0 ≤ (wrap64 ((l1.length : Int) - 1)) then (if (wrap64 ((l1.length : Int) - 1)) < (l1.length : Int) then (if 0 ≤ (mx (wrap64 ((wrap64 ((l0.length : Int) - (l1.length : Int))) + 1)) 0) then (if (mx (wrap64 ((wrap64 ((l0.length : Int) - (l1.length : Int))) + 1)) 0 : Int).toNat ≤ 35184372088832 then ((some (List.replicate (mx (wrap64 ((wrap64 ((l0.length : Int) - (l1.length : Int))) + 1)) 0 : Int).toNat 0 : List Int)).bind fun y550 => (impl_quotient.l0 k l1 t546 (rd l1 (wrap64 ((l1.length : Int) - 1))) y550 (wrap64 ((y550.length : Int) - 1)))) else (none)) else (none)) else (none)) else (none))) = some (r1, r2) := h
 clear h
 obtain ⟨t546, A3, H⟩ := bi H
 obtain ⟨ji4, hji4⟩ : ∃ j_ : Int, (wrap64 ((l1.length : Int) - 1)) = j_ := ⟨_, rfl⟩
 first | rw [hji4] at H | simp only [hji4] at H
 (try rw [hji4] at A3)
 have hji4w : (IntKind.i64.wrap ((l1.length : Int) - 1)) = ji4 := (i64_w _).trans hji4
 by_cases c5 : 0 ≤ (ji4)
 ·rw [if_pos c5] at H
  have c5b0 : decide (0 ≤ (ji4)) = true := decide_eq_true c5
  clear c5
  by_cases c6 : (ji4) < (l1.length : Int)
  ·rw [if_pos c6] at H
   have c6b0 : decide ((ji4) < (l1.length : Int)) = true := decide_eq_true c6
   clear c6
   obtain ⟨ji7, hji7⟩ : ∃ j_ : Int, (mx (wrap64 ((wrap64 ((l0.length : Int) - (l1.length : Int))) + 1)) 0) = j_ := ⟨_, rfl⟩
   first | rw [hji7] at H | simp only [hji7] at H
   (try rw [hji7] at A3)
   (try (have hji7l : 0 ≤ ji7 := by (rw [← hji7]; unfold mx; (repeat' split) <;> omega)))
   (try (have hji7m : 0 ≤ ji7 := by omega))
   have hji7_ : (if (wrap64 ((wrap64 ((l0.length : Int) - (l1.length : Int))) + 1)) < 0 then 0 else (wrap64 ((wrap64 ((l0.length : Int) - (l1.length : Int))) + 1))) = ji7 := hji7
   by_cases c8 : 0 ≤ (ji7)
   ·rw [if_pos c8] at H
    have c8b0 := eq_true c8
    have c8b1 : decide (0 ≤ (ji7)) = true := decide_eq_true c8
    clear c8
    by_cases c9 : (ji7 : Int).toNat ≤ 35184372088832
    ·rw [if_pos c9] at H
     have c9b0 := eq_true c9
     have c9b1 : decide ((ji7 : Int).toNat ≤ 35184372088832) = true := decide_eq_true c9
     clear c9
     obtain ⟨y550, hy550⟩ : ∃ y_ : List Int, y_ = (List.replicate (ji7 : Int).toNat 0) := ⟨_, rfl⟩
     replace H : (impl_quotient.l0 k l1 t546 (rd l1 (ji4)) y550 (wrap64 ((y550.length : Int) - 1))) = some (r1, r2) := by first | (rw [hy550]; with_reducible exact H) | (have H2_ := (Option.bind_some _ _).symm.trans H; rw [hy550]; with_reducible exact H2_) | (have H2_ := (Option.bind_some _ _).symm.trans H; with_reducible exact H2_) | with_reducible exact H | (rw [hy550]; exact H) | exact H
     have Ny550 := Aside0.mk hy550
     clear hy550
     have H' := Aside0.mk H
     clear H
     go_enter Try.func97, Try.ntmps97
     go_wp2_with (first | ((with_reducible refine gate_callee (f := 122) rfl ?_); refine goesL_ (some 14) rfl rfl Try.func122 kf rfl #[.slice A0 l0.length c0] rfl sm ?_; (with_reducible refine (slices_Clone_int_int.calls _ _ l0 t546 _ ?side1 ?side2 A3.out).mono ?_); (case side1 => exact cc HR0); (case side2 => exact HC0.out); rintro e w10 ⟨v547, rfl, ho0, hb⟩; refine ⟨_, rfl, ?_⟩; have n0_ := Aside0.mk (Kd.R_lower ho0 (below_size bz)); have n1_ := Aside0.mk (below_step bz hb); clear HB; have HO548 := n0_; have HB := n1_; clear n0_ n1_; (try clear hb); (try clear hb2); (try clear hk); (try clear hi); (try clear ho0); have p549 : 0 ≤ ((ji4) : Int) := of_decide_eq_true am; have q549 : (ji4) < (l1.length : Int) := of_decide_eq_true am; obtain ⟨ad549, e549, hx549_0⟩ := Kd.at_int HR1.out (ji4) p549 q549; cases e549; replace hx549_0 := (HB.out.cell (World.block_lt_of_cell? w _ hx549_0)).trans hx549_0; replace p549 := eq_true p549; replace q549 := eq_true q549) | ((with_reducible refine gate_dst (N := 28) rfl ?_); refine Kd.R_make (Kd.int .i64) _ 3 rfl (N := 28) rfl 22 _ _ rfl ji7 rfl rfl Try.underlying22 (.int .i64 0) 8 info3 rfl (by decide) (by omega) 0 (ok := fun _ => True) (okp := fun _ => True) rfl (fun _ hk => hk) trivial (of_decide_eq_true am) (Nat.le_trans (Nat.mul_le_mul_right _ (of_decide_eq_true am : ji7.toNat ≤ 35184372088832)) (by omega)) (Below.refl _ _) (Nat.le_refl _) ?_; intro v551 w11 ho12 hb hg_ hnew_; clear hg_ hnew_; (first | rw [← Ny550.out] at ho12 | (simp only [Int.reduceToNat] at ho12; rw [← Ny550.out] at ho12)); have n0_ := Aside0.mk (Kd.R_elder' (kr HO548) (Kd.R_base ho12) hb); have n1_ := Aside0.mk (Kd.R_lower (Kd.R_new' ho12 (Kd.R_lt (kr HO548))) (below_size bz)); have n2_ := Aside0.mk (below_step bz hb); clear HO548; clear HB; have HO548 := n0_; have HO552 := n1_; have HB := n2_; clear n0_ n1_ n2_; clear hb ho12; obtain ⟨Ao13, co13, eo13⟩ := Kd.R_slice HO552.out; subst eo13))
     go_loopg [9] k (fun kq v9 w' => ∃ (x6_1 : List Int) (x8_1 : List Int) (x9_1 : Int), v9 = .int .i64 x9_1 ∧ Aside0 (impl_quotient.l0 kq l1 x6_1 (rd l1 (ji4)) x8_1 x9_1 = some (r1, r2)) ∧ Aside0 (kq ≤ k) ∧ Aside0 (Kd.R (Kd.int .i64) 3 w' w.heap.size (fun k_ => some k_ ≠ ((.slice Ao13 y550.length co13) : Value).ownBlock) v547 x6_1) ∧ Aside0 (Kd.R (Kd.int .i64) 3 w' w.heap.size (fun k_ => some k_ ≠ (v547 : Value).ownBlock) (.slice Ao13 y550.length co13) x8_1) ∧ Aside0 (Below w.heap.size w w'))
     case atStart => exact ⟨(t546), (y550), (wrap64 ((y550.length : Int) - 1)), sr, H', ⟨Nat.le_refl _⟩, ⟨by (with_reducible repeat (first | apply Kd.R_alloc | apply Kd.R_drewN | apply Kd.R_drew)); exact Kd.R_mono HO548.out (fun _ hk => hk.2)⟩, ⟨by (with_reducible repeat (first | apply Kd.R_alloc | apply Kd.R_drewN | apply Kd.R_drew)); exact Kd.R_mono HO552.out (fun _ hk => hk.2)⟩, ⟨bz⟩⟩
     case round =>
      clear H'
      try clear c1; try clear p2; try clear c5; try clear c5b0; try clear p5; try clear q5; try clear hx5; try clear c6; try clear c6b0; try clear p6; try clear c8; try clear c8b0; try clear c8b1; try clear c9; try clear c9b0; try clear c9b1; try clear c12; try clear hx549_0; try clear p549; try clear q549
      obtain ⟨x6_1, x8_1, x9_1, rfl, HA, HK1, HO_6, HO_8, HB⟩ := hrel
      have hl8_1 := (Kd.R_reads' HO_8.out).1
      rw [hl8_1] at HO_8
      (try simp only [hl8_1])
      (try simp only [hl8_1] at HO_6)
      cases gk with
      | zero => exact absurd HA.out (by simp [impl_quotient.l0])
      | succ k1 =>
       have H := HA.out
       clear HA
       simp only [impl_quotient.l0] at H
       by_cases c14 : x9_1 ≥ 0
       ·rw [if_pos c14] at H
        have c14b0 : decide (0 ≤ x9_1) = true := decide_eq_true c14
        clear c14
        obtain ⟨ji15, hji15⟩ : ∃ j_ : Int, (wrap64 ((wrap64 (x9_1 + (l1.length : Int))) - 1)) = j_ := ⟨_, rfl⟩
        first | rw [hji15] at H | simp only [hji15] at H
        have hji15w : (IntKind.i64.wrap ((wrap64 (x9_1 + (l1.length : Int))) - 1)) = ji15 := (i64_w _).trans hji15
        by_cases c16 : 0 ≤ (ji15)
        ·rw [if_pos c16] at H
         have c16b0 : decide (0 ≤ (ji15)) = true := decide_eq_true c16
         clear c16
         by_cases c17 : (ji15) < (x6_1.length : Int)
         ·rw [if_pos c17] at H
          have c17b0 : decide ((ji15) < (x6_1.length : Int)) = true := decide_eq_true c17
          (try (have c17b0l : _ := c17b0; rw [hl8_1] at c17b0l))
          clear c17
          by_cases c18 : (rd l1 (ji4)) = 0
          ·rw [if_pos c18] at H
           exact absurd H (by simp)
          ·rw [if_neg c18] at H
           have c18b0 : ((rd l1 (ji4)) == 0) = false := beq_eq_false_iff_ne.mpr c18
           have c18b1 : ((rd l1 (ji4)) != 0) = true := bne_iff_ne.mpr c18
           by_cases c19 : (Int.tmod (rd x6_1 (ji15)) (rd l1 (ji4))) = 0
           ·rw [if_pos c19] at H
            have c19b0 : ((Int.tmod (rd x6_1 (ji15)) (rd l1 (ji4))) == 0) = true := beq_iff_eq.mpr c19
            have c19b1 : ((Int.tmod (rd x6_1 (ji15)) (rd l1 (ji4))) != 0) = false := bne_eq_false_iff_eq.mpr c19
            clear c19
            by_cases c20 : 0 ≤ x9_1
            ·rw [if_pos c20] at H
             have c20b0 : decide (0 ≤ x9_1) = true := decide_eq_true c20
             clear c20
             by_cases c21 : x9_1 < (x8_1.length : Int)
             ·rw [if_pos c21] at H
              have c21b0 : decide (x9_1 < (x8_1.length : Int)) = true := decide_eq_true c21
              (try (have c21b0l : _ := c21b0; rw [hl8_1] at c21b0l))
              clear c21
              obtain ⟨y554, hy554⟩ : ∃ y_ : List Int, y_ = (x8_1.set (x9_1 : Int).toNat (wrap64 (Int.tdiv (rd x6_1 (ji15)) (rd l1 (ji4))))) := ⟨_, rfl⟩
              replace H : (impl_quotient.l1 k1 l1 x6_1 (rd l1 (ji4)) y554 x9_1 l1 (l1.length : Int) 0) = some (r1, r2) := by first | (rw [hy554]; with_reducible exact H) | (have H2_ := (Option.bind_some _ _).symm.trans H; rw [hy554]; with_reducible exact H2_) | (have H2_ := (Option.bind_some _ _).symm.trans H; with_reducible exact H2_) | with_reducible exact H | (rw [hy554]; exact H) | exact H
              have Ny554 := Aside0.mk hy554
              clear hy554
              have H' := Aside0.mk H
              clear H
              obtain ⟨Ao23, co23, eo23⟩ := Kd.R_slice HO_6.out
              subst eo23
              have p553 : 0 ≤ ((ji15) : Int) := of_decide_eq_true am
              have q553 : (ji15) < (x6_1.length : Int) := of_decide_eq_true am
              obtain ⟨ad553, e553, hx553_0⟩ := Kd.at_int (Kd.R_reads' HO_6.out).2.2 (ji15) p553 q553
              cases e553
              replace p553 := eq_true p553
              replace q553 := eq_true q553
              have p22 : 0 ≤ (x9_1 : Int) := of_decide_eq_true am
              have q22 : (x9_1 : Int) < ((x8_1.length : Int) : Int) := of_decide_eq_true am
              obtain ⟨go22, co22, eo22, gb22, gl22, cl22, HG22⟩ := Kd.R_form HO_8.out (by omega)
              (first | cases eo22 | (injection eo22 with ea_ en_ ec_; (first | subst ea_ | (injection ea_ with ea_; subst ea_)); subst ec_; clear en_))
              have GB22 := Aside0.mk gb22
              have GG22 := Aside0.mk HG22
              clear gb22 gl22 HG22
              obtain ⟨hx22_0, hf22_0⟩ := Kd.R_celln 0 HO_8.out (x9_1 : Int) p22 q22
              replace p22 := eq_true p22
              replace q22 := eq_true q22
              have HP24 := Kd.R_putg HO_8.out (x9_1 : Int) (wrap64 (Int.tdiv (rd x6_1 (ji15)) (rd l1 (ji4))))
              go_wp2_with (first | ((with_reducible refine gate_store (t := 3) (p := 53) rfl ?_); refine store_event (t := 3) (p := 53) (v := ?vo_w25) (w1 := (wr.setCell ⟨go22, (x9_1 : Int).toNat, none⟩ (.int .i64 (wrap64 (Int.tdiv (rd x6_1 (ji15)) (rd l1 (ji4))))))) ?hg ?ho ?hn ?hr ?_; (case ho => rfl); (case hg => rfl); (case hn => rfl); (case hr => first | (go_simp; done) | (go_simp; rfl)); intro w25 hw; have hg : wr.grownBy w25 (some go22) := (by rw [hw]; exact HP24.2); have hp_ : Kd.R (Kd.int .i64) 3 w25 w.heap.size (fun k_ => some k_ ≠ (.slice (some ad553) x6_1.length co23 : Value).ownBlock) (.slice (some ⟨go22, 0, none⟩) x8_1.length co13) y554 := (by rw [hw, Ny554.out]; exact HP24.1); clear HP24; have n0_ := Aside0.mk (Kd.R_after (v := (.slice (some ⟨go22, 0, none⟩) x8_1.length co13)) (v1 := (.slice (some ⟨go22, 0, none⟩) x8_1.length co13)) (ok := (fun _ => True)) (by (with_reducible repeat (first | apply Kd.R_alloc | apply Kd.R_drewN | apply Kd.R_drew)); exact Kd.R_mono HO_6.out (fun _ hk => ⟨trivial, hk⟩)) hg (.inl rfl)); have n1_ := Aside0.mk (hp_); have n2_ := Aside0.mk ((by rw [hw]; exact below_set (HB.out) GB22.out : Below w.heap.size w w25)); clear HO_6; clear HO_8; clear HB; have HO_6 := n0_; have HO_8 := n1_; have HB := n2_; clear n0_ n1_ n2_; clear hg hw hp_))
              go_loopg [56] k1 (fun kq v56 w' => ∃ (x6_2 : List Int) (x56_2 : Int), v56 = .int .i64 x56_2 ∧ Aside0 (impl_quotient.l1 kq l1 x6_2 (rd l1 (ji4)) y554 x9_1 l1 (l1.length : Int) x56_2 = some (r1, r2)) ∧ Aside0 (kq ≤ k1) ∧ Aside0 (Kd.R (Kd.int .i64) 3 w' w.heap.size (fun k_ => some k_ ≠ ((.slice (some ⟨go22, 0, none⟩) x8_1.length co13) : Value).ownBlock) (.slice (some ad553) x6_1.length co23) x6_2) ∧ Aside0 (Kd.R (Kd.int .i64) 3 w' w.heap.size (fun k_ => some k_ ≠ ((.slice (some ad553) x6_1.length co23) : Value).ownBlock) (.slice (some ⟨go22, 0, none⟩) x8_1.length co13) y554) ∧ Aside0 (Below w.heap.size w w'))
              case atStart => exact ⟨(x6_1), (0), sr, H', ⟨Nat.le_refl _⟩, ⟨by (try simp only [hl8_1]); (with_reducible repeat (first | apply Kd.R_alloc | apply Kd.R_drewN | apply Kd.R_drew)); exact Kd.R_mono HO_6.out (fun _ hk => hk.2)⟩, ⟨by (try simp only [hl8_1]); (with_reducible repeat (first | apply Kd.R_alloc | apply Kd.R_drewN | apply Kd.R_drew)); exact HO_8.out⟩, ⟨bz⟩⟩
              case round =>
               clear H'
               try clear c1; try clear c2; try clear p2; try clear q2; try clear hx2; try clear hf2; try clear c5; try clear c5b0; try clear p5; try clear q5; try clear hx5; try clear c6; try clear c6b0; try clear p6; try clear c8; try clear c8b0; try clear c8b1; try clear c9; try clear c9b0; try clear c9b1; try clear c12; try clear c14; try clear c14b0; try clear c16; try clear c16b0; try clear c17; try clear c17b0; try clear c18; try clear c18b0; try clear c18b1; try clear c19; try clear c19b0; try clear c19b1; try clear c20; try clear c20b0; try clear c21; try clear c21b0; try clear p22; try clear q22; try clear hx22; try clear hf22; try clear hx22_0; try clear hx549_0; try clear hx553_0; try clear p2; try clear p22; try clear p5; try clear p549; try clear p553; try clear p6; try clear q22; try clear q5; try clear q549; try clear q553
               obtain ⟨x6_2, x56_2, rfl, HA, HK2, HO_6, HO_8, HB⟩ := hrel
               have hl6_2 := (Kd.R_reads' HO_6.out).1
               rw [hl6_2] at HO_6
               (try simp only [hl6_2])
               (try simp only [hl6_2] at HO_8)
               have hl8_2 := (Kd.R_reads' HO_8.out).1
               rw [hl8_2] at HO_8
               (try simp only [hl8_2])
               (try simp only [hl8_2] at HO_6)
               cases gk with
               | zero => exact absurd HA.out (by simp [impl_quotient.l1])
               | succ k2 =>
                have H := HA.out
                clear HA
                simp only [impl_quotient.l1] at H
                by_cases c26 : x56_2 < (l1.length : Int)
                ·rw [if_pos c26] at H
                 have c26b0 : decide (x56_2 < (l1.length : Int)) = true := decide_eq_true c26
                 (try (have c26b0l : _ := c26b0; rw [hl8_1] at c26b0l))
                 (try (have c26b0l : _ := c26b0; rw [hl6_2] at c26b0l))
                 (try (have c26b0l : _ := c26b0; rw [hl8_2] at c26b0l))
                 clear c26
                 by_cases c27 : 0 ≤ x56_2
                 ·rw [if_pos c27] at H
                  have c27b0 : decide (0 ≤ x56_2) = true := decide_eq_true c27
                  clear c27
                  by_cases c28 : x56_2 < (l1.length : Int)
                  ·rw [if_pos c28] at H
                   have c28b0 : decide (x56_2 < (l1.length : Int)) = true := decide_eq_true c28
                   (try (have c28b0l : _ := c28b0; rw [hl8_1] at c28b0l))
                   (try (have c28b0l : _ := c28b0; rw [hl6_2] at c28b0l))
                   (try (have c28b0l : _ := c28b0; rw [hl8_2] at c28b0l))
                   clear c28
                   obtain ⟨ji29, hji29⟩ : ∃ j_ : Int, (wrap64 (x9_1 + x56_2)) = j_ := ⟨_, rfl⟩
                   first | rw [hji29] at H | simp only [hji29] at H
                   have hji29w : (IntKind.i64.wrap (x9_1 + x56_2)) = ji29 := (i64_w _).trans hji29
                   by_cases c30 : 0 ≤ (ji29)
                   ·rw [if_pos c30] at H
                    have c30b0 : decide (0 ≤ (ji29)) = true := decide_eq_true c30
                    clear c30
                    by_cases c31 : (ji29) < (x6_2.length : Int)
                    ·rw [if_pos c31] at H
                     have c31b0 : decide ((ji29) < (x6_2.length : Int)) = true := decide_eq_true c31
                     (try (have c31b0l : _ := c31b0; rw [hl8_1] at c31b0l))
                     (try (have c31b0l : _ := c31b0; rw [hl6_2] at c31b0l))
                     (try (have c31b0l : _ := c31b0; rw [hl8_2] at c31b0l))
                     clear c31
                     by_cases c32 : 0 ≤ x9_1
                     ·rw [if_pos c32] at H
                      have c32b0 : decide (0 ≤ x9_1) = true := decide_eq_true c32
                      clear c32
                      by_cases c33 : x9_1 < (y554.length : Int)
                      ·rw [if_pos c33] at H
                       have c33b0 : decide (x9_1 < (y554.length : Int)) = true := decide_eq_true c33
                       (try (have c33b0l : _ := c33b0; rw [hl8_1] at c33b0l))
                       (try (have c33b0l : _ := c33b0; rw [hl6_2] at c33b0l))
                       (try (have c33b0l : _ := c33b0; rw [hl8_2] at c33b0l))
                       clear c33
                       obtain ⟨y558, hy558⟩ : ∃ y_ : List Int, y_ = (x6_2.set ((ji29) : Int).toNat (wrap64 ((rd x6_2 (ji29)) - (wrap64 ((rd y554 x9_1) * (rd l1 x56_2)))))) := ⟨_, rfl⟩
                       replace H : (impl_quotient.l1 k2 l1 y558 (rd l1 (ji4)) y554 x9_1 l1 (l1.length : Int) (wrap64 (x56_2 + 1))) = some (r1, r2) := by first | (rw [hy558]; with_reducible exact H) | (have H2_ := (Option.bind_some _ _).symm.trans H; rw [hy558]; with_reducible exact H2_) | (have H2_ := (Option.bind_some _ _).symm.trans H; with_reducible exact H2_) | with_reducible exact H | (rw [hy558]; exact H) | exact H
                       have Ny558 := Aside0.mk hy558
                       clear hy558
                       have H' := Aside0.mk H
                       clear H
                       have p555 : 0 ≤ (x56_2 : Int) := of_decide_eq_true am
                       have q555 : x56_2 < (l1.length : Int) := of_decide_eq_true am
                       obtain ⟨ad555, e555, hx555_0⟩ := Kd.at_int HR1.out x56_2 p555 q555
                       obtain rfl : ad549 = ad555 := (by injection e555)
                       replace hx555_0 := (HB.out.cell (World.block_lt_of_cell? w _ hx555_0)).trans hx555_0
                       replace p555 := eq_true p555
                       replace q555 := eq_true q555
                       try go_wp2
                       have n0_ := Aside0.mk (Kd.R_drew HO_6.out)
                       have n1_ := Aside0.mk (Kd.R_drew HO_8.out)
                       have n2_ := Aside0.mk (below_drew1 HB.out)
                       clear HO_6 HO_8 HB
                       have HO_6 := n0_
                       have HO_8 := n1_
                       have HB := n2_
                       clear n0_ n1_ n2_
                       have p556 : 0 ≤ ((ji29) : Int) := of_decide_eq_true am
                       have q556 : (ji29) < (x6_2.length : Int) := of_decide_eq_true am
                       obtain ⟨ad556, e556, hx556_0⟩ := Kd.at_int (Kd.R_reads' HO_6.out).2.2 (ji29) p556 q556
                       obtain rfl : ad553 = ad556 := (by injection e556)
                       replace p556 := eq_true p556
                       replace q556 := eq_true q556
                       have p557 : 0 ≤ (x9_1 : Int) := of_decide_eq_true am
                       have q557 : x9_1 < (y554.length : Int) := of_decide_eq_true am
                       obtain ⟨ad557, e557, hx557_0⟩ := Kd.at_int (Kd.R_reads' HO_8.out).2.2 x9_1 p557 q557
                       obtain rfl : (⟨go22, 0, none⟩ : Addr) = ad557 := (by injection e557)
                       (first | simp only [add_plain] at hx557_0 | simp only [add_at] at hx557_0 | simp only [Addr.add, Nat.zero_add] at hx557_0 | skip)
                       replace p557 := eq_true p557
                       replace q557 := eq_true q557
                       have p34 : 0 ≤ ((ji29) : Int) := of_decide_eq_true am
                       have q34 : ((ji29) : Int) < ((x6_2.length : Int) : Int) := of_decide_eq_true am
                       obtain ⟨go34, co34, eo34, gb34, gl34, cl34, HG34⟩ := Kd.R_form HO_6.out (by omega)
                       (first | cases eo34 | (injection eo34 with ea_ en_ ec_; (first | subst ea_ | (injection ea_ with ea_; subst ea_)); subst ec_; clear en_))
                       have GB34 := Aside0.mk gb34
                       have GG34 := Aside0.mk HG34
                       clear gb34 gl34 HG34
                       (first | simp only [add_plain] at hx553_0 | skip)
                       (first | simp only [add_plain] at hx556_0 | skip)
                       obtain ⟨hx34_0, hf34_0⟩ := Kd.R_celln 0 HO_6.out ((ji29) : Int) p34 q34
                       replace p34 := eq_true p34
                       replace q34 := eq_true q34
                       have HP36 := Kd.R_putn HO_6.out ((ji29) : Int) (wrap64 ((rd x6_2 (ji29)) - (wrap64 ((rd y554 x9_1) * (rd l1 x56_2)))))
                       rw [← Ny558.out] at HP36
                       have HQ36 := Aside0.mk HP36
                       clear HP36
                       refine start_ (n := 15) (S := fun w' => w'.cell? ⟨go34, ((ji29)).toNat, none⟩ = some (.int .i64 (rd x6_2 (ji29))) ∧ w'.cell? ⟨go22, (x9_1).toNat, none⟩ = some (.int .i64 (rd y554 x9_1))) (ds := [14]) #[fF, fF, fF, fF, fF, fF, fF, fF, fF, fF, fF, fF, fF, fF, fF] kf rfl rfl ⟨hx556_0, hx557_0⟩ (fun hHeld => ?_); refine with_tabW impl_quotient.tab14 impl_quotient.bits14 (fun HT_ HW_ => ?_)
                       generalize wr.drew = w35 at HO_6 HO_8 HB GG34 HQ36 hf34_0 hx34_0 hx556_0 hx557_0 hHeld ⊢
                       refine pq (i := 0) (N := some 61) #[tT, fF, fF, fF, fF, fF, fF, fF, fF, fF, fF, fF, fF, fF, fF] rfl rfl HT_.out ?_
                       refine pq (i := 1) (N := some 62) #[tT, tT, fF, fF, fF, fF, fF, fF, fF, fF, fF, fF, fF, fF, fF] rfl rfl HT_.out ?_
                       refine pq (i := 2) (N := some 63) #[tT, tT, tT, fF, fF, fF, fF, fF, fF, fF, fF, fF, fF, fF, fF] rfl rfl HT_.out ?_
                       refine pq (i := 3) (N := some 64) #[tT, tT, tT, tT, fF, fF, fF, fF, fF, fF, fF, fF, fF, fF, fF] rfl rfl HT_.out ?_
                       refine pq (i := 4) (N := some 65) #[tT, tT, tT, tT, tT, fF, fF, fF, fF, fF, fF, fF, fF, fF, fF] rfl rfl HT_.out ?_
                       refine pq (i := 6) (N := some 67) #[tT, tT, tT, tT, tT, fF, tT, fF, fF, fF, fF, fF, fF, fF, fF] rfl rfl HT_.out ?_
                       refine pq (i := 7) (N := some 68) #[tT, tT, tT, tT, tT, fF, tT, tT, fF, fF, fF, fF, fF, fF, fF] rfl rfl HT_.out ?_
                       refine pq (i := 8) (N := some 69) #[tT, tT, tT, tT, tT, fF, tT, tT, tT, fF, fF, fF, fF, fF, fF] rfl rfl HT_.out ?_
                       refine pq (i := 10) (N := some 71) #[tT, tT, tT, tT, tT, fF, tT, tT, tT, fF, tT, fF, fF, fF, fF] rfl rfl HT_.out ?_
                       refine tq2 (i := 5) (N := some 66) #[tT, tT, tT, tT, tT, tT, tT, tT, tT, fF, tT, fF, fF, fF, fF] rfl rfl HT_.out HW_.out hHeld ?_
                       refine tq2 (i := 9) (N := some 70) #[tT, tT, tT, tT, tT, tT, tT, tT, tT, tT, tT, fF, fF, fF, fF] rfl rfl HT_.out HW_.out hHeld ?_
                       refine pq (i := 11) (N := some 72) #[tT, tT, tT, tT, tT, tT, tT, tT, tT, tT, tT, tT, fF, fF, fF] rfl rfl HT_.out ?_
                       refine pq (i := 12) (N := some 73) #[tT, tT, tT, tT, tT, tT, tT, tT, tT, tT, tT, tT, tT, fF, fF] rfl rfl HT_.out ?_
                       refine pq (i := 13) (N := some 74) #[tT, tT, tT, tT, tT, tT, tT, tT, tT, tT, tT, tT, tT, tT, fF] rfl rfl HT_.out ?_
                       refine last_ (i := 14) (N := none) #[tT, tT, tT, tT, tT, tT, tT, tT, tT, tT, tT, tT, tT, tT, tT] rfl rfl (one_of HT_.out kf) (by decide) (fun K hK => ?_)
                       refine skip_ (w1 := ?_) (by rfl) rfl ?_ ?_
                       rotate_left
                       ·go_simp
                        rfl
                       refine hK.out _ _ ?_
                       clear hK K
                       refine done_ (done_of HT_.out kf) ?_
                       try go_wp2
                       (try simp only [← hl6_2, ← hl8_2])
                       (try rw [← add_plain go34 (((ji15) : Int).toNat)])
                       go_roundg k2
                       case measure => have := HK1.out; have := HK2.out; omega
                       case rel => exact ⟨(y558), (wrap64 (x56_2 + 1)), sr, H', ⟨by have := HK1.out; have := HK2.out; omega⟩, ⟨by (try simp only [hl8_1]); (try simp only [hl6_2]); (try simp only [hl8_2]); (with_reducible repeat (first | apply Kd.R_alloc | apply Kd.R_drewN | apply Kd.R_drew)); exact HQ36.out⟩, ⟨by (try simp only [hl8_1]); (try simp only [hl6_2]); (try simp only [hl8_2]); (with_reducible repeat (first | apply Kd.R_alloc | apply Kd.R_drewN | apply Kd.R_drew)); exact Kd.R_mono (Kd.R_far (p := ⟨go34, ((ji29) : Int).toNat, none⟩) (Kd.R_mono HO_8.out (fun k_ hk => (⟨hk, fun e_ => hk (by rw [e_]; rfl)⟩ : _ ∧ k_ ≠ go34))) (fun _ hk => hk.2) (.int .i64 (wrap64 ((rd x6_2 (ji29)) - (wrap64 ((rd y554 x9_1) * (rd l1 x56_2))))))) (fun _ hk => hk.1)⟩, ⟨bz1 GB34⟩⟩
                      ·rw [if_neg c33] at H
                       exact absurd H (by simp)
                     ·rw [if_neg c32] at H
                      exact absurd H (by simp)
                    ·rw [if_neg c31] at H
                     exact absurd H (by simp)
                   ·rw [if_neg c30] at H
                    exact absurd H (by simp)
                  ·rw [if_neg c28] at H
                   exact absurd H (by simp)
                 ·rw [if_neg c27] at H
                  exact absurd H (by simp)
                ·rw [if_neg c26] at H
                 have c26b0 : decide (x56_2 < (l1.length : Int)) = false := decide_eq_false c26
                 (try (have c26b0l : _ := c26b0; rw [hl8_1] at c26b0l))
                 (try (have c26b0l : _ := c26b0; rw [hl6_2] at c26b0l))
                 (try (have c26b0l : _ := c26b0; rw [hl8_2] at c26b0l))
                 clear c26
                 have H' := Aside0.mk H
                 clear H
                 go_wp2
                 (try simp only [← hl8_1, ← hl6_2, ← hl8_2])
                 (try rw [← add_plain go34 (((ji15) : Int).toNat)])
                 go_roundg k2
                 case measure => have := HK1.out; have := HK2.out; omega
                 case rel => exact ⟨(x6_2), (y554), (wrap64 (x9_1 - 1)), sr, H', ⟨by have := HK1.out; have := HK2.out; omega⟩, ⟨by (try simp only [hl8_1]); (try simp only [hl6_2]); (try simp only [hl8_2]); (with_reducible repeat (first | apply Kd.R_alloc | apply Kd.R_drewN | apply Kd.R_drew)); exact HO_6.out⟩, ⟨by (try simp only [hl8_1]); (try simp only [hl6_2]); (try simp only [hl8_2]); (with_reducible repeat (first | apply Kd.R_alloc | apply Kd.R_drewN | apply Kd.R_drew)); exact HO_8.out⟩, ⟨bz⟩⟩
             ·rw [if_neg c21] at H
              exact absurd H (by simp)
            ·rw [if_neg c20] at H
             exact absurd H (by simp)
           ·rw [if_neg c19] at H
            have c19b0 : ((Int.tmod (rd x6_1 (ji15)) (rd l1 (ji4))) == 0) = false := beq_eq_false_iff_ne.mpr c19
            have c19b1 : ((Int.tmod (rd x6_1 (ji15)) (rd l1 (ji4))) != 0) = true := bne_iff_ne.mpr c19
            simp only [Option.some.injEq, Prod.mk.injEq] at H
            obtain ⟨rfl, rfl⟩ := H
            obtain ⟨Ao37, co37, eo37⟩ := Kd.R_slice HO_6.out
            subst eo37
            have p553 : 0 ≤ ((ji15) : Int) := of_decide_eq_true am
            have q553 : (ji15) < (x6_1.length : Int) := of_decide_eq_true am
            obtain ⟨ad553, e553, hx553_0⟩ := Kd.at_int (Kd.R_reads' HO_6.out).2.2 (ji15) p553 q553
            cases e553
            replace p553 := eq_true p553
            replace q553 := eq_true q553
            go_wp2
            go_ret2
            exact ⟨_, by first | rfl | (simp [errW_none, errW_some] <;> rfl) | (simp only [← hji4, ← hji7, ← hji15]; first | rfl | (simp [errW_none, errW_some] <;> rfl)) | (simp [*, errW_none, errW_some] <;> rfl), by first | exact Kd.R_nil _ _ _ _ _ | exact Kd.N_nil _ _ _ _ _ | exact Kd.V_nil _ _ _ _ _ | exact Kd.Q_nil _ _ _ _ _ | exact Kd.S_nil _ _ _ _ _, bz⟩
         ·rw [if_neg c17] at H
          exact absurd H (by simp)
        ·rw [if_neg c16] at H
         exact absurd H (by simp)
       ·rw [if_neg c14] at H
        have c14b0 : decide (0 ≤ x9_1) = false := decide_eq_false c14
        clear c14
        obtain ⟨t559, A38, H⟩ := bi H
        by_cases c39 : (t559.length : Int) > 0
        ·rw [if_pos c39] at H
         have c39b0 : decide (0 < (t559.length : Int)) = true := decide_eq_true c39
         (try (have c39b0l : _ := c39b0; rw [hl8_1] at c39b0l))
         (try (have c39b0l : _ := c39b0; rw [hl6_2] at c39b0l))
         (try (have c39b0l : _ := c39b0; rw [hl8_2] at c39b0l))
         have c39b1 : decide (0 < t559.length) = true := decide_eq_true (by omega)
         clear c39
         simp only [Option.some.injEq, Prod.mk.injEq] at H
         obtain ⟨rfl, rfl⟩ := H
         obtain ⟨Ao40, co40, eo40⟩ := Kd.R_slice HO_6.out
         subst eo40
         go_wp2_with (first | ((with_reducible refine gate_callee (f := 118) rfl ?_); refine goesL_ (some 77) rfl rfl Try.func118 kf rfl #[.slice Ao40 x6_1.length co40] rfl sm ?_; (with_reducible refine (impl_stripped.calls k1 (fun k_ => some k_ = (.slice Ao40 x6_1.length co40 : Value).ownBlock) _ _ x6_1 t559 _ ?side1 A38.out).mono ?_); (case side1 => exact Kd.R_V (Kd.R_tight rfl (HO_6.out))); rintro e w41 ⟨v560, rfl, ho0, hb⟩; refine ⟨_, rfl, ?_⟩; have n0_ := Aside0.mk (Kd.R_elder' (kr HO_6) (Kd.R_base ho0) hb); have n1_ := Aside0.mk (Kd.R_elder' (kr HO_8) (Kd.R_base ho0) hb); have n2_ := Aside0.mk (Kd.R_lower (Kd.R_new' (Kd.R_new' (Kd.R_mono (ok' := fun k_ => True) ho0 (fun _ hk_ => trivial)) (Kd.R_lt (kr HO_6))) (Kd.R_lt (kr HO_8))) (below_size bz)); have n3_ := Aside0.mk (below_step bz hb); clear HO_6; clear HO_8; clear HB; have HO_6 := n0_; have HO_8 := n1_; have HO561 := n2_; have HB := n3_; clear n0_ n1_ n2_ n3_; (try clear hb); (try clear hb2); (try clear hk); (try clear hi); (try clear ho0); obtain ⟨Ao42, co42, eo42⟩ := Kd.R_slice HO561.out; subst eo42))
         go_ret2
         exact ⟨_, by first | rfl | (simp [errW_none, errW_some] <;> rfl) | (simp only [← hji4, ← hji7]; first | rfl | (simp [errW_none, errW_some] <;> rfl)) | (simp [*, errW_none, errW_some] <;> rfl), by first | exact Kd.R_nil _ _ _ _ _ | exact Kd.N_nil _ _ _ _ _ | exact Kd.V_nil _ _ _ _ _ | exact Kd.Q_nil _ _ _ _ _ | exact Kd.S_nil _ _ _ _ _, bz⟩
        ·rw [if_neg c39] at H
         have c39b0 : decide (0 < (t559.length : Int)) = false := decide_eq_false c39
         (try (have c39b0l : _ := c39b0; rw [hl8_1] at c39b0l))
         (try (have c39b0l : _ := c39b0; rw [hl6_2] at c39b0l))
         (try (have c39b0l : _ := c39b0; rw [hl8_2] at c39b0l))
         have c39b1 : decide (0 < t559.length) = false := decide_eq_false (by omega)
         clear c39
         obtain ⟨t562, A43, H⟩ := bi H
         simp only [Option.some.injEq, Prod.mk.injEq] at H
         obtain ⟨rfl, rfl⟩ := H
         obtain ⟨Ao44, co44, eo44⟩ := Kd.R_slice HO_6.out
         subst eo44
         go_wp2_with (first | ((with_reducible refine gate_callee (f := 118) rfl ?_); refine goesL_ (some 77) rfl rfl Try.func118 kf rfl #[.slice Ao44 x6_1.length co44] rfl sm ?_; (with_reducible refine (impl_stripped.calls k1 (fun k_ => some k_ = (.slice Ao44 x6_1.length co44 : Value).ownBlock) _ _ x6_1 t559 _ ?side1 A38.out).mono ?_); (case side1 => exact Kd.R_V (Kd.R_tight rfl (HO_6.out))); rintro e w45 ⟨v560, rfl, ho0, hb⟩; refine ⟨_, rfl, ?_⟩; have n0_ := Aside0.mk (Kd.R_elder' (kr HO_6) (Kd.R_base ho0) hb); have n1_ := Aside0.mk (Kd.R_elder' (kr HO_8) (Kd.R_base ho0) hb); have n2_ := Aside0.mk (Kd.R_lower (Kd.R_new' (Kd.R_new' (Kd.R_mono (ok' := fun k_ => True) ho0 (fun _ hk_ => trivial)) (Kd.R_lt (kr HO_6))) (Kd.R_lt (kr HO_8))) (below_size bz)); have n3_ := Aside0.mk (below_step bz hb); clear HO_6; clear HO_8; clear HB; have HO_6 := n0_; have HO_8 := n1_; have HO561 := n2_; have HB := n3_; clear n0_ n1_ n2_ n3_; (try clear hb); (try clear hb2); (try clear hk); (try clear hi); (try clear ho0); obtain ⟨Ao46, co46, eo46⟩ := Kd.R_slice HO561.out; subst eo46) | ((with_reducible refine gate_callee (f := 118) rfl ?_); refine goesL_ (some 81) rfl rfl Try.func118 kf rfl #[.slice Ao13 x8_1.length co13] rfl sm ?_; (with_reducible refine (impl_stripped.calls k1 (fun k_ => some k_ = (.slice Ao13 x8_1.length co13 : Value).ownBlock) _ _ x8_1 t562 _ ?side1 A43.out).mono ?_); (case side1 => exact Kd.R_V (Kd.R_tight rfl (HO_8.out))); rintro e w47 ⟨v563, rfl, ho0, hb⟩; refine ⟨_, rfl, ?_⟩; have n0_ := Aside0.mk (Kd.R_elder' (kr HO_6) (Kd.R_base ho0) hb); have n1_ := Aside0.mk (Kd.R_elder' (kr HO_8) (Kd.R_base ho0) hb); have n2_ := Aside0.mk (Kd.R_elder' (kr HO561) (Kd.R_base ho0) hb); have n3_ := Aside0.mk (Kd.R_lower (Kd.R_new' (Kd.R_new' (Kd.R_new' (Kd.R_mono (ok' := fun k_ => True) ho0 (fun _ hk_ => trivial)) (Kd.R_lt (kr HO_6))) (Kd.R_lt (kr HO_8))) (Kd.R_lt (kr HO561))) (below_size bz)); have n4_ := Aside0.mk (below_step bz hb); clear HO_6; clear HO_8; clear HO561; clear HB; have HO_6 := n0_; have HO_8 := n1_; have HO561 := n2_; have HO564 := n3_; have HB := n4_; clear n0_ n1_ n2_ n3_ n4_; (try clear hb); (try clear hb2); (try clear hk); (try clear hi); (try clear ho0)))
         go_ret2
         exact ⟨_, by first | rfl | (simp [errW_none, errW_some] <;> rfl) | (simp only [← hji4, ← hji7]; first | rfl | (simp [errW_none, errW_some] <;> rfl)) | (simp [*, errW_none, errW_some] <;> rfl), by (with_reducible repeat (first | apply Kd.R_alloc | apply Kd.R_drewN | apply Kd.R_drew)); exact Kd.R_mono HO564.out (fun _ hk => trivial), bz⟩
    ·rw [if_neg c9] at H
     exact absurd H (by simp)
   ·rw [if_neg c8] at H
    exact absurd H (by simp)
  ·rw [if_neg c6] at H
   exact absurd H (by simp)
 ·rw [if_neg c5] at H
  exact absurd H (by simp)
def impl_squarefreePart.f (k : Nat) (l0 : List Int) : Option (List Int × Bool) := (impl_divided.f k l0).bind fun t565 => ((impl_deriveSingle.f k t565).bind fun t568 => ((impl_commonDivisor.f k t565 t568).bind fun bt571 => (if bt571.2 = true then ((impl_quotient.f k t565 bt571.1).bind fun bt575 => ((impl_divided.f k bt575.1).bind fun t579 => ((impl_withSign.f k t579).bind fun t582 => (some (t582, true))))) else (some (([] : List Int), false)))))
set_option maxHeartbeats 8000000 in
set_option maxRecDepth 100000 in
theorem impl_squarefreePart.calls (k : Nat) (A0 : Option Addr) (c0 : Nat) (l0 : List Int) (r1 : List Int) (r2 : Bool) (w : World) (hr0 : Kd.C (Kd.int .i64) w A0 l0.length l0) (hc0 : l0.length ≤ c0) (h : impl_squarefreePart.f k l0 = some (r1, r2)) :
 Calls Try.prog 56 #[.slice A0 l0.length c0] w fun e w' => ∃ v0_ : Value, e = .returned (.tuple #[v0_, .bool r2]) ∧ Kd.R (Kd.int .i64) 3 w' w.heap.size (fun _ => True) v0_ r1 ∧ Below w.heap.size w w' := by
 have HR0 := Aside0.mk hr0
 have HC0 := Aside0.mk hc0
 clear hr0 hc0
 have HB := Aside0.mk (Below.refl w.heap.size w)
 have H : ((impl_divided.f k l0).bind fun t565 => ((impl_deriveSingle.f k t565).bind fun t568 => ((impl_commonDivisor.f k t565 t568).bind fun bt571 => (if bt571.2 = true then ((impl_quotient.f k t565 bt571.1).bind fun bt575 => ((impl_divided.f k bt575.1).bind fun t579 => ((impl_withSign.f k t579).bind fun t582 => (some (t582, true))))) else (some (([] : List Int), false)))))) = some (r1, r2) := h
 clear h
 obtain ⟨t565, A2, H⟩ := bi H
 obtain ⟨t568, A3, H⟩ := bi H
 obtain ⟨⟨t571, t574⟩, A4, H⟩ := bi H
 try dsimp only at H
 by_cases c5 : t574 = true
 ·subst c5
  rw [if_pos rfl] at H
  obtain ⟨⟨t575, t576⟩, A6, H⟩ := bi H
  try dsimp only at H
  obtain ⟨t579, A7, H⟩ := bi H
  obtain ⟨t582, A8, H⟩ := bi H
  simp only [Option.some.injEq, Prod.mk.injEq] at H
  obtain ⟨rfl, rfl⟩ := H
  go_enter Try.func56, Try.ntmps56
  go_wp2_with (first | ((with_reducible refine gate_callee (f := 93) rfl ?_); refine goesL_ (some 9) rfl rfl Try.func93 kf rfl #[.slice A0 l0.length c0] rfl sm ?_; (with_reducible refine (impl_divided.calls k _ _ l0 t565 _ ?side1 ?side2 A2.out).mono ?_); (case side1 => exact cc HR0); (case side2 => exact HC0.out); rintro e w9 ⟨v566, rfl, ho0, hb⟩; refine ⟨_, rfl, ?_⟩; have n0_ := Aside0.mk (Kd.R_lower ho0 (below_size bz)); have n1_ := Aside0.mk (below_step bz hb); clear HB; have HO567 := n0_; have HB := n1_; clear n0_ n1_; (try clear hb); (try clear hb2); (try clear hk); (try clear hi); (try clear ho0); obtain ⟨Ao10, co10, eo10⟩ := Kd.R_slice HO567.out; subst eo10) | ((with_reducible refine gate_callee (f := 96) rfl ?_); refine goesL_ (some 13) rfl rfl Try.func96 kf rfl #[.slice Ao10 t565.length co10] rfl sm ?_; (with_reducible refine (impl_deriveSingle.calls k _ _ t565 t568 _ ?side1 ?side2 A3.out).mono ?_); (case side1 => exact cr HO567); (case side2 => exact (Kd.R_reads' HO567.out).2.1); rintro e w11 ⟨v569, rfl, ho0, hb⟩; refine ⟨_, rfl, ?_⟩; have n0_ := Aside0.mk (Kd.R_elder' (kr HO567) (Kd.R_base ho0) hb); have n1_ := Aside0.mk (Kd.R_lower (Kd.R_new' ho0 (Kd.R_lt (kr HO567))) (below_size bz)); have n2_ := Aside0.mk (below_step bz hb); clear HO567; clear HB; have HO567 := n0_; have HO570 := n1_; have HB := n2_; clear n0_ n1_ n2_; (try clear hb); (try clear hb2); (try clear hk); (try clear hi); (try clear ho0); obtain ⟨Ao12, co12, eo12⟩ := Kd.R_slice HO570.out; subst eo12) | ((with_reducible refine gate_callee (f := 54) rfl ?_); refine goesL_ (some 14) rfl rfl Try.func54 kf rfl #[.slice Ao10 t565.length co10, .slice Ao12 t568.length co12] rfl sm ?_; (with_reducible refine (impl_commonDivisor.calls k (fun k_ => some k_ = (.slice Ao10 t565.length co10 : Value).ownBlock) _ _ t565 (fun k_ => some k_ = (.slice Ao12 t568.length co12 : Value).ownBlock) _ _ t568 t571 true _ ?side1 ?side2 A4.out).mono ?_); (case side1 => exact Kd.R_V (Kd.R_tight rfl (HO567.out))); (case side2 => exact Kd.R_V (Kd.R_tight rfl (HO570.out))); rintro e w13 ⟨v572, rfl, ho0, hb⟩; refine ⟨_, rfl, ?_⟩; have n0_ := Aside0.mk (Kd.R_elder' (kr HO567) (Kd.R_base ho0) hb); have n1_ := Aside0.mk (Kd.R_elder' (kr HO570) (Kd.R_base ho0) hb); have n2_ := Aside0.mk (Kd.R_lower (Kd.R_new' (Kd.R_new' (Kd.R_mono (ok' := fun k_ => True) ho0 (fun _ hk_ => trivial)) (Kd.R_lt (kr HO567))) (Kd.R_lt (kr HO570))) (below_size bz)); have n3_ := Aside0.mk (below_step bz hb); clear HO567; clear HO570; clear HB; have HO567 := n0_; have HO570 := n1_; have HO573 := n2_; have HB := n3_; clear n0_ n1_ n2_ n3_; (try clear hb); (try clear hb2); (try clear hk); (try clear hi); (try clear ho0); obtain ⟨Ao14, co14, eo14⟩ := Kd.R_slice HO573.out; subst eo14) | ((with_reducible refine gate_callee (f := 97) rfl ?_); refine goesL_ (some 22) rfl rfl Try.func97 kf rfl #[.slice Ao10 t565.length co10, .slice Ao14 t571.length co14] rfl sm ?_; (with_reducible refine (impl_quotient.calls k _ _ t565 _ _ t571 t575 t576 _ ?side1 ?side2 ?side3 ?side4 A6.out).mono ?_); (case side1 => exact cr HO567); (case side2 => exact (Kd.R_reads' HO567.out).2.1); (case side3 => exact cr HO573); (case side4 => exact (Kd.R_reads' HO573.out).2.1); rintro e w15 ⟨v577, rfl, ho0, hb⟩; refine ⟨_, rfl, ?_⟩; have n0_ := Aside0.mk (Kd.R_elder' (kr HO567) (Kd.R_base ho0) hb); have n1_ := Aside0.mk (Kd.R_elder' (kr HO570) (Kd.R_base ho0) hb); have n2_ := Aside0.mk (Kd.R_elder' (kr HO573) (Kd.R_base ho0) hb); have n3_ := Aside0.mk (Kd.R_lower (Kd.R_new' (Kd.R_new' (Kd.R_new' ho0 (Kd.R_lt (kr HO567))) (Kd.R_lt (kr HO570))) (Kd.R_lt (kr HO573))) (below_size bz)); have n4_ := Aside0.mk (below_step bz hb); clear HO567; clear HO570; clear HO573; clear HB; have HO567 := n0_; have HO570 := n1_; have HO573 := n2_; have HO578 := n3_; have HB := n4_; clear n0_ n1_ n2_ n3_ n4_; (try clear hb); (try clear hb2); (try clear hk); (try clear hi); (try clear ho0); obtain ⟨Ao16, co16, eo16⟩ := Kd.R_slice HO578.out; subst eo16) | ((with_reducible refine gate_callee (f := 93) rfl ?_); refine goesL_ (some 26) rfl rfl Try.func93 kf rfl #[.slice Ao16 t575.length co16] rfl sm ?_; (with_reducible refine (impl_divided.calls k _ _ t575 t579 _ ?side1 ?side2 A7.out).mono ?_); (case side1 => exact cr HO578); (case side2 => exact (Kd.R_reads' HO578.out).2.1); rintro e w17 ⟨v580, rfl, ho0, hb⟩; refine ⟨_, rfl, ?_⟩; have n0_ := Aside0.mk (Kd.R_elder' (kr HO567) (Kd.R_base ho0) hb); have n1_ := Aside0.mk (Kd.R_elder' (kr HO570) (Kd.R_base ho0) hb); have n2_ := Aside0.mk (Kd.R_elder' (kr HO573) (Kd.R_base ho0) hb); have n3_ := Aside0.mk (Kd.R_elder' (kr HO578) (Kd.R_base ho0) hb); have n4_ := Aside0.mk (Kd.R_lower (Kd.R_new' (Kd.R_new' (Kd.R_new' (Kd.R_new' ho0 (Kd.R_lt (kr HO567))) (Kd.R_lt (kr HO570))) (Kd.R_lt (kr HO573))) (Kd.R_lt (kr HO578))) (below_size bz)); have n5_ := Aside0.mk (below_step bz hb); clear HO567; clear HO570; clear HO573; clear HO578; clear HB; have HO567 := n0_; have HO570 := n1_; have HO573 := n2_; have HO578 := n3_; have HO581 := n4_; have HB := n5_; clear n0_ n1_ n2_ n3_ n4_ n5_; (try clear hb); (try clear hb2); (try clear hk); (try clear hi); (try clear ho0); obtain ⟨Ao18, co18, eo18⟩ := Kd.R_slice HO581.out; subst eo18) | ((with_reducible refine gate_callee (f := 92) rfl ?_); refine goesL_ (some 27) rfl rfl Try.func92 kf rfl #[.slice Ao18 t579.length co18] rfl sm ?_; (with_reducible refine (impl_withSign.calls k (fun k_ => some k_ = (.slice Ao18 t579.length co18 : Value).ownBlock) (.slice Ao18 t579.length co18) t579 t582 w _ ?side1 ?side2 A8.out).mono ?_); (case side1 => repeat (first | (with_reducible first | exact HB.out | apply below_alloc | apply pw_below_drewN | apply below_drew1) | exact HB.out)); (case side2 => exact Kd.R_tight rfl HO581.out); rintro e w19 ⟨v583, rfl, ho0, hb, hkp⟩; refine ⟨_, rfl, ?_⟩; have n0_ := Aside0.mk (Kd.R_mono (ok' := fun k_ => some k_ ≠ (.slice Ao12 t568.length co12 : Value).ownBlock ∧ some k_ ≠ (.slice Ao14 t571.length co14 : Value).ownBlock ∧ some k_ ≠ (.slice Ao16 t575.length co16 : Value).ownBlock ∧ some k_ ≠ (v583 : Value).ownBlock) (Kd.R_keptB (HO567.out) hkp (fun k_ hk_ hs_ => (hk_.2) hs_)) (fun k_ hk_ => ⟨hk_.1.1.1.1.2, hk_.1.1.1.2, hk_.1.1.2, fun e_ => Or.elim (ho0.1 k_ e_.symm) (fun hs_ => hk_.2.1 hs_) (fun hn_ => Nat.not_le.2 hk_.2.2 hn_)⟩)); have n1_ := Aside0.mk (Kd.R_mono (ok' := fun k_ => some k_ ≠ (.slice Ao10 t565.length co10 : Value).ownBlock ∧ some k_ ≠ (.slice Ao14 t571.length co14 : Value).ownBlock ∧ some k_ ≠ (.slice Ao16 t575.length co16 : Value).ownBlock ∧ some k_ ≠ (v583 : Value).ownBlock) (Kd.R_keptB (HO570.out) hkp (fun k_ hk_ hs_ => (hk_.2) hs_)) (fun k_ hk_ => ⟨hk_.1.1.1.1.2, hk_.1.1.1.2, hk_.1.1.2, fun e_ => Or.elim (ho0.1 k_ e_.symm) (fun hs_ => hk_.2.1 hs_) (fun hn_ => Nat.not_le.2 hk_.2.2 hn_)⟩)); have n2_ := Aside0.mk (Kd.R_mono (ok' := fun k_ => some k_ ≠ (.slice Ao10 t565.length co10 : Value).ownBlock ∧ some k_ ≠ (.slice Ao12 t568.length co12 : Value).ownBlock ∧ some k_ ≠ (.slice Ao16 t575.length co16 : Value).ownBlock ∧ some k_ ≠ (v583 : Value).ownBlock) (Kd.R_keptB (HO573.out) hkp (fun k_ hk_ hs_ => (hk_.2) hs_)) (fun k_ hk_ => ⟨hk_.1.1.1.1.2, hk_.1.1.1.2, hk_.1.1.2, fun e_ => Or.elim (ho0.1 k_ e_.symm) (fun hs_ => hk_.2.1 hs_) (fun hn_ => Nat.not_le.2 hk_.2.2 hn_)⟩)); have n3_ := Aside0.mk (Kd.R_mono (ok' := fun k_ => some k_ ≠ (.slice Ao10 t565.length co10 : Value).ownBlock ∧ some k_ ≠ (.slice Ao12 t568.length co12 : Value).ownBlock ∧ some k_ ≠ (.slice Ao14 t571.length co14 : Value).ownBlock ∧ some k_ ≠ (v583 : Value).ownBlock) (Kd.R_keptB (HO578.out) hkp (fun k_ hk_ hs_ => (hk_.2) hs_)) (fun k_ hk_ => ⟨hk_.1.1.1.1.2, hk_.1.1.1.2, hk_.1.1.2, fun e_ => Or.elim (ho0.1 k_ e_.symm) (fun hs_ => hk_.2.1 hs_) (fun hn_ => Nat.not_le.2 hk_.2.2 hn_)⟩)); have n4_ := Aside0.mk (Kd.R_mono (ok' := fun k_ => some k_ ≠ (.slice Ao10 t565.length co10 : Value).ownBlock ∧ some k_ ≠ (.slice Ao12 t568.length co12 : Value).ownBlock ∧ some k_ ≠ (.slice Ao14 t571.length co14 : Value).ownBlock ∧ some k_ ≠ (.slice Ao16 t575.length co16 : Value).ownBlock) ho0 (fun k_ hk_ => ⟨Or.elim hk_ (fun hs_ => fun e_ => (((HO567.out).1 k_ e_.symm).2) hs_) (fun hn_ => (Kd.fresh' (Kd.R_lt (kr HO567)) k_ hn_)), Or.elim hk_ (fun hs_ => fun e_ => (((HO570.out).1 k_ e_.symm).2) hs_) (fun hn_ => (Kd.fresh' (Kd.R_lt (kr HO570)) k_ hn_)), Or.elim hk_ (fun hs_ => fun e_ => (((HO573.out).1 k_ e_.symm).2) hs_) (fun hn_ => (Kd.fresh' (Kd.R_lt (kr HO573)) k_ hn_)), Or.elim hk_ (fun hs_ => fun e_ => (((HO578.out).1 k_ e_.symm).2) hs_) (fun hn_ => (Kd.fresh' (Kd.R_lt (kr HO578)) k_ hn_))⟩)); have n5_ := Aside0.mk (hb); clear HO567; clear HO570; clear HO573; clear HO578; clear HB; clear HO581; have HO567 := n0_; have HO570 := n1_; have HO573 := n2_; have HO578 := n3_; have HO584 := n4_; have HB := n5_; clear n0_ n1_ n2_ n3_ n4_ n5_; (try clear hb); (try clear hkp); (try clear ho0)))
  go_ret2
  exact ⟨_, er, by (with_reducible repeat (first | apply Kd.R_alloc | apply Kd.R_drewN | apply Kd.R_drew)); exact Kd.R_mono HO584.out (fun _ hk => trivial), bz⟩
 ·replace c5 := Bool.eq_false_iff.mpr c5
  subst c5
  rw [if_neg (show ¬ (false = true) by decide)] at H
  simp only [Option.some.injEq, Prod.mk.injEq] at H
  obtain ⟨rfl, rfl⟩ := H
  go_enter Try.func56, Try.ntmps56
  go_wp2_with (first | ((with_reducible refine gate_callee (f := 93) rfl ?_); refine goesL_ (some 9) rfl rfl Try.func93 kf rfl #[.slice A0 l0.length c0] rfl sm ?_; (with_reducible refine (impl_divided.calls k _ _ l0 t565 _ ?side1 ?side2 A2.out).mono ?_); (case side1 => exact cc HR0); (case side2 => exact HC0.out); rintro e w20 ⟨v566, rfl, ho0, hb⟩; refine ⟨_, rfl, ?_⟩; have n0_ := Aside0.mk (Kd.R_lower ho0 (below_size bz)); have n1_ := Aside0.mk (below_step bz hb); clear HB; have HO567 := n0_; have HB := n1_; clear n0_ n1_; (try clear hb); (try clear hb2); (try clear hk); (try clear hi); (try clear ho0); obtain ⟨Ao21, co21, eo21⟩ := Kd.R_slice HO567.out; subst eo21) | ((with_reducible refine gate_callee (f := 96) rfl ?_); refine goesL_ (some 13) rfl rfl Try.func96 kf rfl #[.slice Ao21 t565.length co21] rfl sm ?_; (with_reducible refine (impl_deriveSingle.calls k _ _ t565 t568 _ ?side1 ?side2 A3.out).mono ?_); (case side1 => exact cr HO567); (case side2 => exact (Kd.R_reads' HO567.out).2.1); rintro e w22 ⟨v569, rfl, ho0, hb⟩; refine ⟨_, rfl, ?_⟩; have n0_ := Aside0.mk (Kd.R_elder' (kr HO567) (Kd.R_base ho0) hb); have n1_ := Aside0.mk (Kd.R_lower (Kd.R_new' ho0 (Kd.R_lt (kr HO567))) (below_size bz)); have n2_ := Aside0.mk (below_step bz hb); clear HO567; clear HB; have HO567 := n0_; have HO570 := n1_; have HB := n2_; clear n0_ n1_ n2_; (try clear hb); (try clear hb2); (try clear hk); (try clear hi); (try clear ho0); obtain ⟨Ao23, co23, eo23⟩ := Kd.R_slice HO570.out; subst eo23) | ((with_reducible refine gate_callee (f := 54) rfl ?_); refine goesL_ (some 14) rfl rfl Try.func54 kf rfl #[.slice Ao21 t565.length co21, .slice Ao23 t568.length co23] rfl sm ?_; (with_reducible refine (impl_commonDivisor.calls k (fun k_ => some k_ = (.slice Ao21 t565.length co21 : Value).ownBlock) _ _ t565 (fun k_ => some k_ = (.slice Ao23 t568.length co23 : Value).ownBlock) _ _ t568 t571 false _ ?side1 ?side2 A4.out).mono ?_); (case side1 => exact Kd.R_V (Kd.R_tight rfl (HO567.out))); (case side2 => exact Kd.R_V (Kd.R_tight rfl (HO570.out))); rintro e w24 ⟨v572, rfl, ho0, hb⟩; refine ⟨_, rfl, ?_⟩; have n0_ := Aside0.mk (Kd.R_elder' (kr HO567) (Kd.R_base ho0) hb); have n1_ := Aside0.mk (Kd.R_elder' (kr HO570) (Kd.R_base ho0) hb); have n2_ := Aside0.mk (Kd.R_lower (Kd.R_new' (Kd.R_new' (Kd.R_mono (ok' := fun k_ => True) ho0 (fun _ hk_ => trivial)) (Kd.R_lt (kr HO567))) (Kd.R_lt (kr HO570))) (below_size bz)); have n3_ := Aside0.mk (below_step bz hb); clear HO567; clear HO570; clear HB; have HO567 := n0_; have HO570 := n1_; have HO573 := n2_; have HB := n3_; clear n0_ n1_ n2_ n3_; (try clear hb); (try clear hb2); (try clear hk); (try clear hi); (try clear ho0)))
  go_ret2
  exact ⟨_, er, by first | exact Kd.R_nil _ _ _ _ _ | exact Kd.N_nil _ _ _ _ _ | exact Kd.V_nil _ _ _ _ _ | exact Kd.Q_nil _ _ _ _ _ | exact Kd.S_nil _ _ _ _ _, bz⟩
mutual
def impl_sturmChain.j0 : Nat → List (List Int) → Option ((List (List Int)) × Bool)
 | 0, _ => none
 | k + 1, x6 => impl_sturmChain.l0 k x6 (x6.length : Int)
def impl_sturmChain.l0 : Nat → List (List Int) → Int → Option ((List (List Int)) × Bool)
 | 0, _, _ => none
 | k + 1, x6, x7 => if 0 ≤ (wrap64 (x7 - 1)) then (if (wrap64 (x7 - 1)) < (x6.length : Int) then (if ((rd_L1 x6 (wrap64 (x7 - 1))).length : Int) > 1 then (if 0 ≤ (wrap64 (x7 - 2)) then (if (wrap64 (x7 - 2)) < (x6.length : Int) then ((impl_remainder.f k (rd_L1 x6 (wrap64 (x7 - 2))) (rd_L1 x6 (wrap64 (x7 - 1)))).bind fun bt604 => (if bt604.2 = true then ((impl_negated.f k bt604.1).bind fun t608 => (if x6.length < 5864062014805 then (impl_sturmChain.l0 k (x6 ++ [t608]) (wrap64 (x7 + 1))) else (none))) else (some (([] : List (List Int)), false)))) else (none)) else (none)) else (some (x6, true))) else (none)) else (none)
end
def impl_sturmChain.f (k : Nat) (l0 : List Int) : Option ((List (List Int)) × Bool) := (impl_squarefreePart.f k l0).bind fun bt585 => (if bt585.2 = true then ((some (([bt585.1] : List (List Int)) : List (List Int))).bind fun y589 => (if (bt585.1.length : Int) > 1 then ((impl_deriveSingle.f k bt585.1).bind fun t592 => ((impl_divided.f k t592).bind fun t595 => (if y589.length < 5864062014805 then (impl_sturmChain.j0 k (y589 ++ [t595])) else (none)))) else (impl_sturmChain.j0 k y589))) else (some (([] : List (List Int)), false)))
def impl_sturmChain.T10 : Bool × List (List Nat × List Nat) := (true, [([], []), ([], []), ([1], [1]), ([0, 2], [0, 2]), ([3], [3]), ([], []), ([], []), ([6], [6]), ([5, 7], [5, 7]), ([8], [8]), ([4, 9], [4, 9]), ([10], [10]), ([11], [11]), ([11], [11]), ([12, 10, 0, 1, 2, 3, 4, 5, 6, 7, 8, 9, 10, 11, 12], [12]), ([13, 14, 0, 1, 2, 3, 4, 5, 6, 7, 8, 9, 10, 11, 12, 13, 14], [13])])
def impl_sturmChain.B10 : List Nat := [0, 0, 2, 7, 15, 0, 0, 64, 224, 480, 1023, 2047, 4095, 4095, 8191, 32767]
theorem impl_sturmChain.tab10 : rtab .any (opsOf Try.f64 10) = impl_sturmChain.T10 := by kernel_rfl
theorem impl_sturmChain.bits10 : waitsOk impl_sturmChain.T10.2 impl_sturmChain.B10 = true := by kernel_rfl
set_option maxHeartbeats 8000000 in
set_option maxRecDepth 100000 in
theorem impl_sturmChain.calls (k : Nat) (A0 : Option Addr) (c0 : Nat) (l0 : List Int) (r1 : List (List Int)) (r2 : Bool) (w : World) (hr0 : Kd.C (Kd.int .i64) w A0 l0.length l0) (hc0 : l0.length ≤ c0) (h : impl_sturmChain.f k l0 = some (r1, r2)) :
 Calls Try.prog 64 #[.slice A0 l0.length c0] w fun e w' => ∃ v0_ : Value, e = .returned (.tuple #[v0_, .bool r2]) ∧ Kd.N (Kd.slice 3 (Kd.int .i64)) 22 w' w.heap.size (fun k_ => (w.heap.size ≤ k_)) v0_ r1 ∧ Below w.heap.size w w' := by
 have HR0 := Aside0.mk hr0
 have HC0 := Aside0.mk hc0
 clear hr0 hc0
 have HB := Aside0.mk (Below.refl w.heap.size w)
 have H : ((impl_squarefreePart.f k l0).bind fun bt585 => (if bt585.2 = true then ((some (([bt585.1] : List (List Int)) : List (List Int))).bind fun y589 => (if (bt585.1.length : Int) > 1 then ((impl_deriveSingle.f k bt585.1).bind fun t592 => ((impl_divided.f k t592).bind fun t595 => (if y589.length < 5864062014805 then (impl_sturmChain.j0 k (y589 ++ [t595])) else (none)))) else (impl_sturmChain.j0 k y589))) else (some (([] : List (List Int)), false)))) = some (r1, r2) := h
 clear h
 obtain ⟨⟨t585, t586⟩, A2, H⟩ := bi H
 try dsimp only at H
 by_cases c3 : t586 = true
 ·subst c3
  rw [if_pos rfl] at H
  obtain ⟨y589, hy589⟩ : ∃ y_ : List (List Int), y_ = (([t585] : List (List Int))) := ⟨_, rfl⟩
  replace H : (if (t585.length : Int) > 1 then ((impl_deriveSingle.f k t585).bind fun t592 => ((impl_divided.f k t592).bind fun t595 => (if y589.length < 5864062014805 then (impl_sturmChain.j0 k (y589 ++ [t595])) else (none)))) else (impl_sturmChain.j0 k y589)) = some (r1, r2) := by first | (rw [hy589]; with_reducible exact H) | (have H2_ := (Option.bind_some _ _).symm.trans H; rw [hy589]; with_reducible exact H2_) | (have H2_ := (Option.bind_some _ _).symm.trans H; with_reducible exact H2_) | with_reducible exact H | (rw [hy589]; exact H) | exact H
  have Ny589 := Aside0.mk hy589
  clear hy589
  have HC4 := Aside0.mk H
  clear H
  go_enter Try.func64, Try.ntmps64
  go_upto_if 21 with (first | ((with_reducible refine gate_callee (f := 56) rfl ?_); refine goesL_ (some 12) rfl rfl Try.func56 kf rfl #[.slice A0 l0.length c0] rfl sm ?_; (with_reducible refine (impl_squarefreePart.calls k _ _ l0 t585 true _ ?side1 ?side2 A2.out).mono ?_); (case side1 => exact cc HR0); (case side2 => exact HC0.out); rintro e w5 ⟨v587, rfl, ho0, hb⟩; refine ⟨_, rfl, ?_⟩; have n0_ := Aside0.mk (Kd.R_lower (Kd.R_newM (M := fun k_ => (w.heap.size ≤ k_)) ho0 (below_size bz) (fun k_ h_ => h_)) (below_size bz)); have n1_ := Aside0.mk (below_step bz hb); clear HB; have HO588 := n0_; have HB := n1_; clear n0_ n1_; (try clear hb); (try clear hb2); (try clear hk); (try clear hi); (try clear ho0); obtain ⟨Ao6, co6, eo6⟩ := Kd.R_slice HO588.out; subst eo6) | ((with_reducible refine gate_dst (N := 18) rfl ?_); refine Kd.N_lit (Kd.slice 3 (Kd.int .i64)) _ 22 ?hg (N' := 18) ?hd (xs := ([t585] : List (List Int))) (inner := [.slice Ao6 t585.length co6]) (ok := (fun k_ => (w.heap.size ≤ k_))) (okp := (fun k_ => (w.heap.size ≤ k_))) ?hr ?hp (fun _ hk => hk) ((show ∀ k_, w5.heap.size ≤ k_ → (fun k_ => (w.heap.size ≤ k_)) k_ from fun k_ hk => (Nat.le_trans (below_size bz) hk)) _ (Nat.le_refl _)) (Below.refl _ _) (Nat.le_refl _) (by simp) ?_; (case hd => rfl); (case hg => rfl); (case hr => first | (go_simp; done) | (go_simp; rfl)); (case hp => exact (Reps.one (show Kd.FK (Kd.slice 3 (Kd.int .i64)) _ _ t585 [.slice Ao6 t585.length co6] from (Kd.FK_slice_mk (Kd.R_reads' (Kd.R_mono (ok' := (fun k_ => (w.heap.size ≤ k_))) (HO588.out) (fun k_ hk => hk.1))).2.1 (Kd.R_F (Kd.R_mono (ok' := (fun k_ => (w.heap.size ≤ k_))) (HO588.out) (fun k_ hk => hk.1))))) (Reps.none _ _))); intro v590 w7 ho8 hb hg_ hnew_; clear hg_ hnew_; (first | rw [← Ny589.out] at ho8 | (simp only [Int.reduceToNat] at ho8; rw [← Ny589.out] at ho8)); have n0_ := Aside0.mk (Kd.N_lower ho8 (below_size bz)); have n1_ := Aside0.mk (below_step bz hb); have nk_ := Aside0.mk (Kd.R_below (kr HO588) hb); clear HB; clear HO588; have HO588 := nk_; clear nk_; have HO591 := n0_; have HB := n1_; clear n0_ n1_; clear hb ho8))
  (try simp only [Act.put, List.setIfInBounds_toArray, List.set_cons_zero, List.set_cons_succ])
  go_cut [6] (fun v6 wc => ∃ (kq : Nat) (x6_3 : List (List Int)), Aside0 (impl_sturmChain.j0 kq x6_3 = some (r1, r2)) ∧ Aside0 (kq ≤ k) ∧ Aside0 (Kd.N (Kd.slice 3 (Kd.int .i64)) 22 wc w.heap.size (fun k_ => (w.heap.size ≤ k_)) v6 x6_3) ∧ Aside0 (Below w.heap.size w wc))
  case first =>
   have H := HC4.out
   clear HC4
   by_cases c9 : (t585.length : Int) > 1
   ·rw [if_pos c9] at H
    have c9b0 : decide (1 < (t585.length : Int)) = true := decide_eq_true c9
    have c9b1 : decide (1 < t585.length) = true := decide_eq_true (by omega)
    clear c9
    (first | rw [c9b0] | (simp only [i64_w, i32_w]; rw [c9b0]) | skip)
    obtain ⟨t592, A10, H⟩ := bi H
    obtain ⟨t595, A11, H⟩ := bi H
    by_cases c12 : y589.length < 5864062014805
    ·rw [if_pos c12] at H
     have LMc12 := Aside0.mk c12
     clear c12
     obtain ⟨y598, hy598⟩ : ∃ y_ : List (List Int), y_ = (y589 ++ [t595]) := ⟨_, rfl⟩
     replace H : (impl_sturmChain.j0 k y598) = some (r1, r2) := by first | (rw [hy598]; with_reducible exact H) | (have H2_ := (Option.bind_some _ _).symm.trans H; rw [hy598]; with_reducible exact H2_) | (have H2_ := (Option.bind_some _ _).symm.trans H; with_reducible exact H2_) | with_reducible exact H | (rw [hy598]; exact H) | exact H
     have Ny598 := Aside0.mk hy598
     clear hy598
     have H' := Aside0.mk H
     clear H
     go_wp2_with (first | ((with_reducible refine gate_callee (f := 96) rfl ?_); refine goesL_ (some 24) rfl rfl Try.func96 kf rfl #[.slice Ao6 t585.length co6] rfl sm ?_; (with_reducible refine (impl_deriveSingle.calls k _ _ t585 t592 _ ?side1 ?side2 A10.out).mono ?_); (case side1 => exact cr HO588); (case side2 => exact (Kd.R_reads' HO588.out).2.1); rintro e w13 ⟨v593, rfl, ho0, hb⟩; refine ⟨_, rfl, ?_⟩; have n0_ := Aside0.mk (Kd.N_elder' (kn HO591) (Kd.R_base ho0) hb); have n1_ := Aside0.mk (Kd.R_lower (Kd.R_newM (M := fun k_ => (w.heap.size ≤ k_)) ho0 (below_size bz) (fun k_ h_ => h_)) (below_size bz)); have n2_ := Aside0.mk (below_step bz hb); clear HO591; clear HB; have HO591 := n0_; have HO594 := n1_; have HB := n2_; clear n0_ n1_ n2_; (try clear hb); (try clear hb2); (try clear hk); (try clear hi); (try clear ho0); obtain ⟨Ao14, co14, eo14⟩ := Kd.R_slice HO594.out; subst eo14) | ((with_reducible refine gate_callee (f := 93) rfl ?_); refine goesL_ (some 25) rfl rfl Try.func93 kf rfl #[.slice Ao14 t592.length co14] rfl sm ?_; (with_reducible refine (impl_divided.calls k _ _ t592 t595 _ ?side1 ?side2 A11.out).mono ?_); (case side1 => exact cr HO594); (case side2 => exact (Kd.R_reads' HO594.out).2.1); rintro e w15 ⟨v596, rfl, ho0, hb⟩; refine ⟨_, rfl, ?_⟩; have n0_ := Aside0.mk (Kd.N_elder' (kn HO591) (Kd.R_base ho0) hb); have n1_ := Aside0.mk (Kd.R_elder' (kr HO594) (Kd.R_base ho0) hb); have n2_ := Aside0.mk (Kd.R_lower (Kd.R_new' (Kd.R_newM (M := fun k_ => (w.heap.size ≤ k_)) ho0 (below_size bz) (fun k_ h_ => h_)) (Kd.R_lt (kr HO594))) (below_size bz)); have n3_ := Aside0.mk (below_step bz hb); clear HO591; clear HO594; clear HB; have HO591 := n0_; have HO594 := n1_; have HO597 := n2_; have HB := n3_; clear n0_ n1_ n2_ n3_; (try clear hb); (try clear hb2); (try clear hk); (try clear hi); (try clear ho0); obtain ⟨Ao17, co17, eo17⟩ := Kd.R_slice HO597.out; subst eo17) | ((with_reducible refine gate_builtin (b := .append) (xs := #[.tmp 22, .tmp 26]) rfl ?_); at_builtin; refine Kd.N_append (Kd.slice 3 (Kd.int .i64)) (w0 := w) w.heap.size rfl (.tmp 22) (.tmp 26) 37 22 (.slice none 0 0) 24 rfl Try.underlying37 info22 rfl (by decide) (by omega) v590 y589 t595 [.slice Ao17 t595.length co17] (fun k_ => (w.heap.size ≤ k_) ∧ some k_ ≠ (.slice Ao14 t592.length co14 : Value).ownBlock) (fun k_ => ((fun k_ => (w.heap.size ≤ k_) ∧ some k_ ≠ (.slice Ao14 t592.length co14 : Value).ownBlock)) k_ ∧ some k_ ≠ (v590 : Value).ownBlock) rfl rfl ?aP (fun _ hk => hk) ?aF ?aO ?aB ?aS ?aL ?_; (case aP => exact (Kd.FK_slice_mk (Kd.R_reads' (Kd.R_mono (ok' := (fun k_ => ((fun k_ => (w.heap.size ≤ k_) ∧ some k_ ≠ (.slice Ao14 t592.length co14 : Value).ownBlock)) k_ ∧ some k_ ≠ (v590 : Value).ownBlock)) (Kd.R_apart' (HO597.out) (Kd.N_typed HO591.out) (by decide)) (fun k_ hk => ⟨⟨hk.1.1.1, hk.1.2⟩, hk.2⟩))).2.1 (Kd.R_F (Kd.R_mono (ok' := (fun k_ => ((fun k_ => (w.heap.size ≤ k_) ∧ some k_ ≠ (.slice Ao14 t592.length co14 : Value).ownBlock)) k_ ∧ some k_ ≠ (v590 : Value).ownBlock)) (Kd.R_apart' (HO597.out) (Kd.N_typed HO591.out) (by decide)) (fun k_ hk => ⟨⟨hk.1.1.1, hk.1.2⟩, hk.2⟩))))); (case aB => exact bz); (case aF => exact (fun k_ hk => ⟨(Nat.le_trans (below_size bz) hk), Kd.fresh' (Kd.R_lt (kr HO594)) k_ hk⟩)); (case aO => exact (by (with_reducible repeat (first | apply Kd.N_alloc | apply Kd.N_drewN | apply Kd.N_drew)); exact Kd.N_mono HO591.out (fun _ hk => ⟨hk.1.1, hk.1.2⟩))); (case aS => exact (below_size bz)); (case aL => have := LMc12.out; omega); intro v599 w16 ho hb hg hat; rw [← Ny598.out] at ho; have n0_ := Aside0.mk (Kd.R_over' (kr HO594) (Kd.N_typed (kn HO591)) (by decide) hg); have n1_ := Aside0.mk (hb); have n2_ := Aside0.mk (ho); clear HO594; clear HB; clear HO591; clear HO597; have HO594 := n0_; have HB := n1_; have HO600 := n2_; clear n0_ n1_ n2_; clear ho hb hg hat))
     go_meet
     case rel => exact ⟨_, (y598), H', ⟨by first | omega | exact Nat.le_refl _⟩, ⟨by (with_reducible repeat (first | apply Kd.N_alloc | apply Kd.N_drewN | apply Kd.N_drew)); exact Kd.N_mono HO600.out (fun _ hk => hk.1)⟩, ⟨bz⟩⟩
    ·rw [if_neg c12] at H
     exact absurd H (by simp)
   ·rw [if_neg c9] at H
    have c9b0 : decide (1 < (t585.length : Int)) = false := decide_eq_false c9
    have c9b1 : decide (1 < t585.length) = false := decide_eq_false (by omega)
    clear c9
    (first | rw [c9b0] | (simp only [i64_w, i32_w]; rw [c9b0]) | skip)
    have H' := Aside0.mk H
    clear H
    go_wp2
    go_meet
    case rel => exact ⟨_, (y589), H', ⟨by first | omega | exact Nat.le_refl _⟩, ⟨kn HO591⟩, ⟨bz⟩⟩
  case rest =>
   clear HC4
   try clear c1; try clear p2; try clear c3; try clear c5; try clear c6; try clear c9; try clear c9b0; try clear c9b1; try clear c12
   obtain ⟨kq, x6_3, HA, HJ3, HO_6, HB⟩ := hcut
   cases kq with
   | zero => exact absurd HA.out (by simp [impl_sturmChain.j0])
   | succ kj3 =>
    have H := HA.out
    clear HA
    simp only [impl_sturmChain.j0] at H
    have H' := Aside0.mk H
    clear H
    obtain ⟨Ao18, co18, eo18⟩ := Kd.N_slice HO_6.out
    subst eo18
    go_wp2
    go_loopg [6, 7] kj3 (fun kq v6 v7 w' => ∃ (x6_2 : List (List Int)) (x7_2 : Int), v7 = .int .i64 x7_2 ∧ Aside0 (impl_sturmChain.l0 kq x6_2 x7_2 = some (r1, r2)) ∧ Aside0 (kq ≤ kj3) ∧ Aside0 (Kd.N (Kd.slice 3 (Kd.int .i64)) 22 w' w.heap.size (fun k_ => (w.heap.size ≤ k_)) v6 x6_2) ∧ Aside0 (Below w.heap.size w w'))
    case atStart => exact ⟨(x6_3), ((x6_3.length : Int)), sr, H', ⟨Nat.le_refl _⟩, ⟨kn HO_6⟩, ⟨bz⟩⟩
    case round =>
     clear H'
     try clear c1; try clear p2; try clear c3; try clear c5; try clear c6; try clear c9; try clear c9b0; try clear c9b1; try clear c12; try clear p2
     obtain ⟨x6_2, x7_2, rfl, HA, HK2, HO_6, HB⟩ := hrel
     cases gk with
     | zero => exact absurd HA.out (by simp [impl_sturmChain.l0])
     | succ k2 =>
      have H := HA.out
      clear HA
      simp only [impl_sturmChain.l0] at H
      obtain ⟨ji19, hji19⟩ : ∃ j_ : Int, (wrap64 (x7_2 - 1)) = j_ := ⟨_, rfl⟩
      first | rw [hji19] at H | simp only [hji19] at H
      have hji19w : (IntKind.i64.wrap (x7_2 - 1)) = ji19 := (i64_w _).trans hji19
      by_cases c20 : 0 ≤ (ji19)
      ·rw [if_pos c20] at H
       have c20b0 : decide (0 ≤ (ji19)) = true := decide_eq_true c20
       clear c20
       by_cases c21 : (ji19) < (x6_2.length : Int)
       ·rw [if_pos c21] at H
        have c21b0 : decide ((ji19) < (x6_2.length : Int)) = true := decide_eq_true c21
        clear c21
        by_cases c22 : ((rd_L1 x6_2 (ji19)).length : Int) > 1
        ·rw [if_pos c22] at H
         have c22b0 : decide (1 < ((rd_L1 x6_2 (ji19)).length : Int)) = true := decide_eq_true c22
         have c22b1 : decide (1 < (rd_L1 x6_2 (ji19)).length) = true := decide_eq_true (by omega)
         clear c22
         obtain ⟨ji23, hji23⟩ : ∃ j_ : Int, (wrap64 (x7_2 - 2)) = j_ := ⟨_, rfl⟩
         first | rw [hji23] at H | simp only [hji23] at H
         have hji23w : (IntKind.i64.wrap (x7_2 - 2)) = ji23 := (i64_w _).trans hji23
         by_cases c24 : 0 ≤ (ji23)
         ·rw [if_pos c24] at H
          have c24b0 : decide (0 ≤ (ji23)) = true := decide_eq_true c24
          clear c24
          by_cases c25 : (ji23) < (x6_2.length : Int)
          ·rw [if_pos c25] at H
           have c25b0 : decide ((ji23) < (x6_2.length : Int)) = true := decide_eq_true c25
           clear c25
           obtain ⟨⟨t604, t605⟩, A26, H⟩ := bi H
           try dsimp only at H
           by_cases c27 : t605 = true
           ·subst c27
            rw [if_pos rfl] at H
            obtain ⟨t608, A28, H⟩ := bi H
            by_cases c29 : x6_2.length < 5864062014805
            ·rw [if_pos c29] at H
             have LMc29 := Aside0.mk c29
             clear c29
             obtain ⟨y611, hy611⟩ : ∃ y_ : List (List Int), y_ = (x6_2 ++ [t608]) := ⟨_, rfl⟩
             replace H : (impl_sturmChain.l0 k2 y611 (wrap64 (x7_2 + 1))) = some (r1, r2) := by first | (rw [hy611]; with_reducible exact H) | (have H2_ := (Option.bind_some _ _).symm.trans H; rw [hy611]; with_reducible exact H2_) | (have H2_ := (Option.bind_some _ _).symm.trans H; with_reducible exact H2_) | with_reducible exact H | (rw [hy611]; exact H) | exact H
             have Ny611 := Aside0.mk hy611
             clear hy611
             have H' := Aside0.mk H
             clear H
             obtain ⟨Ao30, co30, eo30⟩ := Kd.N_slice HO_6.out
             subst eo30
             have p601 : 0 ≤ ((ji19) : Int) := of_decide_eq_true am
             have q601 : (ji19) < (x6_2.length : Int) := of_decide_eq_true am
             obtain ⟨ad601, A601_0, c601_0, e601, hx601_0, hl601_0, hi601_0⟩ := at_L1 (Kd.N_reads' HO_6.out).2.2 (ji19) p601 q601
             cases e601
             obtain ⟨ce601, hce601, hMe601, hcc601⟩ := Kd.N_get HO_6.out [] (ji19) p601 (by first | exact q601 | exact of_decide_eq_true am | (have e_ := (Kd.N_reads' HO_6.out).1; omega))
             obtain ⟨ua601_0, uc601_0, rfl, ul601_0, ge601_0⟩ := Kd.FK_slice_open hMe601
             have hv601_0 := hcc601 0 _ rfl
             rw [Nat.add_zero, show ((Kd.slice 3 (Kd.int .i64))).sz = 1 from rfl, Nat.mul_one] at hv601_0
             replace hv601_0 := Option.some.inj (hv601_0.symm.trans hx601_0)
             injection hv601_0 with hva_ hvn_ hvc_
             rw [hva_] at ge601_0
             rw [hvc_] at ul601_0
             have HL601_0 := Aside0.mk (show Kd.V (Kd.int .i64) 3 _ w.heap.size _ _ (rd_L1 x6_2 (ji19)) from Kd.V_mk ul601_0 ge601_0)
             clear hva_ hvn_ hvc_ ge601_0 ul601_0 hcc601 hce601
             have HR601_0 := Aside0.mk hi601_0
             have HC601_0 := Aside0.mk hl601_0
             clear hi601_0 hl601_0
             replace p601 := eq_true p601
             replace q601 := eq_true q601
             try go_wp2
             have n0_ := Aside0.mk (Kd.N_drew HO_6.out)
             have n1_ := Aside0.mk (Kd.V_drew HL601_0.out)
             have n2_ := Aside0.mk (Kd.C_drew HR601_0.out)
             have n3_ := Aside0.mk (below_drew1 HB.out)
             clear HO_6 HL601_0 HR601_0 HB
             have HO_6 := n0_
             have HL601_0 := n1_
             have HR601_0 := n2_
             have HB := n3_
             clear n0_ n1_ n2_ n3_
             have p602 : 0 ≤ ((ji23) : Int) := of_decide_eq_true am
             have q602 : (ji23) < (x6_2.length : Int) := of_decide_eq_true am
             obtain ⟨ad602, A602_0, c602_0, e602, hx602_0, hl602_0, hi602_0⟩ := at_L1 (Kd.N_reads' HO_6.out).2.2 (ji23) p602 q602
             obtain rfl : ad601 = ad602 := (by injection e602)
             obtain ⟨ce602, hce602, hMe602, hcc602⟩ := Kd.N_get HO_6.out [] (ji23) p602 (by first | exact q602 | exact of_decide_eq_true am | (have e_ := (Kd.N_reads' HO_6.out).1; omega))
             obtain ⟨ua602_0, uc602_0, rfl, ul602_0, ge602_0⟩ := Kd.FK_slice_open hMe602
             have hv602_0 := hcc602 0 _ rfl
             rw [Nat.add_zero, show ((Kd.slice 3 (Kd.int .i64))).sz = 1 from rfl, Nat.mul_one] at hv602_0
             replace hv602_0 := Option.some.inj (hv602_0.symm.trans hx602_0)
             injection hv602_0 with hva_ hvn_ hvc_
             rw [hva_] at ge602_0
             rw [hvc_] at ul602_0
             have HL602_0 := Aside0.mk (show Kd.V (Kd.int .i64) 3 _ w.heap.size _ _ (rd_L1 x6_2 (ji23)) from Kd.V_mk ul602_0 ge602_0)
             clear hva_ hvn_ hvc_ ge602_0 ul602_0 hcc602 hce602
             have HR602_0 := Aside0.mk hi602_0
             have HC602_0 := Aside0.mk hl602_0
             clear hi602_0 hl602_0
             replace p602 := eq_true p602
             replace q602 := eq_true q602
             have p603 : 0 ≤ ((ji19) : Int) := of_decide_eq_true am
             have q603 : (ji19) < (x6_2.length : Int) := of_decide_eq_true am
             obtain ⟨ad603, A603_0, c603_0, e603, hx603_0, hl603_0, hi603_0⟩ := at_L1 (Kd.N_reads' HO_6.out).2.2 (ji19) p603 q603
             obtain rfl : ad601 = ad603 := (by injection e603)
             obtain ⟨ce603, hce603, hMe603, hcc603⟩ := Kd.N_get HO_6.out [] (ji19) p603 (by first | exact q603 | exact of_decide_eq_true am | (have e_ := (Kd.N_reads' HO_6.out).1; omega))
             obtain ⟨ua603_0, uc603_0, rfl, ul603_0, ge603_0⟩ := Kd.FK_slice_open hMe603
             have hv603_0 := hcc603 0 _ rfl
             rw [Nat.add_zero, show ((Kd.slice 3 (Kd.int .i64))).sz = 1 from rfl, Nat.mul_one] at hv603_0
             replace hv603_0 := Option.some.inj (hv603_0.symm.trans hx603_0)
             injection hv603_0 with hva_ hvn_ hvc_
             rw [hva_] at ge603_0
             rw [hvc_] at ul603_0
             have HL603_0 := Aside0.mk (show Kd.V (Kd.int .i64) 3 _ w.heap.size _ _ (rd_L1 x6_2 (ji19)) from Kd.V_mk ul603_0 ge603_0)
             clear hva_ hvn_ hvc_ ge603_0 ul603_0 hcc603 hce603
             have HR603_0 := Aside0.mk hi603_0
             have HC603_0 := Aside0.mk hl603_0
             clear hi603_0 hl603_0
             replace p603 := eq_true p603
             replace q603 := eq_true q603
             refine start_ (n := 16) (S := fun w' => w'.cell? (ad601.add ((ji23)).toNat) = some (.slice A602_0 (rd_L1 x6_2 (ji23)).length c602_0) ∧ w'.cell? (ad601.add ((ji19)).toNat) = some (.slice A603_0 (rd_L1 x6_2 (ji19)).length c603_0)) (ds := []) #[fF, fF, fF, fF, fF, fF, fF, fF, fF, fF, fF, fF, fF, fF, fF, fF] kf rfl rfl ⟨hx602_0, hx603_0⟩ (fun hHeld => ?_); refine with_tabW impl_sturmChain.tab10 impl_sturmChain.bits10 (fun HT_ HW_ => ?_)
             generalize wr.drew = w31 at HO_6 HL601_0 HR601_0 HB HL602_0 HL603_0 HR602_0 HR603_0 hx602_0 hx603_0 hHeld ⊢
             refine pq (i := 0) (N := some 40) #[tT, fF, fF, fF, fF, fF, fF, fF, fF, fF, fF, fF, fF, fF, fF, fF] rfl rfl HT_.out ?_
             refine pq (i := 1) (N := some 41) #[tT, tT, fF, fF, fF, fF, fF, fF, fF, fF, fF, fF, fF, fF, fF, fF] rfl rfl HT_.out ?_
             refine pq (i := 2) (N := some 42) #[tT, tT, tT, fF, fF, fF, fF, fF, fF, fF, fF, fF, fF, fF, fF, fF] rfl rfl HT_.out ?_
             refine pq (i := 3) (N := some 43) #[tT, tT, tT, tT, fF, fF, fF, fF, fF, fF, fF, fF, fF, fF, fF, fF] rfl rfl HT_.out ?_
             refine pq (i := 5) (N := some 45) #[tT, tT, tT, tT, fF, tT, fF, fF, fF, fF, fF, fF, fF, fF, fF, fF] rfl rfl HT_.out ?_
             refine pq (i := 6) (N := some 46) #[tT, tT, tT, tT, fF, tT, tT, fF, fF, fF, fF, fF, fF, fF, fF, fF] rfl rfl HT_.out ?_
             refine pq (i := 7) (N := some 47) #[tT, tT, tT, tT, fF, tT, tT, tT, fF, fF, fF, fF, fF, fF, fF, fF] rfl rfl HT_.out ?_
             refine pq (i := 8) (N := some 48) #[tT, tT, tT, tT, fF, tT, tT, tT, tT, fF, fF, fF, fF, fF, fF, fF] rfl rfl HT_.out ?_
             refine tq2 (i := 4) (N := some 44) #[tT, tT, tT, tT, tT, tT, tT, tT, tT, fF, fF, fF, fF, fF, fF, fF] rfl rfl HT_.out HW_.out hHeld ?_
             refine tq2 (i := 9) (N := some 49) #[tT, tT, tT, tT, tT, tT, tT, tT, tT, tT, fF, fF, fF, fF, fF, fF] rfl rfl HT_.out HW_.out hHeld ?_
             refine one_ (i := 10) (N := some 50) #[tT, tT, tT, tT, tT, tT, tT, tT, tT, tT, tT, fF, fF, fF, fF, fF] rfl rfl (one_of HT_.out kf) (by decide) (fun K hK => ?_)
             refine goes_ Try.func91 kf rfl #[.slice A602_0 (rd_L1 x6_2 (ji23)).length c602_0, .slice A603_0 (rd_L1 x6_2 (ji19)).length c603_0] (by rfl) rfl rfl (by (try simp only [List.map_toArray, List.map_cons, List.map_nil]); first | done | (simp only [hji19, hji23]; rfl) | rfl | (simp only [List.length_drop, List.length_take]; rfl)) ?_
             with_reducible refine (impl_remainder.calls k2 _ _ (rd_L1 x6_2 (ji23)) _ _ (rd_L1 x6_2 (ji19)) t604 true _ ?side1 ?side2 ?side3 ?side4 A26.out).mono ?_
             (case side1 => repeat (first | exact (by repeat (first | (with_reducible exact HR602_0.out) | (with_reducible refine Kd.C_alloc ?_ _) | (with_reducible refine Kd.C_drewN ?_ _) | (with_reducible refine Kd.C_drew ?_) | exact HR602_0.out)) | (with_reducible refine Kd.C_alloc ?_ _) | (with_reducible refine Kd.C_drewN ?_ _) | (with_reducible refine Kd.C_drew ?_)))
             (case side2 => exact HC602_0.out)
             (case side3 => repeat (first | exact (by repeat (first | (with_reducible exact HR603_0.out) | (with_reducible refine Kd.C_alloc ?_ _) | (with_reducible refine Kd.C_drewN ?_ _) | (with_reducible refine Kd.C_drew ?_) | exact HR603_0.out)) | (with_reducible refine Kd.C_alloc ?_ _) | (with_reducible refine Kd.C_drewN ?_ _) | (with_reducible refine Kd.C_drew ?_)))
             (case side4 => exact HC603_0.out)
             rintro e w32 ⟨v606, rfl, ho0, hb⟩
             have HS0_ := (hb.cell (World.block_lt_of_cell? _ _ (hHeld.1))).trans (hHeld.1)
             have HS1_ := (hb.cell (World.block_lt_of_cell? _ _ (hHeld.2))).trans (hHeld.2)
             refine ⟨_, rfl, ?_⟩
             have n0_ := Aside0.mk (Kd.N_elder' (kn HO_6) (Kd.R_base ho0) hb)
             have n1_ := Aside0.mk (Kd.V_elder' (kv HL601_0) (Kd.R_base ho0) hb)
             have n2_ := Aside0.mk (Kd.V_elder' (kv HL602_0) (Kd.R_base ho0) hb)
             have n3_ := Aside0.mk (Kd.V_elder' (kv HL603_0) (Kd.R_base ho0) hb)
             have n4_ := Aside0.mk (Kd.R_lower (Kd.R_newM (M := fun k_ => (w.heap.size ≤ k_)) ho0 (below_size bz) (fun k_ h_ => h_)) (below_size bz))
             have n5_ := Aside0.mk (Kd.C_below (by repeat (first | (with_reducible exact HR601_0.out) | (with_reducible refine Kd.C_alloc ?_ _) | (with_reducible refine Kd.C_drewN ?_ _) | (with_reducible refine Kd.C_drew ?_) | exact HR601_0.out)) hb)
             have n6_ := Aside0.mk (Kd.C_below (by repeat (first | (with_reducible exact HR602_0.out) | (with_reducible refine Kd.C_alloc ?_ _) | (with_reducible refine Kd.C_drewN ?_ _) | (with_reducible refine Kd.C_drew ?_) | exact HR602_0.out)) hb)
             have n7_ := Aside0.mk (Kd.C_below (by repeat (first | (with_reducible exact HR603_0.out) | (with_reducible refine Kd.C_alloc ?_ _) | (with_reducible refine Kd.C_drewN ?_ _) | (with_reducible refine Kd.C_drew ?_) | exact HR603_0.out)) hb)
             have n8_ := Aside0.mk (below_step bz hb)
             clear HO_6 HL601_0 HL602_0 HL603_0 HR601_0 HR602_0 HR603_0 HB
             have HO_6 := n0_
             have HL601_0 := n1_
             have HL602_0 := n2_
             have HL603_0 := n3_
             have HO607 := n4_
             have HR601_0 := n5_
             have HR602_0 := n6_
             have HR603_0 := n7_
             have HB := n8_
             clear n0_ n1_ n2_ n3_ n4_ n5_ n6_ n7_ n8_
             (try clear hb)
             (try clear hb2)
             (try clear hk)
             (try clear hi)
             (try clear ho0)
             refine hK.out _ _ ⟨HS0_, HS1_⟩ (fun hHeld => ?_)
             clear hK K
             refine norm_ (a' := ?_) ?_ ?_
             rotate_left
             ·show Act.put _ (some 50) _ = _
              simp only [Act.put, List.setIfInBounds_toArray, List.set_cons_zero, List.set_cons_succ, i64_w, i32_w]
              rfl
             refine pq (i := 11) (N := some 39) #[tT, tT, tT, tT, tT, tT, tT, tT, tT, tT, tT, tT, fF, fF, fF, fF] rfl rfl HT_.out ?_
             refine pq (i := 12) (N := some 51) #[tT, tT, tT, tT, tT, tT, tT, tT, tT, tT, tT, tT, tT, fF, fF, fF] rfl rfl HT_.out ?_
             refine pq (i := 13) (N := some 52) #[tT, tT, tT, tT, tT, tT, tT, tT, tT, tT, tT, tT, tT, tT, fF, fF] rfl rfl HT_.out ?_
             refine pq (i := 14) (N := some 8) #[tT, tT, tT, tT, tT, tT, tT, tT, tT, tT, tT, tT, tT, tT, tT, fF] rfl rfl HT_.out ?_
             refine pq (i := 15) (N := some 9) #[tT, tT, tT, tT, tT, tT, tT, tT, tT, tT, tT, tT, tT, tT, tT, tT] rfl rfl HT_.out ?_
             refine done_ (done_of HT_.out kf) ?_
             obtain ⟨Ao33, co33, eo33⟩ := Kd.R_slice HO607.out
             subst eo33
             try go_wp2_with (first | ((with_reducible refine gate_callee (f := 102) rfl ?_); refine goesL_ (some 57) rfl rfl Try.func102 kf rfl #[.slice Ao33 t604.length co33] rfl sm ?_; (with_reducible refine (impl_negated.calls k2 _ _ t604 t608 _ ?side1 ?side2 A28.out).mono ?_); (case side1 => exact cr HO607); (case side2 => exact (Kd.R_reads' HO607.out).2.1); rintro e w34 ⟨v609, rfl, ho0, hb⟩; refine ⟨_, rfl, ?_⟩; have n0_ := Aside0.mk (Kd.N_elder' (kn HO_6) (Kd.R_base ho0) hb); have n1_ := Aside0.mk (Kd.V_elder' (kv HL601_0) (Kd.R_base ho0) hb); have n2_ := Aside0.mk (Kd.V_elder' (kv HL602_0) (Kd.R_base ho0) hb); have n3_ := Aside0.mk (Kd.V_elder' (kv HL603_0) (Kd.R_base ho0) hb); have n4_ := Aside0.mk (Kd.R_elder' (kr HO607) (Kd.R_base ho0) hb); have n5_ := Aside0.mk (Kd.R_lower (Kd.R_new' (Kd.R_newM (M := fun k_ => (w.heap.size ≤ k_)) ho0 (below_size bz) (fun k_ h_ => h_)) (Kd.R_lt (kr HO607))) (below_size bz)); have n6_ := Aside0.mk (Kd.C_below (by repeat (first | (with_reducible exact HR601_0.out) | (with_reducible refine Kd.C_alloc ?_ _) | (with_reducible refine Kd.C_drewN ?_ _) | (with_reducible refine Kd.C_drew ?_) | exact HR601_0.out)) hb); have n7_ := Aside0.mk (Kd.C_below (by repeat (first | (with_reducible exact HR602_0.out) | (with_reducible refine Kd.C_alloc ?_ _) | (with_reducible refine Kd.C_drewN ?_ _) | (with_reducible refine Kd.C_drew ?_) | exact HR602_0.out)) hb); have n8_ := Aside0.mk (Kd.C_below (by repeat (first | (with_reducible exact HR603_0.out) | (with_reducible refine Kd.C_alloc ?_ _) | (with_reducible refine Kd.C_drewN ?_ _) | (with_reducible refine Kd.C_drew ?_) | exact HR603_0.out)) hb); have n9_ := Aside0.mk (below_step bz hb); clear HO_6; clear HL601_0; clear HL602_0; clear HL603_0; clear HO607; clear HR601_0; clear HR602_0; clear HR603_0; clear HB; have HO_6 := n0_; have HL601_0 := n1_; have HL602_0 := n2_; have HL603_0 := n3_; have HO607 := n4_; have HO610 := n5_; have HR601_0 := n6_; have HR602_0 := n7_; have HR603_0 := n8_; have HB := n9_; clear n0_ n1_ n2_ n3_ n4_ n5_ n6_ n7_ n8_ n9_; (try clear hb); (try clear hb2); (try clear hk); (try clear hi); (try clear ho0); obtain ⟨Ao36, co36, eo36⟩ := Kd.R_slice HO610.out; subst eo36) | ((with_reducible refine gate_builtin (b := .append) (xs := #[.tmp 55, .tmp 58]) rfl ?_); at_builtin; refine Kd.N_append (Kd.slice 3 (Kd.int .i64)) (w0 := w) w.heap.size rfl (.tmp 55) (.tmp 58) 37 22 (.slice none 0 0) 24 rfl Try.underlying37 info22 rfl (by decide) (by omega) (.slice (some ad601) x6_2.length co30) x6_2 t608 [.slice Ao36 t608.length co36] (fun k_ => (w.heap.size ≤ k_) ∧ some k_ ≠ (.slice Ao33 t604.length co33 : Value).ownBlock) (fun k_ => ((fun k_ => (w.heap.size ≤ k_) ∧ some k_ ≠ (.slice Ao33 t604.length co33 : Value).ownBlock)) k_ ∧ some k_ ≠ (.slice (some ad601) x6_2.length co30 : Value).ownBlock) rfl rfl ?aP (fun _ hk => hk) ?aF ?aO ?aB ?aS ?aL ?_; (case aP => exact (Kd.FK_slice_mk (Kd.R_reads' (Kd.R_mono (ok' := (fun k_ => ((fun k_ => (w.heap.size ≤ k_) ∧ some k_ ≠ (.slice Ao33 t604.length co33 : Value).ownBlock)) k_ ∧ some k_ ≠ (.slice (some ad601) x6_2.length co30 : Value).ownBlock)) (Kd.R_apart' (HO610.out) (Kd.N_typed HO_6.out) (by decide)) (fun k_ hk => ⟨⟨hk.1.1.1, hk.1.2⟩, hk.2⟩))).2.1 (Kd.R_F (Kd.R_mono (ok' := (fun k_ => ((fun k_ => (w.heap.size ≤ k_) ∧ some k_ ≠ (.slice Ao33 t604.length co33 : Value).ownBlock)) k_ ∧ some k_ ≠ (.slice (some ad601) x6_2.length co30 : Value).ownBlock)) (Kd.R_apart' (HO610.out) (Kd.N_typed HO_6.out) (by decide)) (fun k_ hk => ⟨⟨hk.1.1.1, hk.1.2⟩, hk.2⟩))))); (case aB => exact bz); (case aF => exact (fun k_ hk => ⟨(Nat.le_trans (below_size bz) hk), Kd.fresh' (Kd.R_lt (kr HO607)) k_ hk⟩)); (case aO => exact (by (with_reducible repeat (first | apply Kd.N_alloc | apply Kd.N_drewN | apply Kd.N_drew)); exact Kd.N_mono HO_6.out (fun _ hk => ⟨hk.1.1, hk.1.2⟩))); (case aS => exact (below_size bz)); (case aL => have := LMc29.out; omega); intro v612 w35 ho hb hg hat; rw [← Ny611.out] at ho; have n0_ := Aside0.mk (Kd.V_afterv (ok := (fun k_ => (w.heap.size ≤ k_) ∧ some k_ ≠ (.slice Ao33 t604.length co33 : Value).ownBlock ∧ some k_ ≠ (.slice Ao36 t608.length co36 : Value).ownBlock)) (by (with_reducible repeat (first | apply Kd.V_alloc | apply Kd.V_drewN | apply Kd.V_drew)); exact Kd.V_mono HL601_0.out (fun _ hk => ⟨⟨hk.1.1.1, ⟨hk.1.2, hk.2⟩⟩, hk.1.1.2⟩)) hg hat); have n1_ := Aside0.mk (Kd.V_afterv (ok := (fun k_ => (w.heap.size ≤ k_) ∧ some k_ ≠ (.slice Ao33 t604.length co33 : Value).ownBlock ∧ some k_ ≠ (.slice Ao36 t608.length co36 : Value).ownBlock)) (by (with_reducible repeat (first | apply Kd.V_alloc | apply Kd.V_drewN | apply Kd.V_drew)); exact Kd.V_mono HL602_0.out (fun _ hk => ⟨⟨hk.1.1.1, ⟨hk.1.2, hk.2⟩⟩, hk.1.1.2⟩)) hg hat); have n2_ := Aside0.mk (Kd.V_afterv (ok := (fun k_ => (w.heap.size ≤ k_) ∧ some k_ ≠ (.slice Ao33 t604.length co33 : Value).ownBlock ∧ some k_ ≠ (.slice Ao36 t608.length co36 : Value).ownBlock)) (by (with_reducible repeat (first | apply Kd.V_alloc | apply Kd.V_drewN | apply Kd.V_drew)); exact Kd.V_mono HL603_0.out (fun _ hk => ⟨⟨hk.1.1.1, ⟨hk.1.2, hk.2⟩⟩, hk.1.1.2⟩)) hg hat); have n3_ := Aside0.mk (Kd.R_over' (kr HO607) (Kd.N_typed (kn HO_6)) (by decide) hg); have n4_ := Aside0.mk (hb); have n5_ := Aside0.mk (ho); clear HL601_0; clear HL602_0; clear HL603_0; clear HO607; clear HB; clear HO_6; clear HO610; have HL601_0 := n0_; have HL602_0 := n1_; have HL603_0 := n2_; have HO607 := n3_; have HB := n4_; have HO613 := n5_; clear n0_ n1_ n2_ n3_ n4_ n5_; clear ho hb hg hat))
             go_roundg k2
             case measure => have := HJ3.out; have := HK2.out; omega
             case rel => exact ⟨(y611), (wrap64 (x7_2 + 1)), sr, H', ⟨by have := HJ3.out; have := HK2.out; omega⟩, ⟨by (with_reducible repeat (first | apply Kd.N_alloc | apply Kd.N_drewN | apply Kd.N_drew)); exact Kd.N_mono HO613.out (fun _ hk => hk.1)⟩, ⟨bz⟩⟩
            ·rw [if_neg c29] at H
             exact absurd H (by simp)
           ·replace c27 := Bool.eq_false_iff.mpr c27
            subst c27
            rw [if_neg (show ¬ (false = true) by decide)] at H
            simp only [Option.some.injEq, Prod.mk.injEq] at H
            obtain ⟨rfl, rfl⟩ := H
            obtain ⟨Ao37, co37, eo37⟩ := Kd.N_slice HO_6.out
            subst eo37
            have p601 : 0 ≤ ((ji19) : Int) := of_decide_eq_true am
            have q601 : (ji19) < (x6_2.length : Int) := of_decide_eq_true am
            obtain ⟨ad601, A601_0, c601_0, e601, hx601_0, hl601_0, hi601_0⟩ := at_L1 (Kd.N_reads' HO_6.out).2.2 (ji19) p601 q601
            cases e601
            obtain ⟨ce601, hce601, hMe601, hcc601⟩ := Kd.N_get HO_6.out [] (ji19) p601 (by first | exact q601 | exact of_decide_eq_true am | (have e_ := (Kd.N_reads' HO_6.out).1; omega))
            obtain ⟨ua601_0, uc601_0, rfl, ul601_0, ge601_0⟩ := Kd.FK_slice_open hMe601
            have hv601_0 := hcc601 0 _ rfl
            rw [Nat.add_zero, show ((Kd.slice 3 (Kd.int .i64))).sz = 1 from rfl, Nat.mul_one] at hv601_0
            replace hv601_0 := Option.some.inj (hv601_0.symm.trans hx601_0)
            injection hv601_0 with hva_ hvn_ hvc_
            rw [hva_] at ge601_0
            rw [hvc_] at ul601_0
            have HL601_0 := Aside0.mk (show Kd.V (Kd.int .i64) 3 _ w.heap.size _ _ (rd_L1 x6_2 (ji19)) from Kd.V_mk ul601_0 ge601_0)
            clear hva_ hvn_ hvc_ ge601_0 ul601_0 hcc601 hce601
            have HR601_0 := Aside0.mk hi601_0
            have HC601_0 := Aside0.mk hl601_0
            clear hi601_0 hl601_0
            replace p601 := eq_true p601
            replace q601 := eq_true q601
            try go_wp2
            have n0_ := Aside0.mk (Kd.N_drew HO_6.out)
            have n1_ := Aside0.mk (Kd.V_drew HL601_0.out)
            have n2_ := Aside0.mk (Kd.C_drew HR601_0.out)
            have n3_ := Aside0.mk (below_drew1 HB.out)
            clear HO_6 HL601_0 HR601_0 HB
            have HO_6 := n0_
            have HL601_0 := n1_
            have HR601_0 := n2_
            have HB := n3_
            clear n0_ n1_ n2_ n3_
            have p602 : 0 ≤ ((ji23) : Int) := of_decide_eq_true am
            have q602 : (ji23) < (x6_2.length : Int) := of_decide_eq_true am
            obtain ⟨ad602, A602_0, c602_0, e602, hx602_0, hl602_0, hi602_0⟩ := at_L1 (Kd.N_reads' HO_6.out).2.2 (ji23) p602 q602
            obtain rfl : ad601 = ad602 := (by injection e602)
            obtain ⟨ce602, hce602, hMe602, hcc602⟩ := Kd.N_get HO_6.out [] (ji23) p602 (by first | exact q602 | exact of_decide_eq_true am | (have e_ := (Kd.N_reads' HO_6.out).1; omega))
            obtain ⟨ua602_0, uc602_0, rfl, ul602_0, ge602_0⟩ := Kd.FK_slice_open hMe602
            have hv602_0 := hcc602 0 _ rfl
            rw [Nat.add_zero, show ((Kd.slice 3 (Kd.int .i64))).sz = 1 from rfl, Nat.mul_one] at hv602_0
            replace hv602_0 := Option.some.inj (hv602_0.symm.trans hx602_0)
            injection hv602_0 with hva_ hvn_ hvc_
            rw [hva_] at ge602_0
            rw [hvc_] at ul602_0
            have HL602_0 := Aside0.mk (show Kd.V (Kd.int .i64) 3 _ w.heap.size _ _ (rd_L1 x6_2 (ji23)) from Kd.V_mk ul602_0 ge602_0)
            clear hva_ hvn_ hvc_ ge602_0 ul602_0 hcc602 hce602
            have HR602_0 := Aside0.mk hi602_0
            have HC602_0 := Aside0.mk hl602_0
            clear hi602_0 hl602_0
            replace p602 := eq_true p602
            replace q602 := eq_true q602
            have p603 : 0 ≤ ((ji19) : Int) := of_decide_eq_true am
            have q603 : (ji19) < (x6_2.length : Int) := of_decide_eq_true am
            obtain ⟨ad603, A603_0, c603_0, e603, hx603_0, hl603_0, hi603_0⟩ := at_L1 (Kd.N_reads' HO_6.out).2.2 (ji19) p603 q603
            obtain rfl : ad601 = ad603 := (by injection e603)
            obtain ⟨ce603, hce603, hMe603, hcc603⟩ := Kd.N_get HO_6.out [] (ji19) p603 (by first | exact q603 | exact of_decide_eq_true am | (have e_ := (Kd.N_reads' HO_6.out).1; omega))
            obtain ⟨ua603_0, uc603_0, rfl, ul603_0, ge603_0⟩ := Kd.FK_slice_open hMe603
            have hv603_0 := hcc603 0 _ rfl
            rw [Nat.add_zero, show ((Kd.slice 3 (Kd.int .i64))).sz = 1 from rfl, Nat.mul_one] at hv603_0
            replace hv603_0 := Option.some.inj (hv603_0.symm.trans hx603_0)
            injection hv603_0 with hva_ hvn_ hvc_
            rw [hva_] at ge603_0
            rw [hvc_] at ul603_0
            have HL603_0 := Aside0.mk (show Kd.V (Kd.int .i64) 3 _ w.heap.size _ _ (rd_L1 x6_2 (ji19)) from Kd.V_mk ul603_0 ge603_0)
            clear hva_ hvn_ hvc_ ge603_0 ul603_0 hcc603 hce603
            have HR603_0 := Aside0.mk hi603_0
            have HC603_0 := Aside0.mk hl603_0
            clear hi603_0 hl603_0
            replace p603 := eq_true p603
            replace q603 := eq_true q603
            refine start_ (n := 16) (S := fun w' => w'.cell? (ad601.add ((ji23)).toNat) = some (.slice A602_0 (rd_L1 x6_2 (ji23)).length c602_0) ∧ w'.cell? (ad601.add ((ji19)).toNat) = some (.slice A603_0 (rd_L1 x6_2 (ji19)).length c603_0)) (ds := []) #[fF, fF, fF, fF, fF, fF, fF, fF, fF, fF, fF, fF, fF, fF, fF, fF] kf rfl rfl ⟨hx602_0, hx603_0⟩ (fun hHeld => ?_); refine with_tabW impl_sturmChain.tab10 impl_sturmChain.bits10 (fun HT_ HW_ => ?_)
            generalize wr.drew = w38 at HO_6 HL601_0 HR601_0 HB HL602_0 HL603_0 HR602_0 HR603_0 hx602_0 hx603_0 hHeld ⊢
            refine pq (i := 0) (N := some 40) #[tT, fF, fF, fF, fF, fF, fF, fF, fF, fF, fF, fF, fF, fF, fF, fF] rfl rfl HT_.out ?_
            refine pq (i := 1) (N := some 41) #[tT, tT, fF, fF, fF, fF, fF, fF, fF, fF, fF, fF, fF, fF, fF, fF] rfl rfl HT_.out ?_
            refine pq (i := 2) (N := some 42) #[tT, tT, tT, fF, fF, fF, fF, fF, fF, fF, fF, fF, fF, fF, fF, fF] rfl rfl HT_.out ?_
            refine pq (i := 3) (N := some 43) #[tT, tT, tT, tT, fF, fF, fF, fF, fF, fF, fF, fF, fF, fF, fF, fF] rfl rfl HT_.out ?_
            refine pq (i := 5) (N := some 45) #[tT, tT, tT, tT, fF, tT, fF, fF, fF, fF, fF, fF, fF, fF, fF, fF] rfl rfl HT_.out ?_
            refine pq (i := 6) (N := some 46) #[tT, tT, tT, tT, fF, tT, tT, fF, fF, fF, fF, fF, fF, fF, fF, fF] rfl rfl HT_.out ?_
            refine pq (i := 7) (N := some 47) #[tT, tT, tT, tT, fF, tT, tT, tT, fF, fF, fF, fF, fF, fF, fF, fF] rfl rfl HT_.out ?_
            refine pq (i := 8) (N := some 48) #[tT, tT, tT, tT, fF, tT, tT, tT, tT, fF, fF, fF, fF, fF, fF, fF] rfl rfl HT_.out ?_
            refine tq2 (i := 4) (N := some 44) #[tT, tT, tT, tT, tT, tT, tT, tT, tT, fF, fF, fF, fF, fF, fF, fF] rfl rfl HT_.out HW_.out hHeld ?_
            refine tq2 (i := 9) (N := some 49) #[tT, tT, tT, tT, tT, tT, tT, tT, tT, tT, fF, fF, fF, fF, fF, fF] rfl rfl HT_.out HW_.out hHeld ?_
            refine one_ (i := 10) (N := some 50) #[tT, tT, tT, tT, tT, tT, tT, tT, tT, tT, tT, fF, fF, fF, fF, fF] rfl rfl (one_of HT_.out kf) (by decide) (fun K hK => ?_)
            refine goes_ Try.func91 kf rfl #[.slice A602_0 (rd_L1 x6_2 (ji23)).length c602_0, .slice A603_0 (rd_L1 x6_2 (ji19)).length c603_0] (by rfl) rfl rfl (by (try simp only [List.map_toArray, List.map_cons, List.map_nil]); first | done | (simp only [hji19, hji23]; rfl) | rfl | (simp only [List.length_drop, List.length_take]; rfl)) ?_
            with_reducible refine (impl_remainder.calls k2 _ _ (rd_L1 x6_2 (ji23)) _ _ (rd_L1 x6_2 (ji19)) t604 false _ ?side1 ?side2 ?side3 ?side4 A26.out).mono ?_
            (case side1 => repeat (first | exact (by repeat (first | (with_reducible exact HR602_0.out) | (with_reducible refine Kd.C_alloc ?_ _) | (with_reducible refine Kd.C_drewN ?_ _) | (with_reducible refine Kd.C_drew ?_) | exact HR602_0.out)) | (with_reducible refine Kd.C_alloc ?_ _) | (with_reducible refine Kd.C_drewN ?_ _) | (with_reducible refine Kd.C_drew ?_)))
            (case side2 => exact HC602_0.out)
            (case side3 => repeat (first | exact (by repeat (first | (with_reducible exact HR603_0.out) | (with_reducible refine Kd.C_alloc ?_ _) | (with_reducible refine Kd.C_drewN ?_ _) | (with_reducible refine Kd.C_drew ?_) | exact HR603_0.out)) | (with_reducible refine Kd.C_alloc ?_ _) | (with_reducible refine Kd.C_drewN ?_ _) | (with_reducible refine Kd.C_drew ?_)))
            (case side4 => exact HC603_0.out)
            rintro e w39 ⟨v606, rfl, ho0, hb⟩
            have HS0_ := (hb.cell (World.block_lt_of_cell? _ _ (hHeld.1))).trans (hHeld.1)
            have HS1_ := (hb.cell (World.block_lt_of_cell? _ _ (hHeld.2))).trans (hHeld.2)
            refine ⟨_, rfl, ?_⟩
            have n0_ := Aside0.mk (Kd.N_elder' (kn HO_6) (Kd.R_base ho0) hb)
            have n1_ := Aside0.mk (Kd.V_elder' (kv HL601_0) (Kd.R_base ho0) hb)
            have n2_ := Aside0.mk (Kd.V_elder' (kv HL602_0) (Kd.R_base ho0) hb)
            have n3_ := Aside0.mk (Kd.V_elder' (kv HL603_0) (Kd.R_base ho0) hb)
            have n4_ := Aside0.mk (Kd.R_lower (Kd.R_newM (M := fun k_ => (w.heap.size ≤ k_)) ho0 (below_size bz) (fun k_ h_ => h_)) (below_size bz))
            have n5_ := Aside0.mk (Kd.C_below (by repeat (first | (with_reducible exact HR601_0.out) | (with_reducible refine Kd.C_alloc ?_ _) | (with_reducible refine Kd.C_drewN ?_ _) | (with_reducible refine Kd.C_drew ?_) | exact HR601_0.out)) hb)
            have n6_ := Aside0.mk (Kd.C_below (by repeat (first | (with_reducible exact HR602_0.out) | (with_reducible refine Kd.C_alloc ?_ _) | (with_reducible refine Kd.C_drewN ?_ _) | (with_reducible refine Kd.C_drew ?_) | exact HR602_0.out)) hb)
            have n7_ := Aside0.mk (Kd.C_below (by repeat (first | (with_reducible exact HR603_0.out) | (with_reducible refine Kd.C_alloc ?_ _) | (with_reducible refine Kd.C_drewN ?_ _) | (with_reducible refine Kd.C_drew ?_) | exact HR603_0.out)) hb)
            have n8_ := Aside0.mk (below_step bz hb)
            clear HO_6 HL601_0 HL602_0 HL603_0 HR601_0 HR602_0 HR603_0 HB
            have HO_6 := n0_
            have HL601_0 := n1_
            have HL602_0 := n2_
            have HL603_0 := n3_
            have HO607 := n4_
            have HR601_0 := n5_
            have HR602_0 := n6_
            have HR603_0 := n7_
            have HB := n8_
            clear n0_ n1_ n2_ n3_ n4_ n5_ n6_ n7_ n8_
            (try clear hb)
            (try clear hb2)
            (try clear hk)
            (try clear hi)
            (try clear ho0)
            refine hK.out _ _ ⟨HS0_, HS1_⟩ (fun hHeld => ?_)
            clear hK K
            refine norm_ (a' := ?_) ?_ ?_
            rotate_left
            ·show Act.put _ (some 50) _ = _
             simp only [Act.put, List.setIfInBounds_toArray, List.set_cons_zero, List.set_cons_succ, i64_w, i32_w]
             rfl
            refine pq (i := 11) (N := some 39) #[tT, tT, tT, tT, tT, tT, tT, tT, tT, tT, tT, tT, fF, fF, fF, fF] rfl rfl HT_.out ?_
            refine pq (i := 12) (N := some 51) #[tT, tT, tT, tT, tT, tT, tT, tT, tT, tT, tT, tT, tT, fF, fF, fF] rfl rfl HT_.out ?_
            refine pq (i := 13) (N := some 52) #[tT, tT, tT, tT, tT, tT, tT, tT, tT, tT, tT, tT, tT, tT, fF, fF] rfl rfl HT_.out ?_
            refine pq (i := 14) (N := some 8) #[tT, tT, tT, tT, tT, tT, tT, tT, tT, tT, tT, tT, tT, tT, tT, fF] rfl rfl HT_.out ?_
            refine pq (i := 15) (N := some 9) #[tT, tT, tT, tT, tT, tT, tT, tT, tT, tT, tT, tT, tT, tT, tT, tT] rfl rfl HT_.out ?_
            refine done_ (done_of HT_.out kf) ?_
            try go_wp2
            go_ret2
            exact ⟨_, by first | rfl | (simp [errW_none, errW_some] <;> rfl) | (simp only [← hji19, ← hji23]; first | rfl | (simp [errW_none, errW_some] <;> rfl)) | (simp [*, errW_none, errW_some] <;> rfl), by first | exact Kd.S_nil _ _ _ _ _ | exact Kd.N_nil _ _ _ _ _ | exact Kd.V_nil _ _ _ _ _ | exact Kd.Q_nil _ _ _ _ _ | exact Kd.R_nil _ _ _ _ _, bz⟩
          ·rw [if_neg c25] at H
           exact absurd H (by simp)
         ·rw [if_neg c24] at H
          exact absurd H (by simp)
        ·rw [if_neg c22] at H
         have c22b0 : decide (1 < ((rd_L1 x6_2 (ji19)).length : Int)) = false := decide_eq_false c22
         have c22b1 : decide (1 < (rd_L1 x6_2 (ji19)).length) = false := decide_eq_false (by omega)
         clear c22
         simp only [Option.some.injEq, Prod.mk.injEq] at H
         obtain ⟨rfl, rfl⟩ := H
         obtain ⟨Ao40, co40, eo40⟩ := Kd.N_slice HO_6.out
         subst eo40
         have p601 : 0 ≤ ((ji19) : Int) := of_decide_eq_true am
         have q601 : (ji19) < (x6_2.length : Int) := of_decide_eq_true am
         obtain ⟨ad601, A601_0, c601_0, e601, hx601_0, hl601_0, hi601_0⟩ := at_L1 (Kd.N_reads' HO_6.out).2.2 (ji19) p601 q601
         cases e601
         obtain ⟨ce601, hce601, hMe601, hcc601⟩ := Kd.N_get HO_6.out [] (ji19) p601 (by first | exact q601 | exact of_decide_eq_true am | (have e_ := (Kd.N_reads' HO_6.out).1; omega))
         obtain ⟨ua601_0, uc601_0, rfl, ul601_0, ge601_0⟩ := Kd.FK_slice_open hMe601
         have hv601_0 := hcc601 0 _ rfl
         rw [Nat.add_zero, show ((Kd.slice 3 (Kd.int .i64))).sz = 1 from rfl, Nat.mul_one] at hv601_0
         replace hv601_0 := Option.some.inj (hv601_0.symm.trans hx601_0)
         injection hv601_0 with hva_ hvn_ hvc_
         rw [hva_] at ge601_0
         rw [hvc_] at ul601_0
         have HL601_0 := Aside0.mk (show Kd.V (Kd.int .i64) 3 _ w.heap.size _ _ (rd_L1 x6_2 (ji19)) from Kd.V_mk ul601_0 ge601_0)
         clear hva_ hvn_ hvc_ ge601_0 ul601_0 hcc601 hce601
         have HR601_0 := Aside0.mk hi601_0
         have HC601_0 := Aside0.mk hl601_0
         clear hi601_0 hl601_0
         replace p601 := eq_true p601
         replace q601 := eq_true q601
         go_wp2
         go_ret2
         exact ⟨_, by first | rfl | (simp [errW_none, errW_some] <;> rfl) | (simp only [← hji19]; first | rfl | (simp [errW_none, errW_some] <;> rfl)) | (simp [*, errW_none, errW_some] <;> rfl), by (with_reducible repeat (first | apply Kd.N_alloc | apply Kd.N_drewN | apply Kd.N_drew)); exact HO_6.out, bz⟩
       ·rw [if_neg c21] at H
        exact absurd H (by simp)
      ·rw [if_neg c20] at H
       exact absurd H (by simp)
 ·replace c3 := Bool.eq_false_iff.mpr c3
  subst c3
  rw [if_neg (show ¬ (false = true) by decide)] at H
  simp only [Option.some.injEq, Prod.mk.injEq] at H
  obtain ⟨rfl, rfl⟩ := H
  go_enter Try.func64, Try.ntmps64
  go_wp2_with (first | ((with_reducible refine gate_callee (f := 56) rfl ?_); refine goesL_ (some 12) rfl rfl Try.func56 kf rfl #[.slice A0 l0.length c0] rfl sm ?_; (with_reducible refine (impl_squarefreePart.calls k _ _ l0 t585 false _ ?side1 ?side2 A2.out).mono ?_); (case side1 => exact cc HR0); (case side2 => exact HC0.out); rintro e w41 ⟨v587, rfl, ho0, hb⟩; refine ⟨_, rfl, ?_⟩; have n0_ := Aside0.mk (Kd.R_lower (Kd.R_newM (M := fun k_ => (w.heap.size ≤ k_)) ho0 (below_size bz) (fun k_ h_ => h_)) (below_size bz)); have n1_ := Aside0.mk (below_step bz hb); clear HB; have HO588 := n0_; have HB := n1_; clear n0_ n1_; (try clear hb); (try clear hb2); (try clear hk); (try clear hi); (try clear ho0)))
  go_ret2
  exact ⟨_, er, by first | exact Kd.S_nil _ _ _ _ _ | exact Kd.N_nil _ _ _ _ _ | exact Kd.V_nil _ _ _ _ _ | exact Kd.Q_nil _ _ _ _ _ | exact Kd.R_nil _ _ _ _ _, bz⟩
def cmp_isNaN_int.f (a0 : Int) : Option (Bool) := some (a0 != a0)
set_option maxHeartbeats 8000000 in
set_option maxRecDepth 100000 in
theorem cmp_isNaN_int.calls (a0 : Int) (r : Bool) (w : World) (h : cmp_isNaN_int.f a0 = some r) :
 Calls Try.prog 125 #[.int .i64 a0] w fun e w' => e = .returned (.bool r) ∧ Drawn0 w w' := by
 have H : (some (a0 != a0)) = some r := h
 clear h
 obtain rfl := Option.some.inj H
 go_enter Try.func125, Try.ntmps125
 go_wp2
 go_ret
 exact ⟨sr, dz⟩
end Go.Proofs.Ytcgcgifndkeeoaa.QSt
