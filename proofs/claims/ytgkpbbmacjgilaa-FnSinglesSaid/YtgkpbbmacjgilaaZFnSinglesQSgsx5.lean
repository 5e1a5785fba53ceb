import Derived.Test.YtgkpbbmacjgilaaZFnSinglesSq
import Derived.Test.YtgkpbbmacjgilaaZFnSinglesQSgsx2
import Derived.Test.YtgkpbbmacjgilaaZFnSinglesQSgsx4
namespace Go.Proofs.Ytgkpbbmacjgilaa.QSgs
open Go.RowKit Go.Proofs.YtgkpbbmacjgilaaW.PrintWords Go.Proofs.YtgkpbbmacjgilaaW.PrintLast Go.Proofs.YtgkpbbmacjgilaaW.PrintMore
attribute [local go_sem] max2_int min2_int max_two min_two max_three min_three max_four min_four
set_option linter.unusedVariables false
set_option linter.unusedSimpArgs false
def slices_ContainsFunc_int_int__impl_remainder_1.idx : List Int → Int → Option Int
 | [], _ => some (-1)
 | x :: q, i => (impl_remainder_1.f x).bind fun b => if b = true then some i else slices_ContainsFunc_int_int__impl_remainder_1.idx q (i + 1)
def slices_ContainsFunc_int_int__impl_remainder_1.f : List Int → Option Bool
 | [] => some false
 | x :: q => (impl_remainder_1.f x).bind fun b => if b = true then some true else slices_ContainsFunc_int_int__impl_remainder_1.f q
theorem slices_ContainsFunc_int_int__impl_remainder_1.idx_of : ∀ (l : List Int) (i : Int) (r : Bool), 0 ≤ i → slices_ContainsFunc_int_int__impl_remainder_1.f l = some r → ∃ j, slices_ContainsFunc_int_int__impl_remainder_1.idx l i = some j ∧ decide (0 ≤ j) = r
 | [], i, r, hi, h => ⟨-1, rfl, by simp [slices_ContainsFunc_int_int__impl_remainder_1.f] at h; subst h; rfl⟩
 | x :: q, i, r, hi, h => by
  simp only [slices_ContainsFunc_int_int__impl_remainder_1.f] at h
  obtain ⟨b, hb, h⟩ := Option.bind_eq_some_iff.mp h
  cases b with
  | true =>
   rw [if_pos rfl] at h
   obtain rfl := Option.some.inj h
   exact ⟨i, by simp [slices_ContainsFunc_int_int__impl_remainder_1.idx, hb], by simpa using hi⟩
  | false =>
   rw [if_neg (by decide)] at h
   obtain ⟨j, h1, h2⟩ := slices_ContainsFunc_int_int__impl_remainder_1.idx_of q (i + 1) r (by omega) h
   exact ⟨j, by simp [slices_ContainsFunc_int_int__impl_remainder_1.idx, hb, h1], h2⟩
set_option maxHeartbeats 8000000 in
set_option maxRecDepth 100000 in
theorem slices_ContainsFunc_int_int__impl_remainder_1.index_calls (A0 : Option Addr) (c0 : Nat) (l0 : List Int) (r : Int) (w : World) (hr0 : Kd.C (Kd.int .i64) w A0 l0.length l0) (hc0 : l0.length ≤ c0) (h : slices_ContainsFunc_int_int__impl_remainder_1.idx l0 0 = some r) :
 Calls Try.prog 60 #[.slice A0 l0.length c0, .func (.func 49) #[] #[]] w fun e w' => e = .returned (.int .i64 r) ∧ Drawn0 w w' := by
 have HR0 := Aside0.mk hr0
 have H' := Aside0.mk h
 have HL := Aside0.mk hr0.2.1
 clear hr0 h hc0
 go_enter Try.func60, Try.ntmps60
 go_wp2
 go_loopg [8] (l0.length + 1) (fun kq v8 w' => ∃ x : Int, v8 = .int .i64 x ∧ Aside0 (0 ≤ x ∧ x + kq = l0.length + 1) ∧ Aside0 (slices_ContainsFunc_int_int__impl_remainder_1.idx (l0.drop x.toNat) x = some r) ∧ Drawn0 w w')
 case atStart => exact ⟨0, rfl, ⟨by omega⟩, H', Drawn0.refl _⟩
 case round =>
  clear H'
  obtain ⟨x, rfl, HI, HA, ⟨m1, rfl⟩⟩ := hrel
  by_cases hlt : x < (l0.length : Int)
  ·have c1 : decide (x < (l0.length : Int)) = true := decide_eq_true hlt
   have p2 := eq_true HI.out.1
   have hd : l0.drop x.toNat = rd l0 x :: l0.drop (x + 1).toNat := by
    have h0 := HI.out.1
    obtain ⟨i, rfl⟩ := Int.eq_ofNat_of_zero_le h0
    have hi : i < l0.length := by omega
    have e : ((i : Int) + 1).toNat = i + 1 := by omega
    rw [e, Int.toNat_natCast, List.drop_eq_getElem_cons hi]
    simp [rd, hi]
   have H := HA.out
   rw [hd] at H
   simp only [slices_ContainsFunc_int_int__impl_remainder_1.idx] at H
   obtain ⟨b, hb, H⟩ := Option.bind_eq_some_iff.mp H
   have A1 := Aside0.mk hb
   obtain ⟨ad, e1, hx1⟩ := Kd.at_int HR0.out x HI.out.1 hlt
   cases e1
   replace hlt := eq_true hlt
   cases b with
   | true =>
    rw [if_pos rfl] at H
    obtain rfl := Option.some.inj H
    clear HA hd hb H
    go_wp2_with (first | (go_at_call 49; (with_reducible refine (impl_remainder_1.calls (rd l0 x) true _ A1.out).mono ?_); rintro e w' ⟨rfl, ⟨nd, rfl⟩⟩))
    go_ret
    exact ⟨by first | rfl | (simp; done), dz⟩
   | false =>
    rw [if_neg (by decide)] at H
    have H2 := Aside0.mk H
    clear HA hd hb H
    go_wp2_with (first | (go_at_call 49; (with_reducible refine (impl_remainder_1.calls (rd l0 x) false _ A1.out).mono ?_); rintro e w' ⟨rfl, ⟨nd, rfl⟩⟩))
    cases gk with
    | zero => exact absurd HI.out.2 (by have := of_eq_true hlt; omega)
    | succ k1 =>
     go_roundg k1
     case measure => omega
     case rel => exact ⟨x + 1, by have := HI.out; have := HL.out; have := of_eq_true hlt; rw [show wrap64 (x + 1) = x + 1 by unfold wrap64; omega], ⟨by have := HI.out; omega⟩, H2, dz⟩
  ·have c1 : decide (x < (l0.length : Int)) = false := decide_eq_false hlt
   have H := HA.out
   rw [List.drop_eq_nil_of_le (by omega)] at H
   simp only [slices_ContainsFunc_int_int__impl_remainder_1.idx] at H
   obtain rfl := Option.some.inj H
   clear HA hlt H
   go_wp2
   go_ret
   exact ⟨by first | rfl | (simp; done), dz⟩
set_option maxHeartbeats 8000000 in
theorem slices_ContainsFunc_int_int__impl_remainder_1.calls (A0 : Option Addr) (c0 : Nat) (l0 : List Int) (r : Bool) (w : World) (hr0 : Kd.C (Kd.int .i64) w A0 l0.length l0) (hc0 : l0.length ≤ c0) (h : slices_ContainsFunc_int_int__impl_remainder_1.f l0 = some r) :
 Calls Try.prog 48 #[.slice A0 l0.length c0, .func (.func 49) #[] #[]] w fun e w' => e = .returned (.bool r) ∧ Drawn0 w w' := by
 obtain ⟨j, hj, rfl⟩ := slices_ContainsFunc_int_int__impl_remainder_1.idx_of l0 0 r (Int.le_refl _) h
 have HR0 := Aside0.mk hr0
 have HC0 := Aside0.mk hc0
 have HJ := Aside0.mk hj
 clear hr0 hc0 h hj
 go_enter Try.func48, Try.ntmps48
 go_wp2_with (first | (go_at_call 60; (with_reducible refine (slices_ContainsFunc_int_int__impl_remainder_1.index_calls _ _ l0 j _ ?side1 ?side2 HJ.out).mono ?_); (case side1 => exact cc HR0); (case side2 => exact HC0.out); rintro e w' ⟨rfl, ⟨nd, rfl⟩⟩))
 go_ret
 exact ⟨by first | rfl | (simp; done), dz⟩
mutual
def impl_remainder.l0 : Nat → List Int → List Int → Int → Option (List Int × Bool)
 | 0, _, _, _ => none
 | k + 1, x0, x1, x6 => if (x0.length : Int) ≥ (x1.length : Int) then (if 0 ≤ (wrap64 ((x0.length : Int) - 1)) then (if (wrap64 ((x0.length : Int) - 1)) < (x0.length : Int) then ((impl_gcd.f k (rd x0 (wrap64 ((x0.length : Int) - 1))) x6).bind fun t296 => (if t296 = 0 then (none) else (if x6 < 0 then (impl_remainder.j1 k x0 x1 x6 (mx (wrap64 (Int.tdiv x6 t296)) (wrap64 (Int.tdiv (wrap64 (-x6)) t296))) (wrap64 (-(wrap64 (Int.tdiv (rd x0 (wrap64 ((x0.length : Int) - 1))) t296))))) else (impl_remainder.j1 k x0 x1 x6 (mx (wrap64 (Int.tdiv x6 t296)) (wrap64 (Int.tdiv (wrap64 (-x6)) t296))) (wrap64 (Int.tdiv (rd x0 (wrap64 ((x0.length : Int) - 1))) t296)))))) else (none)) else (none)) else (some (x0, true))
def impl_remainder.j1 : Nat → List Int → List Int → Int → Int → Int → Option (List Int × Bool)
 | 0, _, _, _, _, _ => none
 | k + 1, x0, x1, x6, x9, x10 => if 0 ≤ (x0.length : Int) then (if ((x0.length : Int) : Int).toNat ≤ 35184372088832 then (impl_remainder.l1 k x0 x1 x6 x9 x10 (List.replicate ((x0.length : Int) : Int).toNat 0) x0 (x0.length : Int) 0) else (none)) else (none)
def impl_remainder.l1 : Nat → List Int → List Int → Int → Int → Int → List Int → List Int → Int → Int → Option (List Int × Bool)
 | 0, _, _, _, _, _, _, _, _, _ => none
 | k + 1, x0, x1, x6, x9, x10, x11, x56, x57, x58 => if x58 < x57 then (if 0 ≤ x58 then (if x58 < (x56.length : Int) then (if x58 < (x11.length : Int) then (impl_remainder.l1 k x0 x1 x6 x9 x10 (x11.set (x58 : Int).toNat (wrap64 (x9 * (rd x56 x58)))) x56 x57 (wrap64 (x58 + 1))) else (none)) else (none)) else (none)) else (impl_remainder.l2 k x0 x1 x6 x10 x11 x1 (x1.length : Int) 0)
def impl_remainder.l2 : Nat → List Int → List Int → Int → Int → List Int → List Int → Int → Int → Option (List Int × Bool)
 | 0, _, _, _, _, _, _, _, _ => none
 | k + 1, x0, x1, x6, x10, x11, x70, x71, x72 => if x72 < x71 then (if 0 ≤ x72 then (if x72 < (x70.length : Int) then (if 0 ≤ (wrap64 ((wrap64 (x72 + (x0.length : Int))) - (x1.length : Int))) then (if (wrap64 ((wrap64 (x72 + (x0.length : Int))) - (x1.length : Int))) < (x11.length : Int) then (impl_remainder.l2 k x0 x1 x6 x10 (x11.set ((wrap64 ((wrap64 (x72 + (x0.length : Int))) - (x1.length : Int))) : Int).toNat (wrap64 ((rd x11 (wrap64 ((wrap64 (x72 + (x0.length : Int))) - (x1.length : Int)))) - (wrap64 (x10 * (rd x70 x72)))))) x70 x71 (wrap64 (x72 + 1))) else (none)) else (none)) else (none)) else (none)) else ((impl_stripped.f k x11).bind fun t305 => ((impl_divided.f k t305).bind fun t308 => ((slices_ContainsFunc_int_int__impl_remainder_1.f t308).bind fun t311 => (if t311 = true then (some (([] : List Int), false)) else (impl_remainder.l0 k t308 x1 x6)))))
end
def impl_remainder.f (k : Nat) (l0 : List Int) (l1 : List Int) : Option (List Int × Bool) := (impl_divided.f k l0).bind fun t291 => (if 0 ≤ (wrap64 ((l1.length : Int) - 1)) then (if (wrap64 ((l1.length : Int) - 1)) < (l1.length : Int) then (impl_remainder.l0 k t291 l1 (rd l1 (wrap64 ((l1.length : Int) - 1)))) else (none)) else (none))
set_option maxHeartbeats 8000000 in
set_option maxRecDepth 100000 in
theorem impl_remainder.calls (k : Nat) (A0 : Option Addr) (c0 : Nat) (l0 : List Int) (A1 : Option Addr) (c1 : Nat) (l1 : List Int) (r1 : List Int) (r2 : Bool) (w : World) (hr0 : Kd.C (Kd.int .i64) w A0 l0.length l0) (hc0 : l0.length ≤ c0) (hr1 : Kd.C (Kd.int .i64) w A1 l1.length l1) (hc1 : l1.length ≤ c1) (h : impl_remainder.f k l0 l1 = some (r1, r2)) :
 Calls Try.prog 27 #[.slice A0 l0.length c0, .slice A1 l1.length c1] w fun e w' => ∃ v0_ : Value, e = .returned (.tuple #[v0_, .bool r2]) ∧ Kd.R (Kd.int .i64) 3 w' w.heap.size (fun _ => True) v0_ r1 ∧ Below w.heap.size w w' := by
 have HR0 := Aside0.mk hr0
 have HC0 := Aside0.mk hc0
 clear hr0 hc0
 have HR1 := Aside0.mk hr1
 have HC1 := Aside0.mk hc1
 clear hr1 hc1
 have HB := Aside0.mk (Below.refl w.heap.size w)
 have H : ((impl_divided.f k l0).bind fun t291 => (if 0 ≤ (wrap64 ((l1.length : Int) - 1)) then (if (wrap64 ((l1.length : Int) - 1)) < (l1.length : Int) then (impl_remainder.l0 k t291 l1 (rd l1 (wrap64 ((l1.length : Int) - 1)))) else (none)) else (none))) = some (r1, r2) := h
 clear h
 obtain ⟨t291, A3, H⟩ := bi H
 obtain ⟨ji4, hji4⟩ : ∃ j_ : Int, (wrap64 ((l1.length : Int) - 1)) = j_ := ⟨_, rfl⟩
 first | rw [hji4] at H | simp only [hji4] at H
 (try rw [hji4] at A3)
 have hji4w : (IntKind.i64.wrap ((l1.length : Int) - 1)) = ji4 := (i64_w _).trans hji4
 by_cases c5 : 0 ≤ (ji4)
 ·rw [if_pos c5] at H
  have c5b0 : decide (0 ≤ (ji4)) = true := decide_eq_true c5
  clear c5
  by_cases c6 : (ji4) < (l1.length : Int)
  ·rw [if_pos c6] at H
   have c6b0 : decide ((ji4) < (l1.length : Int)) = true := decide_eq_true c6
   clear c6
   have H' := Aside0.mk H
   clear H
   go_enter Try.func27, Try.ntmps27
   go_wp2_with (first | (go_at_call 45; (with_reducible refine (impl_divided.calls k _ _ l0 t291 _ ?side1 ?side2 A3.out).mono ?_); (case side1 => exact cc HR0); (case side2 => exact HC0.out); rintro e w7 ⟨v292, rfl, ho0, hb⟩; have n0_ := Aside0.mk (Kd.R_lower ho0 (below_size bz)); have n1_ := Aside0.mk (below_step bz hb); clear HB; have HO293 := n0_; have HB := n1_; clear n0_ n1_; (try clear hb); (try clear hb2); (try clear hk); (try clear hi); (try clear ho0); have p294 : 0 ≤ ((ji4) : Int) := of_decide_eq_true am; have q294 : (ji4) < (l1.length : Int) := of_decide_eq_true am; obtain ⟨ad294, e294, hx294_0⟩ := Kd.at_int HR1.out (ji4) p294 q294; cases e294; replace hx294_0 := (HB.out.cell (World.block_lt_of_cell? w _ hx294_0)).trans hx294_0; replace p294 := eq_true p294; replace q294 := eq_true q294))
   repeat (go_quiet (first | (go_at_call 45; (with_reducible refine (impl_divided.calls k _ _ l0 t291 _ ?side1 ?side2 A3.out).mono ?_); (case side1 => exact cc HR0); (case side2 => exact HC0.out); rintro e w7 ⟨v292, rfl, ho0, hb⟩; have n0_ := Aside0.mk (Kd.R_lower ho0 (below_size bz)); have n1_ := Aside0.mk (below_step bz hb); clear HB; have HO293 := n0_; have HB := n1_; clear n0_ n1_; (try clear hb); (try clear hb2); (try clear hk); (try clear hi); (try clear ho0); have p294 : 0 ≤ ((ji4) : Int) := of_decide_eq_true am; have q294 : (ji4) < (l1.length : Int) := of_decide_eq_true am; obtain ⟨ad294, e294, hx294_0⟩ := Kd.at_int HR1.out (ji4) p294 q294; cases e294; replace hx294_0 := (HB.out.cell (World.block_lt_of_cell? w _ hx294_0)).trans hx294_0; replace p294 := eq_true p294; replace q294 := eq_true q294)); try go_wp2_with (first | (go_at_call 45; (with_reducible refine (impl_divided.calls k _ _ l0 t291 _ ?side1 ?side2 A3.out).mono ?_); (case side1 => exact cc HR0); (case side2 => exact HC0.out); rintro e w7 ⟨v292, rfl, ho0, hb⟩; have n0_ := Aside0.mk (Kd.R_lower ho0 (below_size bz)); have n1_ := Aside0.mk (below_step bz hb); clear HB; have HO293 := n0_; have HB := n1_; clear n0_ n1_; (try clear hb); (try clear hb2); (try clear hk); (try clear hi); (try clear ho0); have p294 : 0 ≤ ((ji4) : Int) := of_decide_eq_true am; have q294 : (ji4) < (l1.length : Int) := of_decide_eq_true am; obtain ⟨ad294, e294, hx294_0⟩ := Kd.at_int HR1.out (ji4) p294 q294; cases e294; replace hx294_0 := (HB.out.cell (World.block_lt_of_cell? w _ hx294_0)).trans hx294_0; replace p294 := eq_true p294; replace q294 := eq_true q294)))
   go_loopg [0] k (fun kq v0 w' => ∃ (x0_1 : List Int), Aside0 (impl_remainder.l0 kq x0_1 l1 (rd l1 (ji4)) = some (r1, r2)) ∧ Aside0 (kq ≤ k) ∧ Aside0 (Kd.R (Kd.int .i64) 3 w' w.heap.size (fun _ => True) v0 x0_1) ∧ Aside0 (Below w.heap.size w w'))
   case atStart => exact ⟨(t291), H', ⟨Nat.le_refl _⟩, ⟨kr HO293⟩, ⟨bz⟩⟩
   case round =>
    clear H'
    try clear c1; try clear c2; try clear p2; try clear q2; try clear hx2; try clear c5; try clear c5b0; try clear c6; try clear c6b0; try clear p6; try clear hx294_0; try clear p294; try clear q294
    obtain ⟨x0_1, HA, HK1, HO_0, HB⟩ := hrel
    cases gk with
    | zero => exact absurd HA.out (by simp [impl_remainder.l0])
    | succ k1 =>
     have H := HA.out
     clear HA
     simp only [impl_remainder.l0] at H
     by_cases c8 : (x0_1.length : Int) ≥ (l1.length : Int)
     ·rw [if_pos c8] at H
      have c8b0 : decide ((l1.length : Int) ≤ (x0_1.length : Int)) = true := decide_eq_true c8
      have c8b1 : decide (l1.length ≤ x0_1.length) = true := decide_eq_true (Int.ofNat_le.mp c8)
      clear c8
      obtain ⟨ji9, hji9⟩ : ∃ j_ : Int, (wrap64 ((x0_1.length : Int) - 1)) = j_ := ⟨_, rfl⟩
      first | rw [hji9] at H | simp only [hji9] at H
      have hji9w : (IntKind.i64.wrap ((x0_1.length : Int) - 1)) = ji9 := (i64_w _).trans hji9
      by_cases c10 : 0 ≤ (ji9)
      ·rw [if_pos c10] at H
       have c10b0 : decide (0 ≤ (ji9)) = true := decide_eq_true c10
       clear c10
       by_cases c11 : (ji9) < (x0_1.length : Int)
       ·rw [if_pos c11] at H
        have c11b0 : decide ((ji9) < (x0_1.length : Int)) = true := decide_eq_true c11
        clear c11
        obtain ⟨t296, A12, H⟩ := bi H
        by_cases c13 : t296 = 0
        ·rw [if_pos c13] at H
         exact absurd H (by simp)
        ·rw [if_neg c13] at H
         have c13b0 : (t296 == 0) = false := beq_eq_false_iff_ne.mpr c13
         have c13b1 : (t296 != 0) = true := bne_iff_ne.mpr c13
         obtain ⟨ji14, hji14⟩ : ∃ j_ : Int, (mx (wrap64 (Int.tdiv (rd l1 (ji4)) t296)) (wrap64 (Int.tdiv (wrap64 (-(rd l1 (ji4)))) t296))) = j_ := ⟨_, rfl⟩
         first | rw [hji14] at H | simp only [hji14] at H
         (try rw [hji14] at A12)
         have hji14_ : (if (wrap64 (Int.tdiv (rd l1 (ji4)) t296)) < (wrap64 (Int.tdiv (wrap64 (-(rd l1 (ji4)))) t296)) then (wrap64 (Int.tdiv (wrap64 (-(rd l1 (ji4)))) t296)) else (wrap64 (Int.tdiv (rd l1 (ji4)) t296))) = ji14 := hji14
         have HC15 := Aside0.mk H
         clear H
         obtain ⟨Ao16, co16, eo16⟩ := Kd.R_slice HO_0.out
         subst eo16
         have p295 : 0 ≤ ((ji9) : Int) := of_decide_eq_true am
         have q295 : (ji9) < (x0_1.length : Int) := of_decide_eq_true am
         obtain ⟨ad295, e295, hx295_0⟩ := Kd.at_int (Kd.R_reads' HO_0.out).2.2 (ji9) p295 q295
         cases e295
         replace p295 := eq_true p295
         replace q295 := eq_true q295
         go_upto_if 50 with (first | (go_at_call 46; (with_reducible refine (impl_gcd.calls k1 (rd x0_1 (ji9)) (rd l1 (ji4)) t296 _ A12.out).mono ?_); rintro e w17 ⟨rfl, hb⟩; have n0_ := Aside0.mk (Kd.R_below (kr HO_0) hb); have n1_ := Aside0.mk (below_step bz hb); clear HO_0; clear HB; have HO_0 := n0_; have HB := n1_; clear n0_ n1_; (try clear hb); (try clear hb2); (try clear hk); (try clear hi)))
         repeat (go_quiet (first | (go_at_call 46; (with_reducible refine (impl_gcd.calls k1 (rd x0_1 (ji9)) (rd l1 (ji4)) t296 _ A12.out).mono ?_); rintro e w17 ⟨rfl, hb⟩; have n0_ := Aside0.mk (Kd.R_below (kr HO_0) hb); have n1_ := Aside0.mk (below_step bz hb); clear HO_0; clear HB; have HO_0 := n0_; have HB := n1_; clear n0_ n1_; (try clear hb); (try clear hb2); (try clear hk); (try clear hi))); go_upto_if 50 with (first | (go_at_call 46; (with_reducible refine (impl_gcd.calls k1 (rd x0_1 (ji9)) (rd l1 (ji4)) t296 _ A12.out).mono ?_); rintro e w17 ⟨rfl, hb⟩; have n0_ := Aside0.mk (Kd.R_below (kr HO_0) hb); have n1_ := Aside0.mk (below_step bz hb); clear HO_0; clear HB; have HO_0 := n0_; have HB := n1_; clear n0_ n1_; (try clear hb); (try clear hb2); (try clear hk); (try clear hi))))
         (try simp only [Act.put, List.setIfInBounds_toArray, List.set_cons_zero, List.set_cons_succ])
         go_cut [10] (fun v10 wc => ∃ (kq : Nat) (x10_14 : Int), v10 = .int .i64 x10_14 ∧ Aside0 (impl_remainder.j1 kq x0_1 l1 (rd l1 (ji4)) ji14 x10_14 = some (r1, r2)) ∧ Aside0 (kq ≤ k1) ∧ Aside0 (Kd.R (Kd.int .i64) 3 wc w.heap.size (fun _ => True) (.slice (some ad295) x0_1.length co16) x0_1) ∧ Aside0 (Below w.heap.size w wc))
         case first =>
          have H := HC15.out
          clear HC15
          by_cases c18 : (rd l1 (ji4)) < 0
          ·rw [if_pos c18] at H
           have c18b0 : decide ((rd l1 (ji4)) < 0) = true := decide_eq_true c18
           clear c18
           (first | rw [c18b0] | (simp only [i64_w, i32_w]; rw [c18b0]) | skip)
           have H' := Aside0.mk H
           clear H
           go_wp2
           repeat (go_quiet (fail); try go_wp2)
           go_meet
           case rel => exact ⟨_, (wrap64 (-(wrap64 (Int.tdiv (rd x0_1 (ji9)) t296)))), (by first | rfl | (simp; done) | (simp only [← hji9] <;> (first | rfl | simp)) | (simp [*]; done)), H', ⟨by have := HK1.out; first | omega | exact Nat.le_refl _⟩, ⟨kr HO_0⟩, ⟨bz⟩⟩
          ·rw [if_neg c18] at H
           have c18b0 : decide ((rd l1 (ji4)) < 0) = false := decide_eq_false c18
           clear c18
           (first | rw [c18b0] | (simp only [i64_w, i32_w]; rw [c18b0]) | skip)
           have H' := Aside0.mk H
           clear H
           go_wp2
           repeat (go_quiet (fail); try go_wp2)
           go_meet
           case rel => exact ⟨_, (wrap64 (Int.tdiv (rd x0_1 (ji9)) t296)), (by first | rfl | (simp; done) | (simp only [← hji9] <;> (first | rfl | simp)) | (simp [*]; done)), H', ⟨by have := HK1.out; first | omega | exact Nat.le_refl _⟩, ⟨kr HO_0⟩, ⟨bz⟩⟩
         case rest =>
          clear HC15
          try clear c1; try clear c2; try clear p2; try clear q2; try clear hx2; try clear c5; try clear c5b0; try clear c6; try clear c6b0; try clear p6; try clear c8; try clear c8b0; try clear c8b1; try clear c10; try clear c10b0; try clear c11; try clear c11b0; try clear c13; try clear c13b0; try clear c13b1; try clear c18; try clear c18b0; try clear hx294_0; try clear hx295_0; try clear p2; try clear p294; try clear p295; try clear p6; try clear q2; try clear q294; try clear q295
          obtain ⟨kq, x10_14, rfl, HA, HJ14, HO_0, HB⟩ := hcut
          cases kq with
          | zero => exact absurd HA.out (by simp [impl_remainder.j1])
          | succ kj14 =>
           have H := HA.out
           clear HA
           simp only [impl_remainder.j1] at H
           by_cases c19 : 0 ≤ (x0_1.length : Int)
           ·rw [if_pos c19] at H
            have c19b0 := eq_true c19
            have c19b1 : decide (0 ≤ (x0_1.length : Int)) = true := decide_eq_true c19
            clear c19
            by_cases c20 : ((x0_1.length : Int) : Int).toNat ≤ 35184372088832
            ·rw [if_pos c20] at H
             have c20b0 := eq_true c20
             have c20b1 : decide (((x0_1.length : Int) : Int).toNat ≤ 35184372088832) = true := decide_eq_true c20
             clear c20
             obtain ⟨y297, hy297⟩ : ∃ y_ : List Int, y_ = (List.replicate ((x0_1.length : Int) : Int).toNat 0) := ⟨_, rfl⟩
             replace H : (impl_remainder.l1 kj14 x0_1 l1 (rd l1 (ji4)) ji14 x10_14 y297 x0_1 (x0_1.length : Int) 0) = some (r1, r2) := by first | (rw [hy297]; with_reducible exact H) | (have H2_ := (Option.bind_some _ _).symm.trans H; rw [hy297]; with_reducible exact H2_) | (have H2_ := (Option.bind_some _ _).symm.trans H; with_reducible exact H2_) | with_reducible exact H | (rw [hy297]; exact H) | exact H
             have Ny297 := Aside0.mk hy297
             clear hy297
             have H' := Aside0.mk H
             clear H
             go_wp2_with (first | ((with_reducible refine gate_dst (N := 55) rfl ?_); refine Kd.R_make (Kd.int .i64) _ 3 rfl (N := 55) rfl 24 _ _ rfl (x0_1.length : Int) rfl rfl Try.underlying24 (.int .i64 0) 8 info3 rfl (by decide) (by omega) 0 (ok := fun _ => True) (okp := fun _ => True) rfl (fun _ hk => hk) trivial (of_decide_eq_true am) (Nat.le_trans (Nat.mul_le_mul_right _ (of_decide_eq_true am : (x0_1.length : Int).toNat ≤ 35184372088832)) (by omega)) (Below.refl _ _) (Nat.le_refl _) ?_; intro v298 w21 ho22 hb hg_ hnew_; clear hg_ hnew_; (first | rw [← Ny297.out] at ho22 | (simp only [Int.reduceToNat] at ho22; rw [← Ny297.out] at ho22)); have n0_ := Aside0.mk (Kd.R_elder' (kr HO_0) (Kd.R_base ho22) hb); have n1_ := Aside0.mk (Kd.R_lower (Kd.R_new' ho22 (Kd.R_lt (kr HO_0))) (below_size bz)); have n2_ := Aside0.mk (below_step bz hb); clear HO_0; clear HB; have HO_0 := n0_; have HO299 := n1_; have HB := n2_; clear n0_ n1_ n2_; clear hb ho22))
             repeat (go_quiet (first | ((with_reducible refine gate_dst (N := 55) rfl ?_); refine Kd.R_make (Kd.int .i64) _ 3 rfl (N := 55) rfl 24 _ _ rfl (x0_1.length : Int) rfl rfl Try.underlying24 (.int .i64 0) 8 info3 rfl (by decide) (by omega) 0 (ok := fun _ => True) (okp := fun _ => True) rfl (fun _ hk => hk) trivial (of_decide_eq_true am) (Nat.le_trans (Nat.mul_le_mul_right _ (of_decide_eq_true am : (x0_1.length : Int).toNat ≤ 35184372088832)) (by omega)) (Below.refl _ _) (Nat.le_refl _) ?_; intro v298 w21 ho22 hb hg_ hnew_; clear hg_ hnew_; (first | rw [← Ny297.out] at ho22 | (simp only [Int.reduceToNat] at ho22; rw [← Ny297.out] at ho22)); have n0_ := Aside0.mk (Kd.R_elder' (kr HO_0) (Kd.R_base ho22) hb); have n1_ := Aside0.mk (Kd.R_lower (Kd.R_new' ho22 (Kd.R_lt (kr HO_0))) (below_size bz)); have n2_ := Aside0.mk (below_step bz hb); clear HO_0; clear HB; have HO_0 := n0_; have HO299 := n1_; have HB := n2_; clear n0_ n1_ n2_; clear hb ho22)); try go_wp2_with (first | ((with_reducible refine gate_dst (N := 55) rfl ?_); refine Kd.R_make (Kd.int .i64) _ 3 rfl (N := 55) rfl 24 _ _ rfl (x0_1.length : Int) rfl rfl Try.underlying24 (.int .i64 0) 8 info3 rfl (by decide) (by omega) 0 (ok := fun _ => True) (okp := fun _ => True) rfl (fun _ hk => hk) trivial (of_decide_eq_true am) (Nat.le_trans (Nat.mul_le_mul_right _ (of_decide_eq_true am : (x0_1.length : Int).toNat ≤ 35184372088832)) (by omega)) (Below.refl _ _) (Nat.le_refl _) ?_; intro v298 w21 ho22 hb hg_ hnew_; clear hg_ hnew_; (first | rw [← Ny297.out] at ho22 | (simp only [Int.reduceToNat] at ho22; rw [← Ny297.out] at ho22)); have n0_ := Aside0.mk (Kd.R_elder' (kr HO_0) (Kd.R_base ho22) hb); have n1_ := Aside0.mk (Kd.R_lower (Kd.R_new' ho22 (Kd.R_lt (kr HO_0))) (below_size bz)); have n2_ := Aside0.mk (below_step bz hb); clear HO_0; clear HB; have HO_0 := n0_; have HO299 := n1_; have HB := n2_; clear n0_ n1_ n2_; clear hb ho22)))
             go_loopg [58] kj14 (fun kq v58 w' => ∃ (x11_3 : List Int) (x58_3 : Int), v58 = .int .i64 x58_3 ∧ Aside0 (impl_remainder.l1 kq x0_1 l1 (rd l1 (ji4)) ji14 x10_14 x11_3 x0_1 (x0_1.length : Int) x58_3 = some (r1, r2)) ∧ Aside0 (kq ≤ kj14) ∧ Aside0 (Kd.R (Kd.int .i64) 3 w' w.heap.size (fun k_ => some k_ ≠ (v298 : Value).ownBlock) (.slice (some ad295) x0_1.length co16) x0_1) ∧ Aside0 (Kd.R (Kd.int .i64) 3 w' w.heap.size (fun k_ => some k_ ≠ ((.slice (some ad295) x0_1.length co16) : Value).ownBlock ∧ some k_ ≠ ((.slice (some ad295) x0_1.length co16) : Value).ownBlock) v298 x11_3) ∧ Aside0 (Kd.R (Kd.int .i64) 3 w' w.heap.size (fun k_ => some k_ ≠ (v298 : Value).ownBlock) (.slice (some ad295) x0_1.length co16) x0_1) ∧ Aside0 (Below w.heap.size w w'))
             case atStart => exact ⟨(y297), (0), sr, H', ⟨Nat.le_refl _⟩, ⟨by (with_reducible repeat (first | apply Kd.R_alloc | apply Kd.R_drewN | apply Kd.R_drew)); exact Kd.R_mono HO_0.out (fun _ hk => hk.2)⟩, ⟨by (with_reducible repeat (first | apply Kd.R_alloc | apply Kd.R_drewN | apply Kd.R_drew)); exact Kd.R_mono HO299.out (fun _ hk => ⟨hk.2, hk.2⟩)⟩, ⟨by (with_reducible repeat (first | apply Kd.R_alloc | apply Kd.R_drewN | apply Kd.R_drew)); exact Kd.R_mono HO_0.out (fun _ hk => hk.2)⟩, ⟨bz⟩⟩
             case round =>
              clear H'
              try clear c1; try clear c2; try clear p2; try clear q2; try clear hx2; try clear c5; try clear c5b0; try clear c6; try clear c6b0; try clear p6; try clear c8; try clear c8b0; try clear c8b1; try clear c10; try clear c10b0; try clear c11; try clear c11b0; try clear c13; try clear c13b0; try clear c13b1; try clear c18; try clear c18b0; try clear c19; try clear c19b0; try clear c19b1; try clear c20; try clear c20b0; try clear c20b1; try clear hx294_0; try clear hx295_0; try clear p2; try clear p294; try clear p295; try clear p6; try clear q2; try clear q294; try clear q295
              obtain ⟨x11_3, x58_3, rfl, HA, HK3, HO_0, HO_11, HO_56, HB⟩ := hrel
              cases gk with
              | zero => exact absurd HA.out (by simp [impl_remainder.l1])
              | succ k3 =>
               have H := HA.out
               clear HA
               simp only [impl_remainder.l1] at H
               by_cases c23 : x58_3 < (x0_1.length : Int)
               ·rw [if_pos c23] at H
                have c23b0 : decide (x58_3 < (x0_1.length : Int)) = true := decide_eq_true c23
                clear c23
                by_cases c24 : 0 ≤ x58_3
                ·rw [if_pos c24] at H
                 have c24b0 : decide (0 ≤ x58_3) = true := decide_eq_true c24
                 clear c24
                 by_cases c25 : x58_3 < (x0_1.length : Int)
                 ·rw [if_pos c25] at H
                  have c25b0 : decide (x58_3 < (x0_1.length : Int)) = true := decide_eq_true c25
                  clear c25
                  by_cases c26 : x58_3 < (x11_3.length : Int)
                  ·rw [if_pos c26] at H
                   have c26b0 : decide (x58_3 < (x11_3.length : Int)) = true := decide_eq_true c26
                   clear c26
                   obtain ⟨y301, hy301⟩ : ∃ y_ : List Int, y_ = (x11_3.set (x58_3 : Int).toNat (wrap64 (ji14 * (rd x0_1 x58_3)))) := ⟨_, rfl⟩
                   replace H : (impl_remainder.l1 k3 x0_1 l1 (rd l1 (ji4)) ji14 x10_14 y301 x0_1 (x0_1.length : Int) (wrap64 (x58_3 + 1))) = some (r1, r2) := by first | (rw [hy301]; with_reducible exact H) | (have H2_ := (Option.bind_some _ _).symm.trans H; rw [hy301]; with_reducible exact H2_) | (have H2_ := (Option.bind_some _ _).symm.trans H; with_reducible exact H2_) | with_reducible exact H | (rw [hy301]; exact H) | exact H
                   have Ny301 := Aside0.mk hy301
                   clear hy301
                   have H' := Aside0.mk H
                   clear H
                   have p300 : 0 ≤ (x58_3 : Int) := of_decide_eq_true am
                   have q300 : x58_3 < (x0_1.length : Int) := of_decide_eq_true am
                   obtain ⟨ad300, e300, hx300_0⟩ := Kd.at_int (Kd.R_reads' HO_56.out).2.2 x58_3 p300 q300
                   obtain rfl : ad295 = ad300 := (by injection e300)
                   replace p300 := eq_true p300
                   replace q300 := eq_true q300
                   have p27 : 0 ≤ (x58_3 : Int) := of_decide_eq_true am
                   have q27 : (x58_3 : Int) < ((x11_3.length : Int) : Int) := of_decide_eq_true am
                   obtain ⟨go27, co27, eo27, gb27, gl27, cl27, HG27⟩ := Kd.R_form HO_11.out (by omega)
                   (first | cases eo27 | (injection eo27 with ea_ en_ ec_; (first | subst ea_ | (injection ea_ with ea_; subst ea_)); subst ec_; clear en_))
                   have GB27 := Aside0.mk gb27
                   have GG27 := Aside0.mk HG27
                   clear gb27 gl27 HG27
                   obtain ⟨hx27_0, hf27_0⟩ := Kd.R_celln 0 HO_11.out (x58_3 : Int) p27 q27
                   replace p27 := eq_true p27
                   replace q27 := eq_true q27
                   have HP28 := Kd.R_putg HO_11.out (x58_3 : Int) (wrap64 (ji14 * (rd x0_1 x58_3)))
                   go_wp2_with (first | ((with_reducible refine gate_store (t := 3) (p := 68) rfl ?_); (try (rw [drewN_self wr]; generalize hq_ : World.drewN wr _ = wr; have n0_ := Aside0.mk (Kd.R_at hq_ HO_0.out); have n1_ := Aside0.mk (Kd.R_at hq_ HO_11.out); have n2_ := Aside0.mk (Kd.R_at hq_ HO_56.out); have n3_ := Aside0.mk (below_at hq_ HB.out); clear hq_ HO_0 HO_11 HO_56 HB; have HO_0 := n0_; have HO_11 := n1_; have HO_56 := n2_; have HB := n3_; clear n0_ n1_ n2_ n3_; (try (have HP28 := Kd.R_putg HO_11.out (x58_3 : Int) (wrap64 (ji14 * (rd x0_1 x58_3))))))); refine store_event (t := 3) (p := 68) (v := ?vo_w29) (w1 := (wr.setCell ⟨go27, (x58_3 : Int).toNat, none⟩ (.int .i64 (wrap64 (ji14 * (rd x0_1 x58_3)))))) ?hg ?ho ?hn ?hr ?_; (case ho => rfl); (case hg => rfl); (case hn => rfl); (case hr => first | (go_simp; done) | (go_simp; rfl)); intro w29 hw; have hg : wr.grownBy w29 (some go27) := (by rw [hw]; exact HP28.2); have hp_ : Kd.R (Kd.int .i64) 3 w29 w.heap.size (fun k_ => some k_ ≠ (.slice (some ad295) x0_1.length co16 : Value).ownBlock ∧ some k_ ≠ (.slice (some ad295) x0_1.length co16 : Value).ownBlock) (.slice (some ⟨go27, 0, none⟩) x11_3.length co27) y301 := (by rw [hw, Ny301.out]; exact HP28.1); clear HP28; have n0_ := Aside0.mk (Kd.R_after (v := (.slice (some ⟨go27, 0, none⟩) x11_3.length co27)) (v1 := (.slice (some ⟨go27, 0, none⟩) x11_3.length co27)) (ok := (fun _ => True)) (by (with_reducible repeat (first | apply Kd.R_alloc | apply Kd.R_drewN | apply Kd.R_drew)); exact Kd.R_mono HO_0.out (fun _ hk => ⟨trivial, hk⟩)) hg (.inl rfl)); have n1_ := Aside0.mk (hp_); have n2_ := Aside0.mk (Kd.R_after (v := (.slice (some ⟨go27, 0, none⟩) x11_3.length co27)) (v1 := (.slice (some ⟨go27, 0, none⟩) x11_3.length co27)) (ok := (fun _ => True)) (by (with_reducible repeat (first | apply Kd.R_alloc | apply Kd.R_drewN | apply Kd.R_drew)); exact Kd.R_mono HO_56.out (fun _ hk => ⟨trivial, hk⟩)) hg (.inl rfl)); have n3_ := Aside0.mk ((by rw [hw]; exact below_set (HB.out) GB27.out : Below w.heap.size w w29)); clear HO_0; clear HO_11; clear HO_56; clear HB; have HO_0 := n0_; have HO_11 := n1_; have HO_56 := n2_; have HB := n3_; clear n0_ n1_ n2_ n3_; clear hg hw hp_))
                   repeat (go_quiet (first | ((with_reducible refine gate_store (t := 3) (p := 68) rfl ?_); (try (rw [drewN_self wr]; generalize hq_ : World.drewN wr _ = wr; have n0_ := Aside0.mk (Kd.R_at hq_ HO_0.out); have n1_ := Aside0.mk (Kd.R_at hq_ HO_11.out); have n2_ := Aside0.mk (Kd.R_at hq_ HO_56.out); have n3_ := Aside0.mk (below_at hq_ HB.out); clear hq_ HO_0 HO_11 HO_56 HB; have HO_0 := n0_; have HO_11 := n1_; have HO_56 := n2_; have HB := n3_; clear n0_ n1_ n2_ n3_; (try (have HP28 := Kd.R_putg HO_11.out (x58_3 : Int) (wrap64 (ji14 * (rd x0_1 x58_3))))))); refine store_event (t := 3) (p := 68) (v := ?vo_w29) (w1 := (wr.setCell ⟨go27, (x58_3 : Int).toNat, none⟩ (.int .i64 (wrap64 (ji14 * (rd x0_1 x58_3)))))) ?hg ?ho ?hn ?hr ?_; (case ho => rfl); (case hg => rfl); (case hn => rfl); (case hr => first | (go_simp; done) | (go_simp; rfl)); intro w29 hw; have hg : wr.grownBy w29 (some go27) := (by rw [hw]; exact HP28.2); have hp_ : Kd.R (Kd.int .i64) 3 w29 w.heap.size (fun k_ => some k_ ≠ (.slice (some ad295) x0_1.length co16 : Value).ownBlock ∧ some k_ ≠ (.slice (some ad295) x0_1.length co16 : Value).ownBlock) (.slice (some ⟨go27, 0, none⟩) x11_3.length co27) y301 := (by rw [hw, Ny301.out]; exact HP28.1); clear HP28; have n0_ := Aside0.mk (Kd.R_after (v := (.slice (some ⟨go27, 0, none⟩) x11_3.length co27)) (v1 := (.slice (some ⟨go27, 0, none⟩) x11_3.length co27)) (ok := (fun _ => True)) (by (with_reducible repeat (first | apply Kd.R_alloc | apply Kd.R_drewN | apply Kd.R_drew)); exact Kd.R_mono HO_0.out (fun _ hk => ⟨trivial, hk⟩)) hg (.inl rfl)); have n1_ := Aside0.mk (hp_); have n2_ := Aside0.mk (Kd.R_after (v := (.slice (some ⟨go27, 0, none⟩) x11_3.length co27)) (v1 := (.slice (some ⟨go27, 0, none⟩) x11_3.length co27)) (ok := (fun _ => True)) (by (with_reducible repeat (first | apply Kd.R_alloc | apply Kd.R_drewN | apply Kd.R_drew)); exact Kd.R_mono HO_56.out (fun _ hk => ⟨trivial, hk⟩)) hg (.inl rfl)); have n3_ := Aside0.mk ((by rw [hw]; exact below_set (HB.out) GB27.out : Below w.heap.size w w29)); clear HO_0; clear HO_11; clear HO_56; clear HB; have HO_0 := n0_; have HO_11 := n1_; have HO_56 := n2_; have HB := n3_; clear n0_ n1_ n2_ n3_; clear hg hw hp_)); try go_wp2_with (first | ((with_reducible refine gate_store (t := 3) (p := 68) rfl ?_); (try (rw [drewN_self wr]; generalize hq_ : World.drewN wr _ = wr; have n0_ := Aside0.mk (Kd.R_at hq_ HO_0.out); have n1_ := Aside0.mk (Kd.R_at hq_ HO_11.out); have n2_ := Aside0.mk (Kd.R_at hq_ HO_56.out); have n3_ := Aside0.mk (below_at hq_ HB.out); clear hq_ HO_0 HO_11 HO_56 HB; have HO_0 := n0_; have HO_11 := n1_; have HO_56 := n2_; have HB := n3_; clear n0_ n1_ n2_ n3_; (try (have HP28 := Kd.R_putg HO_11.out (x58_3 : Int) (wrap64 (ji14 * (rd x0_1 x58_3))))))); refine store_event (t := 3) (p := 68) (v := ?vo_w29) (w1 := (wr.setCell ⟨go27, (x58_3 : Int).toNat, none⟩ (.int .i64 (wrap64 (ji14 * (rd x0_1 x58_3)))))) ?hg ?ho ?hn ?hr ?_; (case ho => rfl); (case hg => rfl); (case hn => rfl); (case hr => first | (go_simp; done) | (go_simp; rfl)); intro w29 hw; have hg : wr.grownBy w29 (some go27) := (by rw [hw]; exact HP28.2); have hp_ : Kd.R (Kd.int .i64) 3 w29 w.heap.size (fun k_ => some k_ ≠ (.slice (some ad295) x0_1.length co16 : Value).ownBlock ∧ some k_ ≠ (.slice (some ad295) x0_1.length co16 : Value).ownBlock) (.slice (some ⟨go27, 0, none⟩) x11_3.length co27) y301 := (by rw [hw, Ny301.out]; exact HP28.1); clear HP28; have n0_ := Aside0.mk (Kd.R_after (v := (.slice (some ⟨go27, 0, none⟩) x11_3.length co27)) (v1 := (.slice (some ⟨go27, 0, none⟩) x11_3.length co27)) (ok := (fun _ => True)) (by (with_reducible repeat (first | apply Kd.R_alloc | apply Kd.R_drewN | apply Kd.R_drew)); exact Kd.R_mono HO_0.out (fun _ hk => ⟨trivial, hk⟩)) hg (.inl rfl)); have n1_ := Aside0.mk (hp_); have n2_ := Aside0.mk (Kd.R_after (v := (.slice (some ⟨go27, 0, none⟩) x11_3.length co27)) (v1 := (.slice (some ⟨go27, 0, none⟩) x11_3.length co27)) (ok := (fun _ => True)) (by (with_reducible repeat (first | apply Kd.R_alloc | apply Kd.R_drewN | apply Kd.R_drew)); exact Kd.R_mono HO_56.out (fun _ hk => ⟨trivial, hk⟩)) hg (.inl rfl)); have n3_ := Aside0.mk ((by rw [hw]; exact below_set (HB.out) GB27.out : Below w.heap.size w w29)); clear HO_0; clear HO_11; clear HO_56; clear HB; have HO_0 := n0_; have HO_11 := n1_; have HO_56 := n2_; have HB := n3_; clear n0_ n1_ n2_ n3_; clear hg hw hp_)))
                   (try rw [← add_plain go27 (((ji9) : Int).toNat)])
                   go_roundg k3
                   case measure => have := HK1.out; have := HJ14.out; have := HK3.out; omega
                   case rel => exact ⟨(y301), (wrap64 (x58_3 + 1)), sr, H', ⟨by have := HK1.out; have := HJ14.out; have := HK3.out; omega⟩, ⟨by (with_reducible repeat (first | apply Kd.R_alloc | apply Kd.R_drewN | apply Kd.R_drew)); exact Kd.R_mono HO_0.out (fun _ hk => hk.2)⟩, ⟨kr HO_11⟩, ⟨by (with_reducible repeat (first | apply Kd.R_alloc | apply Kd.R_drewN | apply Kd.R_drew)); exact Kd.R_mono HO_56.out (fun _ hk => hk.2)⟩, ⟨bz⟩⟩
                  ·rw [if_neg c26] at H
                   exact absurd H (by simp)
                 ·rw [if_neg c25] at H
                  exact absurd H (by simp)
                ·rw [if_neg c24] at H
                 exact absurd H (by simp)
               ·rw [if_neg c23] at H
                have c23b0 : decide (x58_3 < (x0_1.length : Int)) = false := decide_eq_false c23
                clear c23
                have H' := Aside0.mk H
                clear H
                go_wp2
                repeat (go_quiet (fail); try go_wp2)
                go_loopg [72] k3 (fun kq v72 w' => ∃ (x11_4 : List Int) (x72_4 : Int), v72 = .int .i64 x72_4 ∧ Aside0 (impl_remainder.l2 kq x0_1 l1 (rd l1 (ji4)) x10_14 x11_4 l1 (l1.length : Int) x72_4 = some (r1, r2)) ∧ Aside0 (kq ≤ k3) ∧ Aside0 (Kd.R (Kd.int .i64) 3 w' w.heap.size (fun k_ => some k_ ≠ (v298 : Value).ownBlock) (.slice (some ad295) x0_1.length co16) x0_1) ∧ Aside0 (Kd.R (Kd.int .i64) 3 w' w.heap.size (fun k_ => some k_ ≠ ((.slice (some ad295) x0_1.length co16) : Value).ownBlock) v298 x11_4) ∧ Aside0 (Below w.heap.size w w'))
                case atStart => exact ⟨(x11_3), (0), sr, H', ⟨Nat.le_refl _⟩, ⟨kr HO_0⟩, ⟨by (with_reducible repeat (first | apply Kd.R_alloc | apply Kd.R_drewN | apply Kd.R_drew)); exact Kd.R_mono HO_11.out (fun _ hk => hk.1)⟩, ⟨bz⟩⟩
                case round =>
                 clear H'
                 try clear c1; try clear c2; try clear p2; try clear q2; try clear hx2; try clear hf2; try clear p3; try clear q3; try clear hx3; try clear c5; try clear c5b0; try clear c6; try clear c6b0; try clear p6; try clear c8; try clear c8b0; try clear c8b1; try clear c10; try clear c10b0; try clear c11; try clear c11b0; try clear c13; try clear c13b0; try clear c13b1; try clear c18; try clear c18b0; try clear c19; try clear c19b0; try clear c19b1; try clear c20; try clear c20b0; try clear c20b1; try clear c23; try clear c23b0; try clear c24; try clear c24b0; try clear c25; try clear c25b0; try clear c26; try clear c26b0; try clear c27; try clear p27; try clear q27; try clear hx27; try clear hf27; try clear p29; try clear q29; try clear hx29; try clear hx27_0; try clear hx294_0; try clear hx295_0; try clear hx300_0; try clear p2; try clear p27; try clear p294; try clear p295; try clear p300; try clear p6; try clear q2; try clear q27; try clear q294; try clear q295; try clear q300
                 obtain ⟨x11_4, x72_4, rfl, HA, HK4, HO_0, HO_11, HB⟩ := hrel
                 cases gk with
                 | zero => exact absurd HA.out (by simp [impl_remainder.l2])
                 | succ k4 =>
                  have H := HA.out
                  clear HA
                  simp only [impl_remainder.l2] at H
                  by_cases c30 : x72_4 < (l1.length : Int)
                  ·rw [if_pos c30] at H
                   have c30b0 : decide (x72_4 < (l1.length : Int)) = true := decide_eq_true c30
                   clear c30
                   by_cases c31 : 0 ≤ x72_4
                   ·rw [if_pos c31] at H
                    have c31b0 : decide (0 ≤ x72_4) = true := decide_eq_true c31
                    clear c31
                    by_cases c32 : x72_4 < (l1.length : Int)
                    ·rw [if_pos c32] at H
                     have c32b0 : decide (x72_4 < (l1.length : Int)) = true := decide_eq_true c32
                     clear c32
                     obtain ⟨ji33, hji33⟩ : ∃ j_ : Int, (wrap64 ((wrap64 (x72_4 + (x0_1.length : Int))) - (l1.length : Int))) = j_ := ⟨_, rfl⟩
                     first | rw [hji33] at H | simp only [hji33] at H
                     have hji33w : (IntKind.i64.wrap ((wrap64 (x72_4 + (x0_1.length : Int))) - (l1.length : Int))) = ji33 := (i64_w _).trans hji33
                     by_cases c34 : 0 ≤ (ji33)
                     ·rw [if_pos c34] at H
                      have c34b0 : decide (0 ≤ (ji33)) = true := decide_eq_true c34
                      clear c34
                      by_cases c35 : (ji33) < (x11_4.length : Int)
                      ·rw [if_pos c35] at H
                       have c35b0 : decide ((ji33) < (x11_4.length : Int)) = true := decide_eq_true c35
                       clear c35
                       obtain ⟨y304, hy304⟩ : ∃ y_ : List Int, y_ = (x11_4.set ((ji33) : Int).toNat (wrap64 ((rd x11_4 (ji33)) - (wrap64 (x10_14 * (rd l1 x72_4)))))) := ⟨_, rfl⟩
                       replace H : (impl_remainder.l2 k4 x0_1 l1 (rd l1 (ji4)) x10_14 y304 l1 (l1.length : Int) (wrap64 (x72_4 + 1))) = some (r1, r2) := by first | (rw [hy304]; with_reducible exact H) | (have H2_ := (Option.bind_some _ _).symm.trans H; rw [hy304]; with_reducible exact H2_) | (have H2_ := (Option.bind_some _ _).symm.trans H; with_reducible exact H2_) | with_reducible exact H | (rw [hy304]; exact H) | exact H
                       have Ny304 := Aside0.mk hy304
                       clear hy304
                       have H' := Aside0.mk H
                       clear H
                       have p302 : 0 ≤ (x72_4 : Int) := of_decide_eq_true am
                       have q302 : x72_4 < (l1.length : Int) := of_decide_eq_true am
                       obtain ⟨ad302, e302, hx302_0⟩ := Kd.at_int HR1.out x72_4 p302 q302
                       obtain rfl : ad294 = ad302 := (by injection e302)
                       replace hx302_0 := (HB.out.cell (World.block_lt_of_cell? w _ hx302_0)).trans hx302_0
                       replace p302 := eq_true p302
                       replace q302 := eq_true q302
                       obtain ⟨Ao37, co37, eo37⟩ := Kd.R_slice HO_11.out
                       subst eo37
                       have p303 : 0 ≤ ((ji33) : Int) := of_decide_eq_true am
                       have q303 : (ji33) < (x11_4.length : Int) := of_decide_eq_true am
                       obtain ⟨ad303, e303, hx303_0⟩ := Kd.at_int (Kd.R_reads' HO_11.out).2.2 (ji33) p303 q303
                       cases e303
                       replace p303 := eq_true p303
                       replace q303 := eq_true q303
                       have p36 : 0 ≤ ((ji33) : Int) := of_decide_eq_true am
                       have q36 : ((ji33) : Int) < ((x11_4.length : Int) : Int) := of_decide_eq_true am
                       obtain ⟨go36, co36, eo36, gb36, gl36, cl36, HG36⟩ := Kd.R_form HO_11.out (by omega)
                       (first | cases eo36 | (injection eo36 with ea_ en_ ec_; (first | subst ea_ | (injection ea_ with ea_; subst ea_)); subst ec_; clear en_))
                       have GB36 := Aside0.mk gb36
                       have GG36 := Aside0.mk HG36
                       clear gb36 gl36 HG36
                       (first | simp only [add_plain] at hx303_0 | skip)
                       obtain ⟨hx36_0, hf36_0⟩ := Kd.R_celln 0 HO_11.out ((ji33) : Int) p36 q36
                       replace p36 := eq_true p36
                       replace q36 := eq_true q36
                       have HP38 := Kd.R_putg HO_11.out ((ji33) : Int) (wrap64 ((rd x11_4 (ji33)) - (wrap64 (x10_14 * (rd l1 x72_4)))))
                       go_wp2_with (first | ((with_reducible refine gate_store (t := 3) (p := 91) rfl ?_); (try (rw [drewN_self wr]; generalize hq_ : World.drewN wr _ = wr; have n0_ := Aside0.mk (Kd.R_at hq_ HO_0.out); have n1_ := Aside0.mk (Kd.R_at hq_ HO_11.out); have n2_ := Aside0.mk (below_at hq_ HB.out); clear hq_ HO_0 HO_11 HB; have HO_0 := n0_; have HO_11 := n1_; have HB := n2_; clear n0_ n1_ n2_; (try (have HP38 := Kd.R_putg HO_11.out ((ji33) : Int) (wrap64 ((rd x11_4 (ji33)) - (wrap64 (x10_14 * (rd l1 x72_4))))))))); refine store_event (t := 3) (p := 91) (v := ?vo_w39) (w1 := (wr.setCell ⟨go36, ((ji33) : Int).toNat, none⟩ (.int .i64 (wrap64 ((rd x11_4 (ji33)) - (wrap64 (x10_14 * (rd l1 x72_4)))))))) ?hg ?ho ?hn ?hr ?_; (case ho => rfl); (case hg => rfl); (case hn => rfl); (case hr => first | (go_simp; done) | (go_simp; rfl)); intro w39 hw; have hg : wr.grownBy w39 (some go36) := (by rw [hw]; exact HP38.2); have hp_ : Kd.R (Kd.int .i64) 3 w39 w.heap.size (fun k_ => some k_ ≠ (.slice (some ad295) x0_1.length co16 : Value).ownBlock) (.slice (some ⟨go36, 0, none⟩) x11_4.length co37) y304 := (by rw [hw, Ny304.out]; exact HP38.1); clear HP38; have n0_ := Aside0.mk (Kd.R_after (v := (.slice (some ⟨go36, 0, none⟩) x11_4.length co37)) (v1 := (.slice (some ⟨go36, 0, none⟩) x11_4.length co37)) (ok := (fun _ => True)) (by (with_reducible repeat (first | apply Kd.R_alloc | apply Kd.R_drewN | apply Kd.R_drew)); exact Kd.R_mono HO_0.out (fun _ hk => ⟨trivial, hk⟩)) hg (.inl rfl)); have n1_ := Aside0.mk (hp_); have n2_ := Aside0.mk ((by rw [hw]; exact below_set (HB.out) GB36.out : Below w.heap.size w w39)); clear HO_0; clear HO_11; clear HB; have HO_0 := n0_; have HO_11 := n1_; have HB := n2_; clear n0_ n1_ n2_; clear hg hw hp_))
                       repeat (go_quiet (first | ((with_reducible refine gate_store (t := 3) (p := 91) rfl ?_); (try (rw [drewN_self wr]; generalize hq_ : World.drewN wr _ = wr; have n0_ := Aside0.mk (Kd.R_at hq_ HO_0.out); have n1_ := Aside0.mk (Kd.R_at hq_ HO_11.out); have n2_ := Aside0.mk (below_at hq_ HB.out); clear hq_ HO_0 HO_11 HB; have HO_0 := n0_; have HO_11 := n1_; have HB := n2_; clear n0_ n1_ n2_; (try (have HP38 := Kd.R_putg HO_11.out ((ji33) : Int) (wrap64 ((rd x11_4 (ji33)) - (wrap64 (x10_14 * (rd l1 x72_4))))))))); refine store_event (t := 3) (p := 91) (v := ?vo_w39) (w1 := (wr.setCell ⟨go36, ((ji33) : Int).toNat, none⟩ (.int .i64 (wrap64 ((rd x11_4 (ji33)) - (wrap64 (x10_14 * (rd l1 x72_4)))))))) ?hg ?ho ?hn ?hr ?_; (case ho => rfl); (case hg => rfl); (case hn => rfl); (case hr => first | (go_simp; done) | (go_simp; rfl)); intro w39 hw; have hg : wr.grownBy w39 (some go36) := (by rw [hw]; exact HP38.2); have hp_ : Kd.R (Kd.int .i64) 3 w39 w.heap.size (fun k_ => some k_ ≠ (.slice (some ad295) x0_1.length co16 : Value).ownBlock) (.slice (some ⟨go36, 0, none⟩) x11_4.length co37) y304 := (by rw [hw, Ny304.out]; exact HP38.1); clear HP38; have n0_ := Aside0.mk (Kd.R_after (v := (.slice (some ⟨go36, 0, none⟩) x11_4.length co37)) (v1 := (.slice (some ⟨go36, 0, none⟩) x11_4.length co37)) (ok := (fun _ => True)) (by (with_reducible repeat (first | apply Kd.R_alloc | apply Kd.R_drewN | apply Kd.R_drew)); exact Kd.R_mono HO_0.out (fun _ hk => ⟨trivial, hk⟩)) hg (.inl rfl)); have n1_ := Aside0.mk (hp_); have n2_ := Aside0.mk ((by rw [hw]; exact below_set (HB.out) GB36.out : Below w.heap.size w w39)); clear HO_0; clear HO_11; clear HB; have HO_0 := n0_; have HO_11 := n1_; have HB := n2_; clear n0_ n1_ n2_; clear hg hw hp_)); try go_wp2_with (first | ((with_reducible refine gate_store (t := 3) (p := 91) rfl ?_); (try (rw [drewN_self wr]; generalize hq_ : World.drewN wr _ = wr; have n0_ := Aside0.mk (Kd.R_at hq_ HO_0.out); have n1_ := Aside0.mk (Kd.R_at hq_ HO_11.out); have n2_ := Aside0.mk (below_at hq_ HB.out); clear hq_ HO_0 HO_11 HB; have HO_0 := n0_; have HO_11 := n1_; have HB := n2_; clear n0_ n1_ n2_; (try (have HP38 := Kd.R_putg HO_11.out ((ji33) : Int) (wrap64 ((rd x11_4 (ji33)) - (wrap64 (x10_14 * (rd l1 x72_4))))))))); refine store_event (t := 3) (p := 91) (v := ?vo_w39) (w1 := (wr.setCell ⟨go36, ((ji33) : Int).toNat, none⟩ (.int .i64 (wrap64 ((rd x11_4 (ji33)) - (wrap64 (x10_14 * (rd l1 x72_4)))))))) ?hg ?ho ?hn ?hr ?_; (case ho => rfl); (case hg => rfl); (case hn => rfl); (case hr => first | (go_simp; done) | (go_simp; rfl)); intro w39 hw; have hg : wr.grownBy w39 (some go36) := (by rw [hw]; exact HP38.2); have hp_ : Kd.R (Kd.int .i64) 3 w39 w.heap.size (fun k_ => some k_ ≠ (.slice (some ad295) x0_1.length co16 : Value).ownBlock) (.slice (some ⟨go36, 0, none⟩) x11_4.length co37) y304 := (by rw [hw, Ny304.out]; exact HP38.1); clear HP38; have n0_ := Aside0.mk (Kd.R_after (v := (.slice (some ⟨go36, 0, none⟩) x11_4.length co37)) (v1 := (.slice (some ⟨go36, 0, none⟩) x11_4.length co37)) (ok := (fun _ => True)) (by (with_reducible repeat (first | apply Kd.R_alloc | apply Kd.R_drewN | apply Kd.R_drew)); exact Kd.R_mono HO_0.out (fun _ hk => ⟨trivial, hk⟩)) hg (.inl rfl)); have n1_ := Aside0.mk (hp_); have n2_ := Aside0.mk ((by rw [hw]; exact below_set (HB.out) GB36.out : Below w.heap.size w w39)); clear HO_0; clear HO_11; clear HB; have HO_0 := n0_; have HO_11 := n1_; have HB := n2_; clear n0_ n1_ n2_; clear hg hw hp_)))
                       (try rw [← add_plain go36 (((ji9) : Int).toNat)])
                       (try rw [← add_plain go36 ((x58_3 : Int).toNat)])
                       go_roundg k4
                       case measure => have := HK1.out; have := HJ14.out; have := HK3.out; have := HK4.out; omega
                       case rel => exact ⟨(y304), (wrap64 (x72_4 + 1)), sr, H', ⟨by have := HK1.out; have := HJ14.out; have := HK3.out; have := HK4.out; omega⟩, ⟨by (with_reducible repeat (first | apply Kd.R_alloc | apply Kd.R_drewN | apply Kd.R_drew)); exact Kd.R_mono HO_0.out (fun _ hk => hk.2)⟩, ⟨kr HO_11⟩, ⟨bz⟩⟩
                      ·rw [if_neg c35] at H
                       exact absurd H (by simp)
                     ·rw [if_neg c34] at H
                      exact absurd H (by simp)
                    ·rw [if_neg c32] at H
                     exact absurd H (by simp)
                   ·rw [if_neg c31] at H
                    exact absurd H (by simp)
                  ·rw [if_neg c30] at H
                   have c30b0 : decide (x72_4 < (l1.length : Int)) = false := decide_eq_false c30
                   clear c30
                   obtain ⟨t305, A40, H⟩ := bi H
                   obtain ⟨t308, A41, H⟩ := bi H
                   obtain ⟨t311, A42, H⟩ := bi H
                   by_cases c43 : t311 = true
                   ·subst c43
                    rw [if_pos rfl] at H
                    simp only [Option.some.injEq, Prod.mk.injEq] at H
                    obtain ⟨rfl, rfl⟩ := H
                    obtain ⟨Ao44, co44, eo44⟩ := Kd.R_slice HO_11.out
                    subst eo44
                    go_wp2_with (first | (go_at_call 47; (with_reducible refine (impl_stripped.calls k4 (fun k_ => some k_ = (.slice Ao44 x11_4.length co44 : Value).ownBlock) _ _ x11_4 t305 _ ?side1 A40.out).mono ?_); (case side1 => exact Kd.R_V (Kd.R_tight rfl (HO_11.out))); rintro e w45 ⟨v306, rfl, ho0, hb⟩; have n0_ := Aside0.mk (Kd.R_elder' (kr HO_0) (Kd.R_base ho0) hb); have n1_ := Aside0.mk (Kd.R_elder' (kr HO_11) (Kd.R_base ho0) hb); have n2_ := Aside0.mk (Kd.R_lower (Kd.R_new' (Kd.R_new' (Kd.R_mono (ok' := fun k_ => True) ho0 (fun _ hk_ => trivial)) (Kd.R_lt (kr HO_0))) (Kd.R_lt (kr HO_11))) (below_size bz)); have n3_ := Aside0.mk (below_step bz hb); clear HO_0; clear HO_11; clear HB; have HO_0 := n0_; have HO_11 := n1_; have HO307 := n2_; have HB := n3_; clear n0_ n1_ n2_ n3_; (try clear hb); (try clear hb2); (try clear hk); (try clear hi); (try clear ho0); obtain ⟨Ao46, co46, eo46⟩ := Kd.R_slice HO307.out; subst eo46) | (go_at_call 45; (with_reducible refine (impl_divided.calls k4 _ _ t305 t308 _ ?side1 ?side2 A41.out).mono ?_); (case side1 => exact cr HO307); (case side2 => exact (Kd.R_reads' HO307.out).2.1); rintro e w47 ⟨v309, rfl, ho0, hb⟩; have n0_ := Aside0.mk (Kd.R_elder' (kr HO_0) (Kd.R_base ho0) hb); have n1_ := Aside0.mk (Kd.R_elder' (kr HO_11) (Kd.R_base ho0) hb); have n2_ := Aside0.mk (Kd.R_elder' (kr HO307) (Kd.R_base ho0) hb); have n3_ := Aside0.mk (Kd.R_lower (Kd.R_new' (Kd.R_new' (Kd.R_new' ho0 (Kd.R_lt (kr HO_0))) (Kd.R_lt (kr HO_11))) (Kd.R_lt (kr HO307))) (below_size bz)); have n4_ := Aside0.mk (below_step bz hb); clear HO_0; clear HO_11; clear HO307; clear HB; have HO_0 := n0_; have HO_11 := n1_; have HO307 := n2_; have HO310 := n3_; have HB := n4_; clear n0_ n1_ n2_ n3_ n4_; (try clear hb); (try clear hb2); (try clear hk); (try clear hi); (try clear ho0); obtain ⟨Ao48, co48, eo48⟩ := Kd.R_slice HO310.out; subst eo48) | (go_at_call 48; (with_reducible refine (slices_ContainsFunc_int_int__impl_remainder_1.calls _ _ t308 true _ ?side1 ?side2 A42.out).mono ?_); (case side1 => exact cr HO310); (case side2 => exact (Kd.R_reads' HO310.out).2.1); rintro e w' ⟨rfl, ⟨nd, rfl⟩⟩; (try first | exact ⟨rfl, _, World.drewN_drewN _ _ _⟩ | exact ⟨rfl, _, Eq.trans (World.drewN_drewN _ _ _) (congrArg (World.drewN _) (Nat.add_assoc _ _ _))⟩)))
                    repeat (go_quiet (first | (go_at_call 47; (with_reducible refine (impl_stripped.calls k4 (fun k_ => some k_ = (.slice Ao44 x11_4.length co44 : Value).ownBlock) _ _ x11_4 t305 _ ?side1 A40.out).mono ?_); (case side1 => exact Kd.R_V (Kd.R_tight rfl (HO_11.out))); rintro e w45 ⟨v306, rfl, ho0, hb⟩; have n0_ := Aside0.mk (Kd.R_elder' (kr HO_0) (Kd.R_base ho0) hb); have n1_ := Aside0.mk (Kd.R_elder' (kr HO_11) (Kd.R_base ho0) hb); have n2_ := Aside0.mk (Kd.R_lower (Kd.R_new' (Kd.R_new' (Kd.R_mono (ok' := fun k_ => True) ho0 (fun _ hk_ => trivial)) (Kd.R_lt (kr HO_0))) (Kd.R_lt (kr HO_11))) (below_size bz)); have n3_ := Aside0.mk (below_step bz hb); clear HO_0; clear HO_11; clear HB; have HO_0 := n0_; have HO_11 := n1_; have HO307 := n2_; have HB := n3_; clear n0_ n1_ n2_ n3_; (try clear hb); (try clear hb2); (try clear hk); (try clear hi); (try clear ho0); obtain ⟨Ao46, co46, eo46⟩ := Kd.R_slice HO307.out; subst eo46) | (go_at_call 45; (with_reducible refine (impl_divided.calls k4 _ _ t305 t308 _ ?side1 ?side2 A41.out).mono ?_); (case side1 => exact cr HO307); (case side2 => exact (Kd.R_reads' HO307.out).2.1); rintro e w47 ⟨v309, rfl, ho0, hb⟩; have n0_ := Aside0.mk (Kd.R_elder' (kr HO_0) (Kd.R_base ho0) hb); have n1_ := Aside0.mk (Kd.R_elder' (kr HO_11) (Kd.R_base ho0) hb); have n2_ := Aside0.mk (Kd.R_elder' (kr HO307) (Kd.R_base ho0) hb); have n3_ := Aside0.mk (Kd.R_lower (Kd.R_new' (Kd.R_new' (Kd.R_new' ho0 (Kd.R_lt (kr HO_0))) (Kd.R_lt (kr HO_11))) (Kd.R_lt (kr HO307))) (below_size bz)); have n4_ := Aside0.mk (below_step bz hb); clear HO_0; clear HO_11; clear HO307; clear HB; have HO_0 := n0_; have HO_11 := n1_; have HO307 := n2_; have HO310 := n3_; have HB := n4_; clear n0_ n1_ n2_ n3_ n4_; (try clear hb); (try clear hb2); (try clear hk); (try clear hi); (try clear ho0); obtain ⟨Ao48, co48, eo48⟩ := Kd.R_slice HO310.out; subst eo48) | (go_at_call 48; (with_reducible refine (slices_ContainsFunc_int_int__impl_remainder_1.calls _ _ t308 true _ ?side1 ?side2 A42.out).mono ?_); (case side1 => exact cr HO310); (case side2 => exact (Kd.R_reads' HO310.out).2.1); rintro e w' ⟨rfl, ⟨nd, rfl⟩⟩; (try first | exact ⟨rfl, _, World.drewN_drewN _ _ _⟩ | exact ⟨rfl, _, Eq.trans (World.drewN_drewN _ _ _) (congrArg (World.drewN _) (Nat.add_assoc _ _ _))⟩))); try go_wp2_with (first | (go_at_call 47; (with_reducible refine (impl_stripped.calls k4 (fun k_ => some k_ = (.slice Ao44 x11_4.length co44 : Value).ownBlock) _ _ x11_4 t305 _ ?side1 A40.out).mono ?_); (case side1 => exact Kd.R_V (Kd.R_tight rfl (HO_11.out))); rintro e w45 ⟨v306, rfl, ho0, hb⟩; have n0_ := Aside0.mk (Kd.R_elder' (kr HO_0) (Kd.R_base ho0) hb); have n1_ := Aside0.mk (Kd.R_elder' (kr HO_11) (Kd.R_base ho0) hb); have n2_ := Aside0.mk (Kd.R_lower (Kd.R_new' (Kd.R_new' (Kd.R_mono (ok' := fun k_ => True) ho0 (fun _ hk_ => trivial)) (Kd.R_lt (kr HO_0))) (Kd.R_lt (kr HO_11))) (below_size bz)); have n3_ := Aside0.mk (below_step bz hb); clear HO_0; clear HO_11; clear HB; have HO_0 := n0_; have HO_11 := n1_; have HO307 := n2_; have HB := n3_; clear n0_ n1_ n2_ n3_; (try clear hb); (try clear hb2); (try clear hk); (try clear hi); (try clear ho0); obtain ⟨Ao46, co46, eo46⟩ := Kd.R_slice HO307.out; subst eo46) | (go_at_call 45; (with_reducible refine (impl_divided.calls k4 _ _ t305 t308 _ ?side1 ?side2 A41.out).mono ?_); (case side1 => exact cr HO307); (case side2 => exact (Kd.R_reads' HO307.out).2.1); rintro e w47 ⟨v309, rfl, ho0, hb⟩; have n0_ := Aside0.mk (Kd.R_elder' (kr HO_0) (Kd.R_base ho0) hb); have n1_ := Aside0.mk (Kd.R_elder' (kr HO_11) (Kd.R_base ho0) hb); have n2_ := Aside0.mk (Kd.R_elder' (kr HO307) (Kd.R_base ho0) hb); have n3_ := Aside0.mk (Kd.R_lower (Kd.R_new' (Kd.R_new' (Kd.R_new' ho0 (Kd.R_lt (kr HO_0))) (Kd.R_lt (kr HO_11))) (Kd.R_lt (kr HO307))) (below_size bz)); have n4_ := Aside0.mk (below_step bz hb); clear HO_0; clear HO_11; clear HO307; clear HB; have HO_0 := n0_; have HO_11 := n1_; have HO307 := n2_; have HO310 := n3_; have HB := n4_; clear n0_ n1_ n2_ n3_ n4_; (try clear hb); (try clear hb2); (try clear hk); (try clear hi); (try clear ho0); obtain ⟨Ao48, co48, eo48⟩ := Kd.R_slice HO310.out; subst eo48) | (go_at_call 48; (with_reducible refine (slices_ContainsFunc_int_int__impl_remainder_1.calls _ _ t308 true _ ?side1 ?side2 A42.out).mono ?_); (case side1 => exact cr HO310); (case side2 => exact (Kd.R_reads' HO310.out).2.1); rintro e w' ⟨rfl, ⟨nd, rfl⟩⟩; (try first | exact ⟨rfl, _, World.drewN_drewN _ _ _⟩ | exact ⟨rfl, _, Eq.trans (World.drewN_drewN _ _ _) (congrArg (World.drewN _) (Nat.add_assoc _ _ _))⟩))))
                    go_ret2
                    exact ⟨_, by first | rfl | (simp [errW_none, errW_some] <;> rfl) | (simp only [← hji4, ← hji9, ← hji14]; first | rfl | (simp [errW_none, errW_some] <;> rfl)) | (simp [*, errW_none, errW_some] <;> rfl), by first | exact Kd.R_nil _ _ _ _ _ | exact Kd.N_nil _ _ _ _ _ | exact Kd.V_nil _ _ _ _ _ | exact Kd.Q_nil _ _ _ _ _ | exact Kd.S_nil _ _ _ _ _, bz⟩
                   ·replace c43 := Bool.eq_false_iff.mpr c43
                    subst c43
                    rw [if_neg (show ¬ (false = true) by decide)] at H
                    have H' := Aside0.mk H
                    clear H
                    obtain ⟨Ao49, co49, eo49⟩ := Kd.R_slice HO_11.out
                    subst eo49
                    go_wp2_with (first | (go_at_call 47; (with_reducible refine (impl_stripped.calls k4 (fun k_ => some k_ = (.slice Ao49 x11_4.length co49 : Value).ownBlock) _ _ x11_4 t305 _ ?side1 A40.out).mono ?_); (case side1 => exact Kd.R_V (Kd.R_tight rfl (HO_11.out))); rintro e w50 ⟨v306, rfl, ho0, hb⟩; have n0_ := Aside0.mk (Kd.R_elder' (kr HO_0) (Kd.R_base ho0) hb); have n1_ := Aside0.mk (Kd.R_elder' (kr HO_11) (Kd.R_base ho0) hb); have n2_ := Aside0.mk (Kd.R_lower (Kd.R_new' (Kd.R_new' (Kd.R_mono (ok' := fun k_ => True) ho0 (fun _ hk_ => trivial)) (Kd.R_lt (kr HO_0))) (Kd.R_lt (kr HO_11))) (below_size bz)); have n3_ := Aside0.mk (below_step bz hb); clear HO_0; clear HO_11; clear HB; have HO_0 := n0_; have HO_11 := n1_; have HO307 := n2_; have HB := n3_; clear n0_ n1_ n2_ n3_; (try clear hb); (try clear hb2); (try clear hk); (try clear hi); (try clear ho0); obtain ⟨Ao51, co51, eo51⟩ := Kd.R_slice HO307.out; subst eo51) | (go_at_call 45; (with_reducible refine (impl_divided.calls k4 _ _ t305 t308 _ ?side1 ?side2 A41.out).mono ?_); (case side1 => exact cr HO307); (case side2 => exact (Kd.R_reads' HO307.out).2.1); rintro e w52 ⟨v309, rfl, ho0, hb⟩; have n0_ := Aside0.mk (Kd.R_elder' (kr HO_0) (Kd.R_base ho0) hb); have n1_ := Aside0.mk (Kd.R_elder' (kr HO_11) (Kd.R_base ho0) hb); have n2_ := Aside0.mk (Kd.R_elder' (kr HO307) (Kd.R_base ho0) hb); have n3_ := Aside0.mk (Kd.R_lower (Kd.R_new' (Kd.R_new' (Kd.R_new' ho0 (Kd.R_lt (kr HO_0))) (Kd.R_lt (kr HO_11))) (Kd.R_lt (kr HO307))) (below_size bz)); have n4_ := Aside0.mk (below_step bz hb); clear HO_0; clear HO_11; clear HO307; clear HB; have HO_0 := n0_; have HO_11 := n1_; have HO307 := n2_; have HO310 := n3_; have HB := n4_; clear n0_ n1_ n2_ n3_ n4_; (try clear hb); (try clear hb2); (try clear hk); (try clear hi); (try clear ho0); obtain ⟨Ao53, co53, eo53⟩ := Kd.R_slice HO310.out; subst eo53) | (go_at_call 48; (with_reducible refine (slices_ContainsFunc_int_int__impl_remainder_1.calls _ _ t308 false _ ?side1 ?side2 A42.out).mono ?_); (case side1 => exact cr HO310); (case side2 => exact (Kd.R_reads' HO310.out).2.1); rintro e w' ⟨rfl, ⟨nd, rfl⟩⟩; (try first | exact ⟨rfl, _, World.drewN_drewN _ _ _⟩ | exact ⟨rfl, _, Eq.trans (World.drewN_drewN _ _ _) (congrArg (World.drewN _) (Nat.add_assoc _ _ _))⟩)))
                    repeat (go_quiet (first | (go_at_call 47; (with_reducible refine (impl_stripped.calls k4 (fun k_ => some k_ = (.slice Ao49 x11_4.length co49 : Value).ownBlock) _ _ x11_4 t305 _ ?side1 A40.out).mono ?_); (case side1 => exact Kd.R_V (Kd.R_tight rfl (HO_11.out))); rintro e w50 ⟨v306, rfl, ho0, hb⟩; have n0_ := Aside0.mk (Kd.R_elder' (kr HO_0) (Kd.R_base ho0) hb); have n1_ := Aside0.mk (Kd.R_elder' (kr HO_11) (Kd.R_base ho0) hb); have n2_ := Aside0.mk (Kd.R_lower (Kd.R_new' (Kd.R_new' (Kd.R_mono (ok' := fun k_ => True) ho0 (fun _ hk_ => trivial)) (Kd.R_lt (kr HO_0))) (Kd.R_lt (kr HO_11))) (below_size bz)); have n3_ := Aside0.mk (below_step bz hb); clear HO_0; clear HO_11; clear HB; have HO_0 := n0_; have HO_11 := n1_; have HO307 := n2_; have HB := n3_; clear n0_ n1_ n2_ n3_; (try clear hb); (try clear hb2); (try clear hk); (try clear hi); (try clear ho0); obtain ⟨Ao51, co51, eo51⟩ := Kd.R_slice HO307.out; subst eo51) | (go_at_call 45; (with_reducible refine (impl_divided.calls k4 _ _ t305 t308 _ ?side1 ?side2 A41.out).mono ?_); (case side1 => exact cr HO307); (case side2 => exact (Kd.R_reads' HO307.out).2.1); rintro e w52 ⟨v309, rfl, ho0, hb⟩; have n0_ := Aside0.mk (Kd.R_elder' (kr HO_0) (Kd.R_base ho0) hb); have n1_ := Aside0.mk (Kd.R_elder' (kr HO_11) (Kd.R_base ho0) hb); have n2_ := Aside0.mk (Kd.R_elder' (kr HO307) (Kd.R_base ho0) hb); have n3_ := Aside0.mk (Kd.R_lower (Kd.R_new' (Kd.R_new' (Kd.R_new' ho0 (Kd.R_lt (kr HO_0))) (Kd.R_lt (kr HO_11))) (Kd.R_lt (kr HO307))) (below_size bz)); have n4_ := Aside0.mk (below_step bz hb); clear HO_0; clear HO_11; clear HO307; clear HB; have HO_0 := n0_; have HO_11 := n1_; have HO307 := n2_; have HO310 := n3_; have HB := n4_; clear n0_ n1_ n2_ n3_ n4_; (try clear hb); (try clear hb2); (try clear hk); (try clear hi); (try clear ho0); obtain ⟨Ao53, co53, eo53⟩ := Kd.R_slice HO310.out; subst eo53) | (go_at_call 48; (with_reducible refine (slices_ContainsFunc_int_int__impl_remainder_1.calls _ _ t308 false _ ?side1 ?side2 A42.out).mono ?_); (case side1 => exact cr HO310); (case side2 => exact (Kd.R_reads' HO310.out).2.1); rintro e w' ⟨rfl, ⟨nd, rfl⟩⟩; (try first | exact ⟨rfl, _, World.drewN_drewN _ _ _⟩ | exact ⟨rfl, _, Eq.trans (World.drewN_drewN _ _ _) (congrArg (World.drewN _) (Nat.add_assoc _ _ _))⟩))); try go_wp2_with (first | (go_at_call 47; (with_reducible refine (impl_stripped.calls k4 (fun k_ => some k_ = (.slice Ao49 x11_4.length co49 : Value).ownBlock) _ _ x11_4 t305 _ ?side1 A40.out).mono ?_); (case side1 => exact Kd.R_V (Kd.R_tight rfl (HO_11.out))); rintro e w50 ⟨v306, rfl, ho0, hb⟩; have n0_ := Aside0.mk (Kd.R_elder' (kr HO_0) (Kd.R_base ho0) hb); have n1_ := Aside0.mk (Kd.R_elder' (kr HO_11) (Kd.R_base ho0) hb); have n2_ := Aside0.mk (Kd.R_lower (Kd.R_new' (Kd.R_new' (Kd.R_mono (ok' := fun k_ => True) ho0 (fun _ hk_ => trivial)) (Kd.R_lt (kr HO_0))) (Kd.R_lt (kr HO_11))) (below_size bz)); have n3_ := Aside0.mk (below_step bz hb); clear HO_0; clear HO_11; clear HB; have HO_0 := n0_; have HO_11 := n1_; have HO307 := n2_; have HB := n3_; clear n0_ n1_ n2_ n3_; (try clear hb); (try clear hb2); (try clear hk); (try clear hi); (try clear ho0); obtain ⟨Ao51, co51, eo51⟩ := Kd.R_slice HO307.out; subst eo51) | (go_at_call 45; (with_reducible refine (impl_divided.calls k4 _ _ t305 t308 _ ?side1 ?side2 A41.out).mono ?_); (case side1 => exact cr HO307); (case side2 => exact (Kd.R_reads' HO307.out).2.1); rintro e w52 ⟨v309, rfl, ho0, hb⟩; have n0_ := Aside0.mk (Kd.R_elder' (kr HO_0) (Kd.R_base ho0) hb); have n1_ := Aside0.mk (Kd.R_elder' (kr HO_11) (Kd.R_base ho0) hb); have n2_ := Aside0.mk (Kd.R_elder' (kr HO307) (Kd.R_base ho0) hb); have n3_ := Aside0.mk (Kd.R_lower (Kd.R_new' (Kd.R_new' (Kd.R_new' ho0 (Kd.R_lt (kr HO_0))) (Kd.R_lt (kr HO_11))) (Kd.R_lt (kr HO307))) (below_size bz)); have n4_ := Aside0.mk (below_step bz hb); clear HO_0; clear HO_11; clear HO307; clear HB; have HO_0 := n0_; have HO_11 := n1_; have HO307 := n2_; have HO310 := n3_; have HB := n4_; clear n0_ n1_ n2_ n3_ n4_; (try clear hb); (try clear hb2); (try clear hk); (try clear hi); (try clear ho0); obtain ⟨Ao53, co53, eo53⟩ := Kd.R_slice HO310.out; subst eo53) | (go_at_call 48; (with_reducible refine (slices_ContainsFunc_int_int__impl_remainder_1.calls _ _ t308 false _ ?side1 ?side2 A42.out).mono ?_); (case side1 => exact cr HO310); (case side2 => exact (Kd.R_reads' HO310.out).2.1); rintro e w' ⟨rfl, ⟨nd, rfl⟩⟩; (try first | exact ⟨rfl, _, World.drewN_drewN _ _ _⟩ | exact ⟨rfl, _, Eq.trans (World.drewN_drewN _ _ _) (congrArg (World.drewN _) (Nat.add_assoc _ _ _))⟩))))
                    (try rw [← add_plain go36 (((ji9) : Int).toNat)])
                    (try rw [← add_plain go36 ((x58_3 : Int).toNat)])
                    go_roundg k4
                    case measure => have := HK1.out; have := HJ14.out; have := HK3.out; have := HK4.out; omega
                    case rel => exact ⟨(t308), H', ⟨by have := HK1.out; have := HJ14.out; have := HK3.out; have := HK4.out; omega⟩, ⟨by (with_reducible repeat (first | apply Kd.R_alloc | apply Kd.R_drewN | apply Kd.R_drew)); exact Kd.R_mono HO310.out (fun _ hk => trivial)⟩, ⟨bz⟩⟩
            ·rw [if_neg c20] at H
             exact absurd H (by simp)
           ·rw [if_neg c19] at H
            exact absurd H (by simp)
       ·rw [if_neg c11] at H
        exact absurd H (by simp)
      ·rw [if_neg c10] at H
       exact absurd H (by simp)
     ·rw [if_neg c8] at H
      have c8b0 : decide ((l1.length : Int) ≤ (x0_1.length : Int)) = false := decide_eq_false c8
      have c8b1 : decide (l1.length ≤ x0_1.length) = false := decide_eq_false (fun h => c8 (Int.ofNat_le.mpr h))
      clear c8
      simp only [Option.some.injEq, Prod.mk.injEq] at H
      obtain ⟨rfl, rfl⟩ := H
      obtain ⟨Ao54, co54, eo54⟩ := Kd.R_slice HO_0.out
      subst eo54
      go_wp2
      repeat (go_quiet (fail); try go_wp2)
      go_ret2
      exact ⟨_, by first | rfl | (simp [errW_none, errW_some] <;> rfl) | (simp only [← hji4]; first | rfl | (simp [errW_none, errW_some] <;> rfl)) | (simp [*, errW_none, errW_some] <;> rfl), by (with_reducible repeat (first | apply Kd.R_alloc | apply Kd.R_drewN | apply Kd.R_drew)); exact HO_0.out, bz⟩
  ·rw [if_neg c6] at H
   exact absurd H (by simp)
 ·rw [if_neg c5] at H
  exact absurd H (by simp)
end Go.Proofs.Ytgkpbbmacjgilaa.QSgs
