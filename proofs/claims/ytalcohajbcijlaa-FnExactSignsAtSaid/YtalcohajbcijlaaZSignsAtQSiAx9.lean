import Derived.Test.YtalcohajbcijlaaProg
import Derived.Test.YtalcohajbcijlaaZSignsAtWWords
import Derived.Test.YtalcohajbcijlaaZSignsAtWLast
import Derived.Test.YtalcohajbcijlaaZSignsAtWTab
import Derived.Test.YtalcohajbcijlaaZSignsAtWFour
import Derived.Test.YtalcohajbcijlaaZSignsAtWQPut
import Derived.Test.YtalcohajbcijlaaZSignsAtWApart
import Derived.Test.YtalcohajbcijlaaZSignsAtWArr
import Derived.Test.YtalcohajbcijlaaZSignsAtWZeros
import Derived.Test.YtalcohajbcijlaaZSignsAtWFoot
import Derived.Test.YtalcohajbcijlaaZSignsAtWKept
import Derived.Test.YtalcohajbcijlaaZSignsAtWShare
import Derived.Test.YtalcohajbcijlaaZSignsAtWN
import Derived.Test.YtalcohajbcijlaaZSignsAtWFootNe
import Derived.Test.YtalcohajbcijlaaZSignsAtWAt
import Derived.Test.YtalcohajbcijlaaZSignsAtWEqStruct
import Derived.Test.YtalcohajbcijlaaZSignsAtWRepsOne
import Derived.Test.YtalcohajbcijlaaZSignsAtWInv
import Derived.Test.YtalcohajbcijlaaZSignsAtWInvWords
import Derived.Test.YtalcohajbcijlaaZSignsAtWGuard
import Derived.Test.YtalcohajbcijlaaZSignsAtWNEv
import Derived.Test.YtalcohajbcijlaaZSignsAtSq
import Derived.Below
import Derived.Deep.Draws
import Derived.Deep.AppendLies
import Derived.Maps.AppendAt
import Derived.OwnWalk
import Derived.Laws.BytesArg
import Derived.Laws.MakeOwn
import Derived.Laws.OwnMore
import Derived.Deep.OwnRows
import Derived.Tactics
import Derived.Lib.ConvBytes
import Derived.Laws.Slices
import Derived.WalkKit
import Derived.KernelRfl
import Derived.RowKit3
import Derived.Deep.LoopGhost
import Derived.Deep.QuietTactic
import Derived.BigQuiet
import Derived.WideLaws
import Derived.Deep.DeepCutAuto
import Derived.Deep.CutBlock
import Derived.Deep.RegionHeld3
import Derived.Laws.Rows
import Derived.Lib.AppendStr
import Derived.ArgAppend
import Derived.Laws.IdiomCopy
import Derived.OrdersHeld
import Derived.Laws.BitsLemmas
import Derived.RowKit
import Derived.Lib.SliceRun
namespace Go.Proofs.Ytalcohajbcijlaa.QSiA
open Go.RowKit Go.Proofs.YtalcohajbcijlaaW.PrintWords Go.Proofs.YtalcohajbcijlaaW.PrintLast Go.Proofs.YtalcohajbcijlaaW.PrintMore
attribute [local go_sem] max2_int min2_int max_two min_two max_three min_three max_four min_four
set_option linter.unusedVariables false
set_option linter.unusedSimpArgs false
def errW : Option Int → Value
 | none => .nilIface
 | some c => .iface 0 (.int .i64 c)
theorem errW_none : errW none = .nilIface := rfl
theorem errW_some (c : Int) : errW (some c) = .iface 0 (.int .i64 c) := rfl
def ix3 (a b c i : Int) : Int := if i = 0 then a else if i = 1 then b else c
theorem index3_133 (a b c i : Int) (h0 : 0 ≤ i) (h1 : i < 3) (W : World) : (Instr.index 133 (.agg #[.int .i64 a, .int .i64 b, .int .i64 c]) (.int .i64 i)).run Try.prog W = .ok (.int .i64 (ix3 a b c i)) W := by
 have hu := Try.underlying133
 obtain rfl | rfl | rfl : i = 0 ∨ i = 1 ∨ i = 2 := by omega
 all_goals first | (unfold Instr.index; go_simp; done) | (unfold Instr.index; go_simp; rfl)
theorem info3 : (Try.prog.info? 3).map (fun i => (i.zero, i.size, i.bytes)) = some (some (.int .i64 0), 1, 8) := by kernel_rfl
theorem info44 : (Try.prog.info? 44).map (fun i => (i.zero, i.size, i.bytes)) = some (some (.agg #[(.int .i64 0), (.int .i64 0)]), 2, 16) := by kernel_rfl
theorem info53 : (Try.prog.info? 53).map (fun i => (i.zero, i.size, i.bytes)) = some (some (.slice none 0 0), 1, 24) := by kernel_rfl
theorem info107 : (Try.prog.info? 107).map (fun i => (i.zero, i.size, i.bytes)) = some (some (.agg #[(.int .i64 0), (.int .i64 0), (.int .i64 0), (.int .i64 0)]), 4, 32) := by kernel_rfl
structure S44 where
 f0 : Int
 f1 : Int
def z44 : S44 := ⟨(0 : Int), (0 : Int)⟩
def k44 : Kd S44 := Kd.iso (Kd.pair (Kd.int .i64) (Kd.int .i64)) (fun x : S44 => (x.f0, x.f1))
theorem k44_open {w : World} {x : S44} {cs : List Value} (h : k44.K w x cs) : cs = [.int .i64 x.f0, .int .i64 x.f1] := by
 obtain ⟨_, _, rfl, rfl, rfl⟩ := h
 exact rfl
theorem k44_openM {w : World} {base : Nat} {ok : Nat → Prop} {x : S44} {cs : List Value} (h : k44.M w base ok x cs) : cs = [.int .i64 x.f0, .int .i64 x.f1] := by
 obtain ⟨_, _, rfl, rfl, rfl⟩ := h
 exact rfl
theorem k44_mkM (w : World) (base : Nat) (ok : Nat → Prop) (x : S44)  : k44.M w base ok x [.int .i64 x.f0, .int .i64 x.f1] := ⟨[.int .i64 x.f0], [.int .i64 x.f1], rfl, rfl, rfl⟩
def rd_T44 (xs : List S44) (i : Int) : S44 := xs.getD i.toNat z44
theorem at_T44 {w : World} {A : Option Addr} {n : Nat} {xs : List S44} (h : Kd.C k44 w A n xs) (i : Int) (h0 : 0 ≤ i) (h1 : i < n) : ∃ ad , A = some ad ∧ w.cell? (ad.add (i.toNat * 2)) = some (.int .i64 (rd_T44 xs i).f0) ∧ w.cell? ⟨(ad.add (i.toNat * 2)).block, (ad.add (i.toNat * 2)).off + 1, none⟩ = some (.int .i64 (rd_T44 xs i).f1) := by
 obtain ⟨ad, c, e, _, hK, hc0⟩ := Kd.C_get h z44 i h0 h1
 have hc : ∀ j u, c[j]? = some u → w.cell? (ad.add (i.toNat * 2 + j)) = some u := hc0
 obtain rfl := k44_open hK
 exact ⟨ad, e, hc 0 _ rfl, by rw [← add_field _ _ 1 (by omega)]; exact hc 1 _ rfl⟩
structure S107 where
 f0 : Int
 f1 : Int
 f2 : Int
 f3 : Int
def z107 : S107 := ⟨(0 : Int), (0 : Int), (0 : Int), (0 : Int)⟩
def k107 : Kd S107 := Kd.iso (Kd.pair (Kd.int .i64) (Kd.pair (Kd.int .i64) (Kd.pair (Kd.int .i64) (Kd.int .i64)))) (fun x : S107 => (x.f0, x.f1, x.f2, x.f3))
theorem k107_open {w : World} {x : S107} {cs : List Value} (h : k107.K w x cs) : cs = [.int .i64 x.f0, .int .i64 x.f1, .int .i64 x.f2, .int .i64 x.f3] := by
 obtain ⟨_, _, rfl, rfl, ⟨_, _, rfl, rfl, ⟨_, _, rfl, rfl, rfl⟩⟩⟩ := h
 exact rfl
theorem k107_openM {w : World} {base : Nat} {ok : Nat → Prop} {x : S107} {cs : List Value} (h : k107.M w base ok x cs) : cs = [.int .i64 x.f0, .int .i64 x.f1, .int .i64 x.f2, .int .i64 x.f3] := by
 obtain ⟨_, _, rfl, rfl, ⟨_, _, rfl, rfl, ⟨_, _, rfl, rfl, rfl⟩⟩⟩ := h
 exact rfl
theorem k107_mkM (w : World) (base : Nat) (ok : Nat → Prop) (x : S107)  : k107.M w base ok x [.int .i64 x.f0, .int .i64 x.f1, .int .i64 x.f2, .int .i64 x.f3] := ⟨[.int .i64 x.f0], [.int .i64 x.f1, .int .i64 x.f2, .int .i64 x.f3], rfl, rfl, ⟨[.int .i64 x.f1], [.int .i64 x.f2, .int .i64 x.f3], rfl, rfl, ⟨[.int .i64 x.f2], [.int .i64 x.f3], rfl, rfl, rfl⟩⟩⟩
def rd_T107 (xs : List S107) (i : Int) : S107 := xs.getD i.toNat z107
theorem at_T107 {w : World} {A : Option Addr} {n : Nat} {xs : List S107} (h : Kd.C k107 w A n xs) (i : Int) (h0 : 0 ≤ i) (h1 : i < n) : ∃ ad , A = some ad ∧ w.cell? (ad.add (i.toNat * 4)) = some (.int .i64 (rd_T107 xs i).f0) ∧ w.cell? ⟨(ad.add (i.toNat * 4)).block, (ad.add (i.toNat * 4)).off + 1, none⟩ = some (.int .i64 (rd_T107 xs i).f1) ∧ w.cell? ⟨(ad.add (i.toNat * 4)).block, (ad.add (i.toNat * 4)).off + 2, none⟩ = some (.int .i64 (rd_T107 xs i).f2) ∧ w.cell? ⟨(ad.add (i.toNat * 4)).block, (ad.add (i.toNat * 4)).off + 3, none⟩ = some (.int .i64 (rd_T107 xs i).f3) := by
 obtain ⟨ad, c, e, _, hK, hc0⟩ := Kd.C_get h z107 i h0 h1
 have hc : ∀ j u, c[j]? = some u → w.cell? (ad.add (i.toNat * 4 + j)) = some u := hc0
 obtain rfl := k107_open hK
 exact ⟨ad, e, hc 0 _ rfl, by rw [← add_field _ _ 1 (by omega)]; exact hc 1 _ rfl, by rw [← add_field _ _ 2 (by omega)]; exact hc 2 _ rfl, by rw [← add_field _ _ 3 (by omega)]; exact hc 3 _ rfl⟩
def rd_L3 (xs : List (List S107)) (i : Int) : (List S107) := xs.getD i.toNat ([] : List S107)
theorem at_L3 {w : World} {A : Option Addr} {n : Nat} {xs : List (List S107)} (h : Kd.C (Kd.slice 107 k107) w A n xs) (i : Int) (h0 : 0 ≤ i) (h1 : i < n) : ∃ ad A0 c0, A = some ad ∧ w.cell? (ad.add i.toNat) = some (.slice A0 (rd_L3 xs i).length c0) ∧ (rd_L3 xs i).length ≤ c0 ∧ k107.C w A0 (rd_L3 xs i).length (rd_L3 xs i) := by
 obtain ⟨ad, c, e, _, hK, hc0⟩ := Kd.C_get h ([] : List S107) i h0 h1
 have hc : ∀ j u, c[j]? = some u → w.cell? (ad.add (i.toNat * 1 + j)) = some u := hc0
 obtain ⟨A0, c0, rfl, l0, g0⟩ := hK
 exact ⟨ad, A0, c0, e, by have hq := hc 0 _ rfl; rwa [Nat.mul_one, Nat.add_zero] at hq, l0, g0⟩
structure S109 where
 f0 : Int
 f1 : Int
 f2 : Int
 f3 : Int
def z109 : S109 := ⟨(0 : Int), (0 : Int), (0 : Int), (0 : Int)⟩
def k109 : Kd S109 := Kd.iso (Kd.pair (Kd.int .i64) (Kd.pair (Kd.int .i64) (Kd.pair (Kd.int .i64) (Kd.int .i64)))) (fun x : S109 => (x.f0, x.f1, x.f2, x.f3))
theorem k109_open {w : World} {x : S109} {cs : List Value} (h : k109.K w x cs) : cs = [.int .i64 x.f0, .int .i64 x.f1, .int .i64 x.f2, .int .i64 x.f3] := by
 obtain ⟨_, _, rfl, rfl, ⟨_, _, rfl, rfl, ⟨_, _, rfl, rfl, rfl⟩⟩⟩ := h
 exact rfl
theorem k109_mk (w : World) (x : S109)  : k109.K w x [.int .i64 x.f0, .int .i64 x.f1, .int .i64 x.f2, .int .i64 x.f3] := ⟨[.int .i64 x.f0], [.int .i64 x.f1, .int .i64 x.f2, .int .i64 x.f3], rfl, rfl, ⟨[.int .i64 x.f1], [.int .i64 x.f2, .int .i64 x.f3], rfl, rfl, ⟨[.int .i64 x.f2], [.int .i64 x.f3], rfl, rfl, rfl⟩⟩⟩
def rd_T109 (xs : List S109) (i : Int) : S109 := xs.getD i.toNat z109
theorem at_T109 {w : World} {A : Option Addr} {n : Nat} {xs : List S109} (h : Kd.C k109 w A n xs) (i : Int) (h0 : 0 ≤ i) (h1 : i < n) : ∃ ad , A = some ad ∧ w.cell? (ad.add (i.toNat * 4)) = some (.int .i64 (rd_T109 xs i).f0) ∧ w.cell? ⟨(ad.add (i.toNat * 4)).block, (ad.add (i.toNat * 4)).off + 1, none⟩ = some (.int .i64 (rd_T109 xs i).f1) ∧ w.cell? ⟨(ad.add (i.toNat * 4)).block, (ad.add (i.toNat * 4)).off + 2, none⟩ = some (.int .i64 (rd_T109 xs i).f2) ∧ w.cell? ⟨(ad.add (i.toNat * 4)).block, (ad.add (i.toNat * 4)).off + 3, none⟩ = some (.int .i64 (rd_T109 xs i).f3) := by
 obtain ⟨ad, c, e, _, hK, hc0⟩ := Kd.C_get h z109 i h0 h1
 have hc : ∀ j u, c[j]? = some u → w.cell? (ad.add (i.toNat * 4 + j)) = some u := hc0
 obtain rfl := k109_open hK
 exact ⟨ad, e, hc 0 _ rfl, by rw [← add_field _ _ 1 (by omega)]; exact hc 1 _ rfl, by rw [← add_field _ _ 2 (by omega)]; exact hc 2 _ rfl, by rw [← add_field _ _ 3 (by omega)]; exact hc 3 _ rfl⟩
def rd_L5 (xs : List (List S109)) (i : Int) : (List S109) := xs.getD i.toNat ([] : List S109)
theorem at_L5 {w : World} {A : Option Addr} {n : Nat} {xs : List (List S109)} (h : Kd.C (Kd.slice 109 k109) w A n xs) (i : Int) (h0 : 0 ≤ i) (h1 : i < n) : ∃ ad A0 c0, A = some ad ∧ w.cell? (ad.add i.toNat) = some (.slice A0 (rd_L5 xs i).length c0) ∧ (rd_L5 xs i).length ≤ c0 ∧ k109.C w A0 (rd_L5 xs i).length (rd_L5 xs i) := by
 obtain ⟨ad, c, e, _, hK, hc0⟩ := Kd.C_get h ([] : List S109) i h0 h1
 have hc : ∀ j u, c[j]? = some u → w.cell? (ad.add (i.toNat * 1 + j)) = some u := hc0
 obtain ⟨A0, c0, rfl, l0, g0⟩ := hK
 exact ⟨ad, A0, c0, e, by have hq := hc 0 _ rfl; rwa [Nat.mul_one, Nat.add_zero] at hq, l0, g0⟩
structure S82 where
 f0 : Int
 f1 : Int
def z82 : S82 := ⟨(0 : Int), (0 : Int)⟩
def k82 : Kd S82 := Kd.iso (Kd.pair (Kd.int .i64) (Kd.int .i64)) (fun x : S82 => (x.f0, x.f1))
theorem k82_open {w : World} {x : S82} {cs : List Value} (h : k82.K w x cs) : cs = [.int .i64 x.f0, .int .i64 x.f1] := by
 obtain ⟨_, _, rfl, rfl, rfl⟩ := h
 exact rfl
theorem k82_mk (w : World) (x : S82)  : k82.K w x [.int .i64 x.f0, .int .i64 x.f1] := ⟨[.int .i64 x.f0], [.int .i64 x.f1], rfl, rfl, rfl⟩
def rd_T82 (xs : List S82) (i : Int) : S82 := xs.getD i.toNat z82
theorem at_T82 {w : World} {A : Option Addr} {n : Nat} {xs : List S82} (h : Kd.C k82 w A n xs) (i : Int) (h0 : 0 ≤ i) (h1 : i < n) : ∃ ad , A = some ad ∧ w.cell? (ad.add (i.toNat * 2)) = some (.int .i64 (rd_T82 xs i).f0) ∧ w.cell? ⟨(ad.add (i.toNat * 2)).block, (ad.add (i.toNat * 2)).off + 1, none⟩ = some (.int .i64 (rd_T82 xs i).f1) := by
 obtain ⟨ad, c, e, _, hK, hc0⟩ := Kd.C_get h z82 i h0 h1
 have hc : ∀ j u, c[j]? = some u → w.cell? (ad.add (i.toNat * 2 + j)) = some u := hc0
 obtain rfl := k82_open hK
 exact ⟨ad, e, hc 0 _ rfl, by rw [← add_field _ _ 1 (by omega)]; exact hc 1 _ rfl⟩
def impl_inside.f (a0 : Int) (a1 : Int) (a2 : Int) : Option (Bool) := if a0 ≥ a1 then (some (decide (a0 ≤ a2))) else (some false)
set_option maxHeartbeats 8000000 in
set_option maxRecDepth 100000 in
theorem impl_inside.calls (a0 : Int) (a1 : Int) (a2 : Int) (r : Bool) (w : World) (h : impl_inside.f a0 a1 a2 = some r) :
 Calls Try.prog 96 #[.int .i64 a0, .int .i64 a1, .int .i64 a2] w fun e w' => e = .returned (.bool r) ∧ Drawn0 w w' := by
 have H : (if a0 ≥ a1 then (some (decide (a0 ≤ a2))) else (some false)) = some r := h
 clear h
 by_cases c4 : a0 ≥ a1
 ·rw [if_pos c4] at H
  have c4b0 : decide (a1 ≤ a0) = true := decide_eq_true c4
  clear c4
  obtain rfl := Option.some.inj H
  go_enter Try.func96, Try.ntmps96
  go_wp2
  go_ret
  exact ⟨sr, dz⟩
 ·rw [if_neg c4] at H
  have c4b0 : decide (a1 ≤ a0) = false := decide_eq_false c4
  clear c4
  obtain rfl := Option.some.inj H
  go_enter Try.func96, Try.ntmps96
  go_wp2
  go_ret
  exact ⟨sr, dz⟩
def impl_isPlaces.f (a0 : Int) : Option (Bool) := (impl_inside.f a0 0 24).bind fun t101 => (some t101)
set_option maxHeartbeats 8000000 in
set_option maxRecDepth 100000 in
theorem impl_isPlaces.calls (a0 : Int) (r : Bool) (w : World) (h : impl_isPlaces.f a0 = some r) :
 Calls Try.prog 126 #[.int .i64 a0] w fun e w' => e = .returned (.bool r) ∧ Drawn0 w w' := by
 have H : ((impl_inside.f a0 0 24).bind fun t101 => (some t101)) = some r := h
 clear h
 obtain ⟨t101, A2, H⟩ := bi H
 obtain rfl := Option.some.inj H
 go_enter Try.func126, Try.ntmps126
 go_wp2_with (first | ((with_reducible refine gate_callee (f := 96) rfl ?_); refine goesL_ (some 4) rfl rfl Try.func96 kf rfl #[.int .i64 a0, .int .i64 0, .int .i64 24] rfl sm ?_; (with_reducible refine (impl_inside.calls a0 0 24 t101 _ A2.out).mono ?_); rintro e w' ⟨rfl, ⟨nd, rfl⟩⟩; refine ⟨_, rfl, ?_⟩))
 go_ret
 exact ⟨sr, dz⟩
def impl_isDyadic.f (a0_0 : Int) (a0_1 : Int) : Option (Bool) := (impl_isPlaces.f a0_1).bind fun t103 => (if t103 = true then ((impl_inside.f a0_0 (-1099511627776) 1099511627776).bind fun t104 => (if t104 = true then (if a0_1 = 0 then (some true) else (some ((Int.tmod a0_0 2) != 0))) else (some false))) else (some false))
set_option maxHeartbeats 8000000 in
set_option maxRecDepth 100000 in
theorem impl_isDyadic.calls (a0_0 : Int) (a0_1 : Int) (r : Bool) (w : World) (h : impl_isDyadic.f a0_0 a0_1 = some r) :
 Calls Try.prog 88 #[.agg #[.int .i64 a0_0, .int .i64 a0_1]] w fun e w' => e = .returned (.bool r) ∧ Below w.heap.size w w' := by
 have hu44 := Try.underlying44
 have HB := Aside0.mk (Below.refl w.heap.size w)
 have H : ((impl_isPlaces.f a0_1).bind fun t103 => (if t103 = true then ((impl_inside.f a0_0 (-1099511627776) 1099511627776).bind fun t104 => (if t104 = true then (if a0_1 = 0 then (some true) else (some ((Int.tmod a0_0 2) != 0))) else (some false))) else (some false))) = some r := h
 clear h
 obtain ⟨t103, A2, H⟩ := bi H
 by_cases c3 : t103 = true
 ·subst c3
  rw [if_pos rfl] at H
  obtain ⟨t104, A4, H⟩ := bi H
  by_cases c5 : t104 = true
  ·subst c5
   rw [if_pos rfl] at H
   by_cases c6 : a0_1 = 0
   ·rw [if_pos c6] at H
    have c6b0 : (a0_1 == 0) = true := beq_iff_eq.mpr c6
    have c6b1 : (a0_1 != 0) = false := bne_eq_false_iff_eq.mpr c6
    clear c6
    obtain rfl := Option.some.inj H
    go_enter Try.func88, Try.ntmps88
    go_wp2_with (first | ((with_reducible refine gate_dst (N := 1) rfl ?_); refine bv (N := 1) (cs := #[.int .i64 a0_0, .int .i64 a0_1]) (t := 44) ?_; intro gb102 hg w7 hbox hb; have n0_ := Aside0.mk (below_step bz hb); have n1_ := Aside0.mk (hbox); have n2_ := (gz hg : Aside0 (w.heap.size ≤ _)); have n3_ := (gz hg : Aside0 (w.heap.size ≤ _)); clear HB; have HB := n0_; have BK102 := n1_; have GW102 := n2_; have GE102 := n3_; clear n0_ n1_ n2_ n3_; clear hb hbox hg; have hcz8_0 : w7.cell? ⟨gb102, 0, none⟩ = some (.int .i64 a0_0) := (blk_cell BK102.out 0).trans rfl; have hcz8_1 : w7.cell? ⟨gb102, 1, none⟩ = some (.int .i64 a0_1) := (blk_cell BK102.out 1).trans rfl; have hfz8_0 := blk_frozen BK102.out 0; have hfz8_1 := blk_frozen BK102.out 1) | ((with_reducible refine gate_callee (f := 126) rfl ?_); refine goesL_ (some 5) rfl rfl Try.func126 kf rfl #[.int .i64 a0_1] rfl sm ?_; (with_reducible refine (impl_isPlaces.calls a0_1 true _ A2.out).mono ?_); rintro e w' ⟨rfl, ⟨nd, rfl⟩⟩; refine ⟨_, rfl, ?_⟩) | (go_at_call 96; (with_reducible refine (impl_inside.calls a0_0 (-1099511627776) 1099511627776 true _ A4.out).mono ?_); rintro e w' ⟨rfl, ⟨nd, rfl⟩⟩))
    go_ret
    exact ⟨er, bz1 GE102⟩
   ·rw [if_neg c6] at H
    have c6b0 : (a0_1 == 0) = false := beq_eq_false_iff_ne.mpr c6
    have c6b1 : (a0_1 != 0) = true := bne_iff_ne.mpr c6
    obtain rfl := Option.some.inj H
    go_enter Try.func88, Try.ntmps88
    go_wp2_with (first | ((with_reducible refine gate_dst (N := 1) rfl ?_); refine bv (N := 1) (cs := #[.int .i64 a0_0, .int .i64 a0_1]) (t := 44) ?_; intro gb102 hg w9 hbox hb; have n0_ := Aside0.mk (below_step bz hb); have n1_ := Aside0.mk (hbox); have n2_ := (gz hg : Aside0 (w.heap.size ≤ _)); have n3_ := (gz hg : Aside0 (w.heap.size ≤ _)); clear HB; have HB := n0_; have BK102 := n1_; have GW102 := n2_; have GE102 := n3_; clear n0_ n1_ n2_ n3_; clear hb hbox hg; have hcz10_0 : w9.cell? ⟨gb102, 0, none⟩ = some (.int .i64 a0_0) := (blk_cell BK102.out 0).trans rfl; have hcz10_1 : w9.cell? ⟨gb102, 1, none⟩ = some (.int .i64 a0_1) := (blk_cell BK102.out 1).trans rfl; have hfz10_0 := blk_frozen BK102.out 0; have hfz10_1 := blk_frozen BK102.out 1) | ((with_reducible refine gate_callee (f := 126) rfl ?_); refine goesL_ (some 5) rfl rfl Try.func126 kf rfl #[.int .i64 a0_1] rfl sm ?_; (with_reducible refine (impl_isPlaces.calls a0_1 true _ A2.out).mono ?_); rintro e w' ⟨rfl, ⟨nd, rfl⟩⟩; refine ⟨_, rfl, ?_⟩) | (go_at_call 96; (with_reducible refine (impl_inside.calls a0_0 (-1099511627776) 1099511627776 true _ A4.out).mono ?_); rintro e w' ⟨rfl, ⟨nd, rfl⟩⟩))
    go_ret
    exact ⟨er, bz1 GE102⟩
  ·replace c5 := Bool.eq_false_iff.mpr c5
   subst c5
   rw [if_neg (show ¬ (false = true) by decide)] at H
   obtain rfl := Option.some.inj H
   go_enter Try.func88, Try.ntmps88
   go_wp2_with (first | ((with_reducible refine gate_dst (N := 1) rfl ?_); refine bv (N := 1) (cs := #[.int .i64 a0_0, .int .i64 a0_1]) (t := 44) ?_; intro gb102 hg w11 hbox hb; have n0_ := Aside0.mk (below_step bz hb); have n1_ := Aside0.mk (hbox); have n2_ := (gz hg : Aside0 (w.heap.size ≤ _)); have n3_ := (gz hg : Aside0 (w.heap.size ≤ _)); clear HB; have HB := n0_; have BK102 := n1_; have GW102 := n2_; have GE102 := n3_; clear n0_ n1_ n2_ n3_; clear hb hbox hg; have hcz12_0 : w11.cell? ⟨gb102, 0, none⟩ = some (.int .i64 a0_0) := (blk_cell BK102.out 0).trans rfl; have hcz12_1 : w11.cell? ⟨gb102, 1, none⟩ = some (.int .i64 a0_1) := (blk_cell BK102.out 1).trans rfl; have hfz12_0 := blk_frozen BK102.out 0; have hfz12_1 := blk_frozen BK102.out 1) | ((with_reducible refine gate_callee (f := 126) rfl ?_); refine goesL_ (some 5) rfl rfl Try.func126 kf rfl #[.int .i64 a0_1] rfl sm ?_; (with_reducible refine (impl_isPlaces.calls a0_1 true _ A2.out).mono ?_); rintro e w' ⟨rfl, ⟨nd, rfl⟩⟩; refine ⟨_, rfl, ?_⟩) | (go_at_call 96; (with_reducible refine (impl_inside.calls a0_0 (-1099511627776) 1099511627776 false _ A4.out).mono ?_); rintro e w' ⟨rfl, ⟨nd, rfl⟩⟩))
   go_ret
   exact ⟨er, bz1 GE102⟩
 ·replace c3 := Bool.eq_false_iff.mpr c3
  subst c3
  rw [if_neg (show ¬ (false = true) by decide)] at H
  obtain rfl := Option.some.inj H
  go_enter Try.func88, Try.ntmps88
  go_wp2_with (first | ((with_reducible refine gate_dst (N := 1) rfl ?_); refine bv (N := 1) (cs := #[.int .i64 a0_0, .int .i64 a0_1]) (t := 44) ?_; intro gb102 hg w13 hbox hb; have n0_ := Aside0.mk (below_step bz hb); have n1_ := Aside0.mk (hbox); have n2_ := (gz hg : Aside0 (w.heap.size ≤ _)); have n3_ := (gz hg : Aside0 (w.heap.size ≤ _)); clear HB; have HB := n0_; have BK102 := n1_; have GW102 := n2_; have GE102 := n3_; clear n0_ n1_ n2_ n3_; clear hb hbox hg; have hcz14_0 : w13.cell? ⟨gb102, 0, none⟩ = some (.int .i64 a0_0) := (blk_cell BK102.out 0).trans rfl; have hcz14_1 : w13.cell? ⟨gb102, 1, none⟩ = some (.int .i64 a0_1) := (blk_cell BK102.out 1).trans rfl; have hfz14_0 := blk_frozen BK102.out 0; have hfz14_1 := blk_frozen BK102.out 1) | ((with_reducible refine gate_callee (f := 126) rfl ?_); refine goesL_ (some 5) rfl rfl Try.func126 kf rfl #[.int .i64 a0_1] rfl sm ?_; (with_reducible refine (impl_isPlaces.calls a0_1 false _ A2.out).mono ?_); rintro e w' ⟨rfl, ⟨nd, rfl⟩⟩; refine ⟨_, rfl, ?_⟩))
  go_ret
  exact ⟨er, bz1 GE102⟩
def impl_isBoxNumber.f (a0_0 : Int) (a0_1 : Int) : Option (Bool) := (impl_isDyadic.f a0_0 a0_1).bind fun t106 => (if t106 = true then (if a0_1 ≤ 9 then (if 0 ≤ a0_1 then ((impl_inside.f a0_0 (shl .i64 (-8) a0_1) (shl .i64 8 a0_1)).bind fun t107 => (some t107)) else (none)) else (some false)) else (some false))
def impl_isBoxNumber.T1 : Bool × List (List Nat × List Nat) := (true, [([], []), ([0], [0]), ([1, 1], [1]), ([2], [2]), ([3, 2], [2, 3]), ([4, 2], [2, 4]), ([2, 5], [2, 5]), ([6, 2], [6]), ([7], [7]), ([8, 7], [7, 8]), ([7], [7]), ([10, 7], [7, 10]), ([11, 7], [7, 11]), ([7], [7]), ([13, 7], [7, 13]), ([14, 7], [7, 14]), ([9, 12, 15, 7, 7], [7, 9, 12, 15]), ([7, 16], [7, 16]), ([17, 16, 0, 1, 2, 3, 4, 5, 6, 7, 8, 9, 10, 11, 12, 13, 14, 15, 16, 17], [17])])
def impl_isBoxNumber.B1 : List Nat := [0, 1, 3, 7, 15, 31, 63, 127, 255, 511, 255, 1279, 3327, 255, 8447, 24831, 65535, 131071, 262143]
theorem impl_isBoxNumber.tab1 : rtab .any (opsOf Try.f107 1) = impl_isBoxNumber.T1 := by kernel_rfl
theorem impl_isBoxNumber.bits1 : waitsOk impl_isBoxNumber.T1.2 impl_isBoxNumber.B1 = true := by kernel_rfl
set_option maxHeartbeats 8000000 in
set_option maxRecDepth 100000 in
theorem impl_isBoxNumber.calls (a0_0 : Int) (a0_1 : Int) (r : Bool) (w : World) (h : impl_isBoxNumber.f a0_0 a0_1 = some r) :
 Calls Try.prog 107 #[.agg #[.int .i64 a0_0, .int .i64 a0_1]] w fun e w' => e = .returned (.bool r) ∧ Below w.heap.size w w' := by
 have hu44 := Try.underlying44
 have HB := Aside0.mk (Below.refl w.heap.size w)
 have H : ((impl_isDyadic.f a0_0 a0_1).bind fun t106 => (if t106 = true then (if a0_1 ≤ 9 then (if 0 ≤ a0_1 then ((impl_inside.f a0_0 (shl .i64 (-8) a0_1) (shl .i64 8 a0_1)).bind fun t107 => (some t107)) else (none)) else (some false)) else (some false))) = some r := h
 clear h
 obtain ⟨t106, A2, H⟩ := bi H
 by_cases c3 : t106 = true
 ·subst c3
  rw [if_pos rfl] at H
  by_cases c4 : a0_1 ≤ 9
  ·rw [if_pos c4] at H
   have c4b0 : decide (a0_1 ≤ 9) = true := decide_eq_true c4
   clear c4
   by_cases c5 : 0 ≤ a0_1
   ·rw [if_pos c5] at H
    have c5b0 := eq_true c5
    have c5b1 : decide (0 ≤ a0_1) = true := decide_eq_true c5
    clear c5
    obtain ⟨ji6, hji6⟩ : ∃ j_ : Int, (shl .i64 (-8) a0_1) = j_ := ⟨_, rfl⟩
    first | rw [hji6] at H | simp only [hji6] at H
    (try rw [hji6] at A2)
    have hji6_ : (IntKind.i64.wrap ((-8) * 2 ^ min a0_1.toNat 64)) = ji6 := hji6
    have hji6z : a0_1 ≤ 64 → (IntKind.i64.wrap ((-8) * 2 ^ a0_1.toNat)) = ji6 := shl_small hji6
    have hji6y : (wrap64 ((-8) * 2 ^ min a0_1.toNat 64)) = ji6 := (i64_w _).symm.trans hji6_
    have hji6x : a0_1 ≤ 64 → (wrap64 ((-8) * 2 ^ a0_1.toNat)) = ji6 := fun h_ => (i64_w _).symm.trans (hji6z h_)
    have c7b0 := eq_true (of_decide_eq_true am : 0 ≤ a0_1)
    obtain ⟨ji8, hji8⟩ : ∃ j_ : Int, (shl .i64 8 a0_1) = j_ := ⟨_, rfl⟩
    first | rw [hji8] at H | simp only [hji8] at H
    (try rw [hji8] at A2)
    have hji8_ : (IntKind.i64.wrap (8 * 2 ^ min a0_1.toNat 64)) = ji8 := hji8
    have hji8z : a0_1 ≤ 64 → (IntKind.i64.wrap (8 * 2 ^ a0_1.toNat)) = ji8 := shl_small hji8
    have hji8y : (wrap64 (8 * 2 ^ min a0_1.toNat 64)) = ji8 := (i64_w _).symm.trans hji8_
    have hji8x : a0_1 ≤ 64 → (wrap64 (8 * 2 ^ a0_1.toNat)) = ji8 := fun h_ => (i64_w _).symm.trans (hji8z h_)
    obtain ⟨t107, A9, H⟩ := bi H
    obtain rfl := Option.some.inj H
    go_enter Try.func107, Try.ntmps107
    try go_wp2_with (first | ((with_reducible refine gate_dst (N := 1) rfl ?_); refine bv (N := 1) (cs := #[.int .i64 a0_0, .int .i64 a0_1]) (t := 44) ?_; intro gb105 hg w10 hbox hb; have n0_ := Aside0.mk (below_step bz hb); have n1_ := Aside0.mk (hbox); have n2_ := (gz hg : Aside0 (w.heap.size ≤ _)); have n3_ := (gz hg : Aside0 (w.heap.size ≤ _)); clear HB; have HB := n0_; have BK105 := n1_; have GW105 := n2_; have GE105 := n3_; clear n0_ n1_ n2_ n3_; clear hb hbox hg))
    have n0_ := Aside0.mk (blk_drew BK105.out)
    have n1_ := Aside0.mk (below_drew1 HB.out)
    clear BK105 HB
    have BK105 := n0_
    have HB := n1_
    clear n0_ n1_
    refine start_ (n := 19) (S := fun w' => w'.cell? ⟨gb105, 0, none⟩ = some (.int .i64 a0_0) ∧ w'.cell? ⟨gb105, 1, none⟩ = some (.int .i64 a0_1)) (ds := []) #[fF, fF, fF, fF, fF, fF, fF, fF, fF, fF, fF, fF, fF, fF, fF, fF, fF, fF, fF] kf rfl rfl ⟨(blk_cell BK105.out 0).trans rfl, (blk_cell BK105.out 1).trans rfl⟩ (fun hHeld => ?_); refine with_tabW impl_isBoxNumber.tab1 impl_isBoxNumber.bits1 (fun HT_ HW_ => ?_)
    generalize w10.drew = w11 at BK105 HB hHeld ⊢
    refine tq2 (i := 0) (N := some 3) #[tT, fF, fF, fF, fF, fF, fF, fF, fF, fF, fF, fF, fF, fF, fF, fF, fF, fF, fF] rfl rfl HT_.out HW_.out hHeld ?_
    refine one_ (i := 1) (N := some 4) #[tT, tT, fF, fF, fF, fF, fF, fF, fF, fF, fF, fF, fF, fF, fF, fF, fF, fF, fF] rfl rfl (one_of HT_.out kf) (by decide) (fun K hK => ?_)
    refine goes_ Try.func88 kf rfl #[.agg #[.int .i64 a0_0, .int .i64 a0_1]] (by rfl) rfl rfl sm ?_
    with_reducible refine (impl_isDyadic.calls a0_0 a0_1 true _ A2.out).mono ?_
    rintro e w12 ⟨rfl, hb⟩
    refine ⟨_, rfl, ?_⟩
    have n0_ := bb BK105 hb
    have n1_ := Aside0.mk (below_step (bz1 GE105) hb)
    clear BK105 HB
    have BK105 := n0_
    have HB := n1_
    clear n0_ n1_
    (try clear hb)
    (try clear hb2)
    (try clear hk)
    (try clear hi)
    refine hK.out _ _ ⟨(blk_cell BK105.out 0).trans rfl, (blk_cell BK105.out 1).trans rfl⟩ (fun hHeld => ?_)
    clear hK K
    refine norm_ (a' := ?_) ?_ ?_
    rotate_left
    ·show Act.put _ (some 4) _ = _
     simp only [Act.put, List.setIfInBounds_toArray, List.set_cons_zero, List.set_cons_succ, i64_w, i32_w]
     rfl
    refine pq (i := 2) (N := some 5) #[tT, tT, tT, fF, fF, fF, fF, fF, fF, fF, fF, fF, fF, fF, fF, fF, fF, fF, fF] rfl rfl HT_.out ?_
    refine pq (i := 3) (N := some 6) #[tT, tT, tT, tT, fF, fF, fF, fF, fF, fF, fF, fF, fF, fF, fF, fF, fF, fF, fF] rfl rfl HT_.out ?_
    refine tq2 (i := 4) (N := some 7) #[tT, tT, tT, tT, tT, fF, fF, fF, fF, fF, fF, fF, fF, fF, fF, fF, fF, fF, fF] rfl rfl HT_.out HW_.out hHeld ?_
    refine pq (i := 5) (N := some 8) #[tT, tT, tT, tT, tT, tT, fF, fF, fF, fF, fF, fF, fF, fF, fF, fF, fF, fF, fF] rfl rfl HT_.out ?_
    refine pq (i := 6) (N := some 9) #[tT, tT, tT, tT, tT, tT, tT, fF, fF, fF, fF, fF, fF, fF, fF, fF, fF, fF, fF] rfl rfl HT_.out ?_
    refine pq (i := 7) (N := some 10) #[tT, tT, tT, tT, tT, tT, tT, tT, fF, fF, fF, fF, fF, fF, fF, fF, fF, fF, fF] rfl rfl HT_.out ?_
    refine pq (i := 8) (N := some 11) #[tT, tT, tT, tT, tT, tT, tT, tT, tT, fF, fF, fF, fF, fF, fF, fF, fF, fF, fF] rfl rfl HT_.out ?_
    refine pq (i := 10) (N := some 13) #[tT, tT, tT, tT, tT, tT, tT, tT, tT, fF, tT, fF, fF, fF, fF, fF, fF, fF, fF] rfl rfl HT_.out ?_
    refine pq (i := 13) (N := some 16) #[tT, tT, tT, tT, tT, tT, tT, tT, tT, fF, tT, fF, fF, tT, fF, fF, fF, fF, fF] rfl rfl HT_.out ?_
    refine tq2 (i := 9) (N := some 12) #[tT, tT, tT, tT, tT, tT, tT, tT, tT, tT, tT, fF, fF, tT, fF, fF, fF, fF, fF] rfl rfl HT_.out HW_.out hHeld ?_
    refine tq2 (i := 11) (N := some 14) #[tT, tT, tT, tT, tT, tT, tT, tT, tT, tT, tT, tT, fF, tT, fF, fF, fF, fF, fF] rfl rfl HT_.out HW_.out hHeld ?_
    refine pq (i := 12) (N := some 15) #[tT, tT, tT, tT, tT, tT, tT, tT, tT, tT, tT, tT, tT, tT, fF, fF, fF, fF, fF] rfl rfl HT_.out ?_
    refine tq2 (i := 14) (N := some 17) #[tT, tT, tT, tT, tT, tT, tT, tT, tT, tT, tT, tT, tT, tT, tT, fF, fF, fF, fF] rfl rfl HT_.out HW_.out hHeld ?_
    refine pq (i := 15) (N := some 18) #[tT, tT, tT, tT, tT, tT, tT, tT, tT, tT, tT, tT, tT, tT, tT, tT, fF, fF, fF] rfl rfl HT_.out ?_
    refine one_ (i := 16) (N := some 19) #[tT, tT, tT, tT, tT, tT, tT, tT, tT, tT, tT, tT, tT, tT, tT, tT, tT, fF, fF] rfl rfl (one_of HT_.out kf) (by decide) (fun K hK => ?_)
    refine goes_ Try.func96 kf rfl #[.int .i64 a0_0, .int .i64 ji6, .int .i64 ji8] (by rfl) rfl rfl (by (try simp only [List.map_toArray, List.map_cons, List.map_nil]); first | done | (simp only [hji6, hji8]; rfl) | rfl | (simp only [List.length_drop, List.length_take]; rfl)) ?_
    with_reducible refine (impl_inside.calls a0_0 ji6 ji8 t107 _ A9.out).mono ?_
    rintro e w' ⟨rfl, ⟨nd, rfl⟩⟩
    refine ⟨_, rfl, ?_⟩
    refine hK.out _ _ ⟨(blk_cell BK105.out 0).trans rfl, (blk_cell BK105.out 1).trans rfl⟩ (fun hHeld => ?_)
    clear hK K
    refine norm_ (a' := ?_) ?_ ?_
    rotate_left
    ·show Act.put _ (some 19) _ = _
     simp only [Act.put, List.setIfInBounds_toArray, List.set_cons_zero, List.set_cons_succ, i64_w, i32_w]
     rfl
    refine pq (i := 17) (N := some 20) #[tT, tT, tT, tT, tT, tT, tT, tT, tT, tT, tT, tT, tT, tT, tT, tT, tT, tT, fF] rfl rfl HT_.out ?_
    refine pq (i := 18) (N := some 2) #[tT, tT, tT, tT, tT, tT, tT, tT, tT, tT, tT, tT, tT, tT, tT, tT, tT, tT, tT] rfl rfl HT_.out ?_
    refine done_ (done_of HT_.out kf) ?_
    try go_wp2
    go_ret
    exact ⟨by first | rfl | (simp [errW_none, errW_some] <;> rfl) | (simp only [← hji6, ← hji8]; first | rfl | (simp [errW_none, errW_some] <;> rfl)) | (simp [*, errW_none, errW_some] <;> rfl), bz1 GE105⟩
   ·rw [if_neg c5] at H
    exact absurd H (by simp)
  ·rw [if_neg c4] at H
   have c4b0 : decide (a0_1 ≤ 9) = false := decide_eq_false c4
   clear c4
   obtain rfl := Option.some.inj H
   go_enter Try.func107, Try.ntmps107
   try go_wp2_with (first | ((with_reducible refine gate_dst (N := 1) rfl ?_); refine bv (N := 1) (cs := #[.int .i64 a0_0, .int .i64 a0_1]) (t := 44) ?_; intro gb105 hg w13 hbox hb; have n0_ := Aside0.mk (below_step bz hb); have n1_ := Aside0.mk (hbox); have n2_ := (gz hg : Aside0 (w.heap.size ≤ _)); have n3_ := (gz hg : Aside0 (w.heap.size ≤ _)); clear HB; have HB := n0_; have BK105 := n1_; have GW105 := n2_; have GE105 := n3_; clear n0_ n1_ n2_ n3_; clear hb hbox hg))
   have n0_ := Aside0.mk (blk_drew BK105.out)
   have n1_ := Aside0.mk (below_drew1 HB.out)
   clear BK105 HB
   have BK105 := n0_
   have HB := n1_
   clear n0_ n1_
   refine start_ (n := 19) (S := fun w' => w'.cell? ⟨gb105, 0, none⟩ = some (.int .i64 a0_0) ∧ w'.cell? ⟨gb105, 1, none⟩ = some (.int .i64 a0_1)) (ds := []) #[fF, fF, fF, fF, fF, fF, fF, fF, fF, fF, fF, fF, fF, fF, fF, fF, fF, fF, fF] kf rfl rfl ⟨(blk_cell BK105.out 0).trans rfl, (blk_cell BK105.out 1).trans rfl⟩ (fun hHeld => ?_); refine with_tabW impl_isBoxNumber.tab1 impl_isBoxNumber.bits1 (fun HT_ HW_ => ?_)
   generalize w13.drew = w14 at BK105 HB hHeld ⊢
   refine tq2 (i := 0) (N := some 3) #[tT, fF, fF, fF, fF, fF, fF, fF, fF, fF, fF, fF, fF, fF, fF, fF, fF, fF, fF] rfl rfl HT_.out HW_.out hHeld ?_
   refine one_ (i := 1) (N := some 4) #[tT, tT, fF, fF, fF, fF, fF, fF, fF, fF, fF, fF, fF, fF, fF, fF, fF, fF, fF] rfl rfl (one_of HT_.out kf) (by decide) (fun K hK => ?_)
   refine goes_ Try.func88 kf rfl #[.agg #[.int .i64 a0_0, .int .i64 a0_1]] (by rfl) rfl rfl sm ?_
   with_reducible refine (impl_isDyadic.calls a0_0 a0_1 true _ A2.out).mono ?_
   rintro e w15 ⟨rfl, hb⟩
   refine ⟨_, rfl, ?_⟩
   have n0_ := bb BK105 hb
   have n1_ := Aside0.mk (below_step (bz1 GE105) hb)
   clear BK105 HB
   have BK105 := n0_
   have HB := n1_
   clear n0_ n1_
   (try clear hb)
   (try clear hb2)
   (try clear hk)
   (try clear hi)
   refine hK.out _ _ ⟨(blk_cell BK105.out 0).trans rfl, (blk_cell BK105.out 1).trans rfl⟩ (fun hHeld => ?_)
   clear hK K
   refine norm_ (a' := ?_) ?_ ?_
   rotate_left
   ·show Act.put _ (some 4) _ = _
    simp only [Act.put, List.setIfInBounds_toArray, List.set_cons_zero, List.set_cons_succ, i64_w, i32_w]
    rfl
   refine pq (i := 2) (N := some 5) #[tT, tT, tT, fF, fF, fF, fF, fF, fF, fF, fF, fF, fF, fF, fF, fF, fF, fF, fF] rfl rfl HT_.out ?_
   refine pq (i := 3) (N := some 6) #[tT, tT, tT, tT, fF, fF, fF, fF, fF, fF, fF, fF, fF, fF, fF, fF, fF, fF, fF] rfl rfl HT_.out ?_
   refine tq2 (i := 4) (N := some 7) #[tT, tT, tT, tT, tT, fF, fF, fF, fF, fF, fF, fF, fF, fF, fF, fF, fF, fF, fF] rfl rfl HT_.out HW_.out hHeld ?_
   refine pq (i := 5) (N := some 8) #[tT, tT, tT, tT, tT, tT, fF, fF, fF, fF, fF, fF, fF, fF, fF, fF, fF, fF, fF] rfl rfl HT_.out ?_
   refine pq (i := 6) (N := some 9) #[tT, tT, tT, tT, tT, tT, tT, fF, fF, fF, fF, fF, fF, fF, fF, fF, fF, fF, fF] rfl rfl HT_.out ?_
   refine pq (i := 7) (N := some 10) #[tT, tT, tT, tT, tT, tT, tT, tT, fF, fF, fF, fF, fF, fF, fF, fF, fF, fF, fF] rfl rfl HT_.out ?_
   refine pure_ (i := 8) (N := some 11) (v := undef) (a' := ?_) #[tT, tT, tT, tT, tT, tT, tT, tT, tT, fF, fF, fF, fF, fF, fF, fF, fF, fF, fF] rfl rfl (any_of HT_.out kf) (fun _ _ _ h => h) (Or.inr ⟨by rfl, rfl⟩) ?_ ?_
   rotate_left
   ·simp only [Act.put, List.setIfInBounds_toArray, List.set_cons_zero, List.set_cons_succ, i64_w, i32_w]
    rfl
   refine pure_ (i := 9) (N := some 12) (v := undef) (a' := ?_) #[tT, tT, tT, tT, tT, tT, tT, tT, tT, tT, fF, fF, fF, fF, fF, fF, fF, fF, fF] rfl rfl (any_of HT_.out kf) (fun _ _ _ h => h) (Or.inr ⟨by rfl, rfl⟩) ?_ ?_
   rotate_left
   ·simp only [Act.put, List.setIfInBounds_toArray, List.set_cons_zero, List.set_cons_succ, i64_w, i32_w]
    rfl
   refine pure_ (i := 10) (N := some 13) (v := undef) (a' := ?_) #[tT, tT, tT, tT, tT, tT, tT, tT, tT, tT, tT, fF, fF, fF, fF, fF, fF, fF, fF] rfl rfl (any_of HT_.out kf) (fun _ _ _ h => h) (Or.inr ⟨by rfl, rfl⟩) ?_ ?_
   rotate_left
   ·simp only [Act.put, List.setIfInBounds_toArray, List.set_cons_zero, List.set_cons_succ, i64_w, i32_w]
    rfl
   refine pure_ (i := 11) (N := some 14) (v := undef) (a' := ?_) #[tT, tT, tT, tT, tT, tT, tT, tT, tT, tT, tT, tT, fF, fF, fF, fF, fF, fF, fF] rfl rfl (any_of HT_.out kf) (fun _ _ _ h => h) (Or.inr ⟨by rfl, rfl⟩) ?_ ?_
   rotate_left
   ·simp only [Act.put, List.setIfInBounds_toArray, List.set_cons_zero, List.set_cons_succ, i64_w, i32_w]
    rfl
   refine pure_ (i := 12) (N := some 15) (v := undef) (a' := ?_) #[tT, tT, tT, tT, tT, tT, tT, tT, tT, tT, tT, tT, tT, fF, fF, fF, fF, fF, fF] rfl rfl (any_of HT_.out kf) (fun _ _ _ h => h) (Or.inr ⟨by rfl, rfl⟩) ?_ ?_
   rotate_left
   ·simp only [Act.put, List.setIfInBounds_toArray, List.set_cons_zero, List.set_cons_succ, i64_w, i32_w]
    rfl
   refine pure_ (i := 13) (N := some 16) (v := undef) (a' := ?_) #[tT, tT, tT, tT, tT, tT, tT, tT, tT, tT, tT, tT, tT, tT, fF, fF, fF, fF, fF] rfl rfl (any_of HT_.out kf) (fun _ _ _ h => h) (Or.inr ⟨by rfl, rfl⟩) ?_ ?_
   rotate_left
   ·simp only [Act.put, List.setIfInBounds_toArray, List.set_cons_zero, List.set_cons_succ, i64_w, i32_w]
    rfl
   refine pure_ (i := 14) (N := some 17) (v := undef) (a' := ?_) #[tT, tT, tT, tT, tT, tT, tT, tT, tT, tT, tT, tT, tT, tT, tT, fF, fF, fF, fF] rfl rfl (any_of HT_.out kf) (fun _ _ _ h => h) (Or.inr ⟨by rfl, rfl⟩) ?_ ?_
   rotate_left
   ·simp only [Act.put, List.setIfInBounds_toArray, List.set_cons_zero, List.set_cons_succ, i64_w, i32_w]
    rfl
   refine pure_ (i := 15) (N := some 18) (v := undef) (a' := ?_) #[tT, tT, tT, tT, tT, tT, tT, tT, tT, tT, tT, tT, tT, tT, tT, tT, fF, fF, fF] rfl rfl (any_of HT_.out kf) (fun _ _ _ h => h) (Or.inr ⟨by rfl, rfl⟩) ?_ ?_
   rotate_left
   ·simp only [Act.put, List.setIfInBounds_toArray, List.set_cons_zero, List.set_cons_succ, i64_w, i32_w]
    rfl
   refine pure_ (i := 16) (N := some 19) (v := undef) (a' := ?_) #[tT, tT, tT, tT, tT, tT, tT, tT, tT, tT, tT, tT, tT, tT, tT, tT, tT, fF, fF] rfl rfl (any_of HT_.out kf) (fun _ _ _ h => h) (Or.inr ⟨by rfl, rfl⟩) ?_ ?_
   rotate_left
   ·simp only [Act.put, List.setIfInBounds_toArray, List.set_cons_zero, List.set_cons_succ, i64_w, i32_w]
    rfl
   refine pq (i := 17) (N := some 20) #[tT, tT, tT, tT, tT, tT, tT, tT, tT, tT, tT, tT, tT, tT, tT, tT, tT, tT, fF] rfl rfl HT_.out ?_
   refine pq (i := 18) (N := some 2) #[tT, tT, tT, tT, tT, tT, tT, tT, tT, tT, tT, tT, tT, tT, tT, tT, tT, tT, tT] rfl rfl HT_.out ?_
   refine done_ (done_of HT_.out kf) ?_
   try go_wp2
   go_ret
   exact ⟨er, bz1 GE105⟩
 ·replace c3 := Bool.eq_false_iff.mpr c3
  subst c3
  rw [if_neg (show ¬ (false = true) by decide)] at H
  obtain rfl := Option.some.inj H
  go_enter Try.func107, Try.ntmps107
  try go_wp2_with (first | ((with_reducible refine gate_dst (N := 1) rfl ?_); refine bv (N := 1) (cs := #[.int .i64 a0_0, .int .i64 a0_1]) (t := 44) ?_; intro gb105 hg w16 hbox hb; have n0_ := Aside0.mk (below_step bz hb); have n1_ := Aside0.mk (hbox); have n2_ := (gz hg : Aside0 (w.heap.size ≤ _)); have n3_ := (gz hg : Aside0 (w.heap.size ≤ _)); clear HB; have HB := n0_; have BK105 := n1_; have GW105 := n2_; have GE105 := n3_; clear n0_ n1_ n2_ n3_; clear hb hbox hg))
  have n0_ := Aside0.mk (blk_drew BK105.out)
  have n1_ := Aside0.mk (below_drew1 HB.out)
  clear BK105 HB
  have BK105 := n0_
  have HB := n1_
  clear n0_ n1_
  refine start_ (n := 19) (S := fun w' => w'.cell? ⟨gb105, 0, none⟩ = some (.int .i64 a0_0) ∧ w'.cell? ⟨gb105, 1, none⟩ = some (.int .i64 a0_1)) (ds := []) #[fF, fF, fF, fF, fF, fF, fF, fF, fF, fF, fF, fF, fF, fF, fF, fF, fF, fF, fF] kf rfl rfl ⟨(blk_cell BK105.out 0).trans rfl, (blk_cell BK105.out 1).trans rfl⟩ (fun hHeld => ?_); refine with_tabW impl_isBoxNumber.tab1 impl_isBoxNumber.bits1 (fun HT_ HW_ => ?_)
  generalize w16.drew = w17 at BK105 HB hHeld ⊢
  refine tq2 (i := 0) (N := some 3) #[tT, fF, fF, fF, fF, fF, fF, fF, fF, fF, fF, fF, fF, fF, fF, fF, fF, fF, fF] rfl rfl HT_.out HW_.out hHeld ?_
  refine one_ (i := 1) (N := some 4) #[tT, tT, fF, fF, fF, fF, fF, fF, fF, fF, fF, fF, fF, fF, fF, fF, fF, fF, fF] rfl rfl (one_of HT_.out kf) (by decide) (fun K hK => ?_)
  refine goes_ Try.func88 kf rfl #[.agg #[.int .i64 a0_0, .int .i64 a0_1]] (by rfl) rfl rfl sm ?_
  with_reducible refine (impl_isDyadic.calls a0_0 a0_1 false _ A2.out).mono ?_
  rintro e w18 ⟨rfl, hb⟩
  refine ⟨_, rfl, ?_⟩
  have n0_ := bb BK105 hb
  have n1_ := Aside0.mk (below_step (bz1 GE105) hb)
  clear BK105 HB
  have BK105 := n0_
  have HB := n1_
  clear n0_ n1_
  (try clear hb)
  (try clear hb2)
  (try clear hk)
  (try clear hi)
  refine hK.out _ _ ⟨(blk_cell BK105.out 0).trans rfl, (blk_cell BK105.out 1).trans rfl⟩ (fun hHeld => ?_)
  clear hK K
  refine norm_ (a' := ?_) ?_ ?_
  rotate_left
  ·show Act.put _ (some 4) _ = _
   simp only [Act.put, List.setIfInBounds_toArray, List.set_cons_zero, List.set_cons_succ, i64_w, i32_w]
   rfl
  refine pq (i := 2) (N := some 5) #[tT, tT, tT, fF, fF, fF, fF, fF, fF, fF, fF, fF, fF, fF, fF, fF, fF, fF, fF] rfl rfl HT_.out ?_
  refine pure_ (i := 3) (N := some 6) (v := undef) (a' := ?_) #[tT, tT, tT, tT, fF, fF, fF, fF, fF, fF, fF, fF, fF, fF, fF, fF, fF, fF, fF] rfl rfl (any_of HT_.out kf) (fun _ _ _ h => h) (Or.inr ⟨by rfl, rfl⟩) ?_ ?_
  rotate_left
  ·simp only [Act.put, List.setIfInBounds_toArray, List.set_cons_zero, List.set_cons_succ, i64_w, i32_w]
   rfl
  refine pure_ (i := 4) (N := some 7) (v := undef) (a' := ?_) #[tT, tT, tT, tT, tT, fF, fF, fF, fF, fF, fF, fF, fF, fF, fF, fF, fF, fF, fF] rfl rfl (any_of HT_.out kf) (fun _ _ _ h => h) (Or.inr ⟨by rfl, rfl⟩) ?_ ?_
  rotate_left
  ·simp only [Act.put, List.setIfInBounds_toArray, List.set_cons_zero, List.set_cons_succ, i64_w, i32_w]
   rfl
  refine pure_ (i := 5) (N := some 8) (v := undef) (a' := ?_) #[tT, tT, tT, tT, tT, tT, fF, fF, fF, fF, fF, fF, fF, fF, fF, fF, fF, fF, fF] rfl rfl (any_of HT_.out kf) (fun _ _ _ h => h) (Or.inr ⟨by rfl, rfl⟩) ?_ ?_
  rotate_left
  ·simp only [Act.put, List.setIfInBounds_toArray, List.set_cons_zero, List.set_cons_succ, i64_w, i32_w]
   rfl
  refine pq (i := 6) (N := some 9) #[tT, tT, tT, tT, tT, tT, tT, fF, fF, fF, fF, fF, fF, fF, fF, fF, fF, fF, fF] rfl rfl HT_.out ?_
  refine pq (i := 7) (N := some 10) #[tT, tT, tT, tT, tT, tT, tT, tT, fF, fF, fF, fF, fF, fF, fF, fF, fF, fF, fF] rfl rfl HT_.out ?_
  refine pure_ (i := 8) (N := some 11) (v := undef) (a' := ?_) #[tT, tT, tT, tT, tT, tT, tT, tT, tT, fF, fF, fF, fF, fF, fF, fF, fF, fF, fF] rfl rfl (any_of HT_.out kf) (fun _ _ _ h => h) (Or.inr ⟨by rfl, rfl⟩) ?_ ?_
  rotate_left
  ·simp only [Act.put, List.setIfInBounds_toArray, List.set_cons_zero, List.set_cons_succ, i64_w, i32_w]
   rfl
  refine pure_ (i := 9) (N := some 12) (v := undef) (a' := ?_) #[tT, tT, tT, tT, tT, tT, tT, tT, tT, tT, fF, fF, fF, fF, fF, fF, fF, fF, fF] rfl rfl (any_of HT_.out kf) (fun _ _ _ h => h) (Or.inr ⟨by rfl, rfl⟩) ?_ ?_
  rotate_left
  ·simp only [Act.put, List.setIfInBounds_toArray, List.set_cons_zero, List.set_cons_succ, i64_w, i32_w]
   rfl
  refine pure_ (i := 10) (N := some 13) (v := undef) (a' := ?_) #[tT, tT, tT, tT, tT, tT, tT, tT, tT, tT, tT, fF, fF, fF, fF, fF, fF, fF, fF] rfl rfl (any_of HT_.out kf) (fun _ _ _ h => h) (Or.inr ⟨by rfl, rfl⟩) ?_ ?_
  rotate_left
  ·simp only [Act.put, List.setIfInBounds_toArray, List.set_cons_zero, List.set_cons_succ, i64_w, i32_w]
   rfl
  refine pure_ (i := 11) (N := some 14) (v := undef) (a' := ?_) #[tT, tT, tT, tT, tT, tT, tT, tT, tT, tT, tT, tT, fF, fF, fF, fF, fF, fF, fF] rfl rfl (any_of HT_.out kf) (fun _ _ _ h => h) (Or.inr ⟨by rfl, rfl⟩) ?_ ?_
  rotate_left
  ·simp only [Act.put, List.setIfInBounds_toArray, List.set_cons_zero, List.set_cons_succ, i64_w, i32_w]
   rfl
  refine pure_ (i := 12) (N := some 15) (v := undef) (a' := ?_) #[tT, tT, tT, tT, tT, tT, tT, tT, tT, tT, tT, tT, tT, fF, fF, fF, fF, fF, fF] rfl rfl (any_of HT_.out kf) (fun _ _ _ h => h) (Or.inr ⟨by rfl, rfl⟩) ?_ ?_
  rotate_left
  ·simp only [Act.put, List.setIfInBounds_toArray, List.set_cons_zero, List.set_cons_succ, i64_w, i32_w]
   rfl
  refine pure_ (i := 13) (N := some 16) (v := undef) (a' := ?_) #[tT, tT, tT, tT, tT, tT, tT, tT, tT, tT, tT, tT, tT, tT, fF, fF, fF, fF, fF] rfl rfl (any_of HT_.out kf) (fun _ _ _ h => h) (Or.inr ⟨by rfl, rfl⟩) ?_ ?_
  rotate_left
  ·simp only [Act.put, List.setIfInBounds_toArray, List.set_cons_zero, List.set_cons_succ, i64_w, i32_w]
   rfl
  refine pure_ (i := 14) (N := some 17) (v := undef) (a' := ?_) #[tT, tT, tT, tT, tT, tT, tT, tT, tT, tT, tT, tT, tT, tT, tT, fF, fF, fF, fF] rfl rfl (any_of HT_.out kf) (fun _ _ _ h => h) (Or.inr ⟨by rfl, rfl⟩) ?_ ?_
  rotate_left
  ·simp only [Act.put, List.setIfInBounds_toArray, List.set_cons_zero, List.set_cons_succ, i64_w, i32_w]
   rfl
  refine pure_ (i := 15) (N := some 18) (v := undef) (a' := ?_) #[tT, tT, tT, tT, tT, tT, tT, tT, tT, tT, tT, tT, tT, tT, tT, tT, fF, fF, fF] rfl rfl (any_of HT_.out kf) (fun _ _ _ h => h) (Or.inr ⟨by rfl, rfl⟩) ?_ ?_
  rotate_left
  ·simp only [Act.put, List.setIfInBounds_toArray, List.set_cons_zero, List.set_cons_succ, i64_w, i32_w]
   rfl
  refine pure_ (i := 16) (N := some 19) (v := undef) (a' := ?_) #[tT, tT, tT, tT, tT, tT, tT, tT, tT, tT, tT, tT, tT, tT, tT, tT, tT, fF, fF] rfl rfl (any_of HT_.out kf) (fun _ _ _ h => h) (Or.inr ⟨by rfl, rfl⟩) ?_ ?_
  rotate_left
  ·simp only [Act.put, List.setIfInBounds_toArray, List.set_cons_zero, List.set_cons_succ, i64_w, i32_w]
   rfl
  refine pq (i := 17) (N := some 20) #[tT, tT, tT, tT, tT, tT, tT, tT, tT, tT, tT, tT, tT, tT, tT, tT, tT, tT, fF] rfl rfl HT_.out ?_
  refine pq (i := 18) (N := some 2) #[tT, tT, tT, tT, tT, tT, tT, tT, tT, tT, tT, tT, tT, tT, tT, tT, tT, tT, tT] rfl rfl HT_.out ?_
  refine done_ (done_of HT_.out kf) ?_
  try go_wp2
  go_ret
  exact ⟨er, bz1 GE105⟩
def impl_isBoxPoint_1.f (a0_0 : Int) (a0_1 : Int) : Option (Bool) := (impl_isBoxNumber.f a0_0 a0_1).bind fun t109 => (some (!t109))
set_option maxHeartbeats 8000000 in
set_option maxRecDepth 100000 in
theorem impl_isBoxPoint_1.calls (a0_0 : Int) (a0_1 : Int) (r : Bool) (w : World) (h : impl_isBoxPoint_1.f a0_0 a0_1 = some r) :
 Calls Try.prog 106 #[.agg #[.int .i64 a0_0, .int .i64 a0_1]] w fun e w' => e = .returned (.bool r) ∧ Below w.heap.size w w' := by
 have hu44 := Try.underlying44
 have HB := Aside0.mk (Below.refl w.heap.size w)
 have H : ((impl_isBoxNumber.f a0_0 a0_1).bind fun t109 => (some (!t109))) = some r := h
 clear h
 obtain ⟨t109, A2, H⟩ := bi H
 obtain rfl := Option.some.inj H
 go_enter Try.func106, Try.ntmps106
 go_wp2_with (first | ((with_reducible refine gate_dst (N := 1) rfl ?_); refine bv (N := 1) (cs := #[.int .i64 a0_0, .int .i64 a0_1]) (t := 44) ?_; intro gb108 hg w3 hbox hb; have n0_ := Aside0.mk (below_step bz hb); have n1_ := Aside0.mk (hbox); have n2_ := (gz hg : Aside0 (w.heap.size ≤ _)); have n3_ := (gz hg : Aside0 (w.heap.size ≤ _)); clear HB; have HB := n0_; have BK108 := n1_; have GW108 := n2_; have GE108 := n3_; clear n0_ n1_ n2_ n3_; clear hb hbox hg; have hcz4_0 : w3.cell? ⟨gb108, 0, none⟩ = some (.int .i64 a0_0) := (blk_cell BK108.out 0).trans rfl; have hcz4_1 : w3.cell? ⟨gb108, 1, none⟩ = some (.int .i64 a0_1) := (blk_cell BK108.out 1).trans rfl; have hfz4_0 := blk_frozen BK108.out 0; have hfz4_1 := blk_frozen BK108.out 1) | ((with_reducible refine gate_callee (f := 107) rfl ?_); refine goesL_ (some 4) rfl rfl Try.func107 kf rfl #[.agg #[.int .i64 a0_0, .int .i64 a0_1]] rfl sm ?_; (with_reducible refine (impl_isBoxNumber.calls a0_0 a0_1 t109 _ A2.out).mono ?_); rintro e w5 ⟨rfl, hb⟩; refine ⟨_, rfl, ?_⟩; have n0_ := bb BK108 hb; have n1_ := Aside0.mk (below_step (bz1 GE108) hb); clear BK108; clear HB; have BK108 := n0_; have HB := n1_; clear n0_ n1_; (try clear hb); (try clear hb2); (try clear hk); (try clear hi)))
 go_ret
 exact ⟨er, bz1 GE108⟩
def spec_l1In.f (a0 : Int) (a1 : Int) (a2 : Int) : Option (Bool) := if a0 ≥ a1 then (some (decide (a0 ≤ a2))) else (some false)
set_option maxHeartbeats 8000000 in
set_option maxRecDepth 100000 in
theorem spec_l1In.calls (a0 : Int) (a1 : Int) (a2 : Int) (r : Bool) (w : World) (h : spec_l1In.f a0 a1 a2 = some r) :
 Calls Try.prog 92 #[.int .i64 a0, .int .i64 a1, .int .i64 a2] w fun e w' => e = .returned (.bool r) ∧ Drawn0 w w' := by
 have H : (if a0 ≥ a1 then (some (decide (a0 ≤ a2))) else (some false)) = some r := h
 clear h
 by_cases c4 : a0 ≥ a1
 ·rw [if_pos c4] at H
  have c4b0 : decide (a1 ≤ a0) = true := decide_eq_true c4
  clear c4
  obtain rfl := Option.some.inj H
  go_enter Try.func92, Try.ntmps92
  go_wp2
  go_ret
  exact ⟨sr, dz⟩
 ·rw [if_neg c4] at H
  have c4b0 : decide (a1 ≤ a0) = false := decide_eq_false c4
  clear c4
  obtain rfl := Option.some.inj H
  go_enter Try.func92, Try.ntmps92
  go_wp2
  go_ret
  exact ⟨sr, dz⟩
def spec_dyGood.f (a0_0 : Int) (a0_1 : Int) : Option (Bool) := (spec_l1In.f a0_1 0 24).bind fun t111 => (if t111 = true then ((spec_l1In.f a0_0 (-1099511627776) 1099511627776).bind fun t112 => (if t112 = true then (if a0_1 = 0 then (some true) else (some ((Int.tmod a0_0 2) != 0))) else (some false))) else (some false))
set_option maxHeartbeats 8000000 in
set_option maxRecDepth 100000 in
theorem spec_dyGood.calls (a0_0 : Int) (a0_1 : Int) (r : Bool) (w : World) (h : spec_dyGood.f a0_0 a0_1 = some r) :
 Calls Try.prog 103 #[.agg #[.int .i64 a0_0, .int .i64 a0_1]] w fun e w' => e = .returned (.bool r) ∧ Below w.heap.size w w' := by
 have hu44 := Try.underlying44
 have HB := Aside0.mk (Below.refl w.heap.size w)
 have H : ((spec_l1In.f a0_1 0 24).bind fun t111 => (if t111 = true then ((spec_l1In.f a0_0 (-1099511627776) 1099511627776).bind fun t112 => (if t112 = true then (if a0_1 = 0 then (some true) else (some ((Int.tmod a0_0 2) != 0))) else (some false))) else (some false))) = some r := h
 clear h
 obtain ⟨t111, A2, H⟩ := bi H
 by_cases c3 : t111 = true
 ·subst c3
  rw [if_pos rfl] at H
  obtain ⟨t112, A4, H⟩ := bi H
  by_cases c5 : t112 = true
  ·subst c5
   rw [if_pos rfl] at H
   by_cases c6 : a0_1 = 0
   ·rw [if_pos c6] at H
    have c6b0 : (a0_1 == 0) = true := beq_iff_eq.mpr c6
    have c6b1 : (a0_1 != 0) = false := bne_eq_false_iff_eq.mpr c6
    clear c6
    obtain rfl := Option.some.inj H
    go_enter Try.func103, Try.ntmps103
    go_wp2_with (first | ((with_reducible refine gate_dst (N := 1) rfl ?_); refine bv (N := 1) (cs := #[.int .i64 a0_0, .int .i64 a0_1]) (t := 44) ?_; intro gb110 hg w7 hbox hb; have n0_ := Aside0.mk (below_step bz hb); have n1_ := Aside0.mk (hbox); have n2_ := (gz hg : Aside0 (w.heap.size ≤ _)); have n3_ := (gz hg : Aside0 (w.heap.size ≤ _)); clear HB; have HB := n0_; have BK110 := n1_; have GW110 := n2_; have GE110 := n3_; clear n0_ n1_ n2_ n3_; clear hb hbox hg; have hcz8_0 : w7.cell? ⟨gb110, 0, none⟩ = some (.int .i64 a0_0) := (blk_cell BK110.out 0).trans rfl; have hcz8_1 : w7.cell? ⟨gb110, 1, none⟩ = some (.int .i64 a0_1) := (blk_cell BK110.out 1).trans rfl; have hfz8_0 := blk_frozen BK110.out 0; have hfz8_1 := blk_frozen BK110.out 1) | ((with_reducible refine gate_callee (f := 92) rfl ?_); refine goesL_ (some 5) rfl rfl Try.func92 kf rfl #[.int .i64 a0_1, .int .i64 0, .int .i64 24] rfl sm ?_; (with_reducible refine (spec_l1In.calls a0_1 0 24 true _ A2.out).mono ?_); rintro e w' ⟨rfl, ⟨nd, rfl⟩⟩; refine ⟨_, rfl, ?_⟩) | (go_at_call 92; (with_reducible refine (spec_l1In.calls a0_0 (-1099511627776) 1099511627776 true _ A4.out).mono ?_); rintro e w' ⟨rfl, ⟨nd, rfl⟩⟩))
    go_ret
    exact ⟨er, bz1 GE110⟩
   ·rw [if_neg c6] at H
    have c6b0 : (a0_1 == 0) = false := beq_eq_false_iff_ne.mpr c6
    have c6b1 : (a0_1 != 0) = true := bne_iff_ne.mpr c6
    obtain rfl := Option.some.inj H
    go_enter Try.func103, Try.ntmps103
    go_wp2_with (first | ((with_reducible refine gate_dst (N := 1) rfl ?_); refine bv (N := 1) (cs := #[.int .i64 a0_0, .int .i64 a0_1]) (t := 44) ?_; intro gb110 hg w9 hbox hb; have n0_ := Aside0.mk (below_step bz hb); have n1_ := Aside0.mk (hbox); have n2_ := (gz hg : Aside0 (w.heap.size ≤ _)); have n3_ := (gz hg : Aside0 (w.heap.size ≤ _)); clear HB; have HB := n0_; have BK110 := n1_; have GW110 := n2_; have GE110 := n3_; clear n0_ n1_ n2_ n3_; clear hb hbox hg; have hcz10_0 : w9.cell? ⟨gb110, 0, none⟩ = some (.int .i64 a0_0) := (blk_cell BK110.out 0).trans rfl; have hcz10_1 : w9.cell? ⟨gb110, 1, none⟩ = some (.int .i64 a0_1) := (blk_cell BK110.out 1).trans rfl; have hfz10_0 := blk_frozen BK110.out 0; have hfz10_1 := blk_frozen BK110.out 1) | ((with_reducible refine gate_callee (f := 92) rfl ?_); refine goesL_ (some 5) rfl rfl Try.func92 kf rfl #[.int .i64 a0_1, .int .i64 0, .int .i64 24] rfl sm ?_; (with_reducible refine (spec_l1In.calls a0_1 0 24 true _ A2.out).mono ?_); rintro e w' ⟨rfl, ⟨nd, rfl⟩⟩; refine ⟨_, rfl, ?_⟩) | (go_at_call 92; (with_reducible refine (spec_l1In.calls a0_0 (-1099511627776) 1099511627776 true _ A4.out).mono ?_); rintro e w' ⟨rfl, ⟨nd, rfl⟩⟩))
    go_ret
    exact ⟨er, bz1 GE110⟩
  ·replace c5 := Bool.eq_false_iff.mpr c5
   subst c5
   rw [if_neg (show ¬ (false = true) by decide)] at H
   obtain rfl := Option.some.inj H
   go_enter Try.func103, Try.ntmps103
   go_wp2_with (first | ((with_reducible refine gate_dst (N := 1) rfl ?_); refine bv (N := 1) (cs := #[.int .i64 a0_0, .int .i64 a0_1]) (t := 44) ?_; intro gb110 hg w11 hbox hb; have n0_ := Aside0.mk (below_step bz hb); have n1_ := Aside0.mk (hbox); have n2_ := (gz hg : Aside0 (w.heap.size ≤ _)); have n3_ := (gz hg : Aside0 (w.heap.size ≤ _)); clear HB; have HB := n0_; have BK110 := n1_; have GW110 := n2_; have GE110 := n3_; clear n0_ n1_ n2_ n3_; clear hb hbox hg; have hcz12_0 : w11.cell? ⟨gb110, 0, none⟩ = some (.int .i64 a0_0) := (blk_cell BK110.out 0).trans rfl; have hcz12_1 : w11.cell? ⟨gb110, 1, none⟩ = some (.int .i64 a0_1) := (blk_cell BK110.out 1).trans rfl; have hfz12_0 := blk_frozen BK110.out 0; have hfz12_1 := blk_frozen BK110.out 1) | ((with_reducible refine gate_callee (f := 92) rfl ?_); refine goesL_ (some 5) rfl rfl Try.func92 kf rfl #[.int .i64 a0_1, .int .i64 0, .int .i64 24] rfl sm ?_; (with_reducible refine (spec_l1In.calls a0_1 0 24 true _ A2.out).mono ?_); rintro e w' ⟨rfl, ⟨nd, rfl⟩⟩; refine ⟨_, rfl, ?_⟩) | (go_at_call 92; (with_reducible refine (spec_l1In.calls a0_0 (-1099511627776) 1099511627776 false _ A4.out).mono ?_); rintro e w' ⟨rfl, ⟨nd, rfl⟩⟩))
   go_ret
   exact ⟨er, bz1 GE110⟩
 ·replace c3 := Bool.eq_false_iff.mpr c3
  subst c3
  rw [if_neg (show ¬ (false = true) by decide)] at H
  obtain rfl := Option.some.inj H
  go_enter Try.func103, Try.ntmps103
  go_wp2_with (first | ((with_reducible refine gate_dst (N := 1) rfl ?_); refine bv (N := 1) (cs := #[.int .i64 a0_0, .int .i64 a0_1]) (t := 44) ?_; intro gb110 hg w13 hbox hb; have n0_ := Aside0.mk (below_step bz hb); have n1_ := Aside0.mk (hbox); have n2_ := (gz hg : Aside0 (w.heap.size ≤ _)); have n3_ := (gz hg : Aside0 (w.heap.size ≤ _)); clear HB; have HB := n0_; have BK110 := n1_; have GW110 := n2_; have GE110 := n3_; clear n0_ n1_ n2_ n3_; clear hb hbox hg; have hcz14_0 : w13.cell? ⟨gb110, 0, none⟩ = some (.int .i64 a0_0) := (blk_cell BK110.out 0).trans rfl; have hcz14_1 : w13.cell? ⟨gb110, 1, none⟩ = some (.int .i64 a0_1) := (blk_cell BK110.out 1).trans rfl; have hfz14_0 := blk_frozen BK110.out 0; have hfz14_1 := blk_frozen BK110.out 1) | ((with_reducible refine gate_callee (f := 92) rfl ?_); refine goesL_ (some 5) rfl rfl Try.func92 kf rfl #[.int .i64 a0_1, .int .i64 0, .int .i64 24] rfl sm ?_; (with_reducible refine (spec_l1In.calls a0_1 0 24 false _ A2.out).mono ?_); rintro e w' ⟨rfl, ⟨nd, rfl⟩⟩; refine ⟨_, rfl, ?_⟩))
  go_ret
  exact ⟨er, bz1 GE110⟩
def spec_l1Sign.f (a0 : Int) : Option (Int) := if a0 > 0 then (some 1) else (if a0 < 0 then (some (-1)) else (some 0))
set_option maxHeartbeats 8000000 in
set_option maxRecDepth 100000 in
theorem spec_l1Sign.calls (a0 : Int) (r : Int) (w : World) (h : spec_l1Sign.f a0 = some r) :
 Calls Try.prog 77 #[.int .i64 a0] w fun e w' => e = .returned (.int .i64 r) ∧ Drawn0 w w' := by
 have H : (if a0 > 0 then (some 1) else (if a0 < 0 then (some (-1)) else (some 0))) = some r := h
 clear h
 by_cases c2 : a0 > 0
 ·rw [if_pos c2] at H
  have c2b0 : decide (0 < a0) = true := decide_eq_true c2
  clear c2
  obtain rfl := Option.some.inj H
  go_enter Try.func77, Try.ntmps77
  go_wp2
  go_ret
  exact ⟨sr, dz⟩
 ·rw [if_neg c2] at H
  have c2b0 : decide (0 < a0) = false := decide_eq_false c2
  clear c2
  by_cases c3 : a0 < 0
  ·rw [if_pos c3] at H
   have c3b0 : decide (a0 < 0) = true := decide_eq_true c3
   clear c3
   obtain rfl := Option.some.inj H
   go_enter Try.func77, Try.ntmps77
   go_wp2
   go_ret
   exact ⟨sr, dz⟩
  ·rw [if_neg c3] at H
   have c3b0 : decide (a0 < 0) = false := decide_eq_false c3
   clear c3
   obtain rfl := Option.some.inj H
   go_enter Try.func77, Try.ntmps77
   go_wp2
   go_ret
   exact ⟨sr, dz⟩
def spec_dyPower.f (a0 : Int) : Option (Int) := if 0 ≤ (IntKind.u64.wrap (a0)) then (some (shl .i64 1 (IntKind.u64.wrap (a0)))) else (none)
set_option maxHeartbeats 8000000 in
set_option maxRecDepth 100000 in
theorem spec_dyPower.calls (a0 : Int) (r : Int) (w : World) (h : spec_dyPower.f a0 = some r) :
 Calls Try.prog 108 #[.int .i64 a0] w fun e w' => e = .returned (.int .i64 r) ∧ Drawn0 w w' := by
 have H : (if 0 ≤ (IntKind.u64.wrap (a0)) then (some (shl .i64 1 (IntKind.u64.wrap (a0)))) else (none)) = some r := h
 clear h
 obtain ⟨ji2, hji2⟩ : ∃ j_ : Int, (IntKind.u64.wrap (a0)) = j_ := ⟨_, rfl⟩
 first | rw [hji2] at H | simp only [hji2] at H
 by_cases c3 : 0 ≤ (ji2)
 ·rw [if_pos c3] at H
  have c3b0 := eq_true c3
  have c3b1 : decide (0 ≤ (ji2)) = true := decide_eq_true c3
  clear c3
  obtain ⟨ji4, hji4⟩ : ∃ j_ : Int, (shl .i64 1 (ji2)) = j_ := ⟨_, rfl⟩
  first | rw [hji4] at H | simp only [hji4] at H
  have hji4_ : (IntKind.i64.wrap (1 * 2 ^ min (ji2).toNat 64)) = ji4 := hji4
  have hji4z : (ji2) ≤ 64 → (IntKind.i64.wrap (1 * 2 ^ (ji2).toNat)) = ji4 := shl_small hji4
  have hji4u : (IntKind.i64.wrap (2 ^ min (ji2).toNat 64)) = ji4 := by have h_ := hji4_; rw [Int.one_mul] at h_; exact h_
  have hji4v : (ji2) ≤ 64 → (IntKind.i64.wrap (2 ^ (ji2).toNat)) = ji4 := fun hle_ => by have h_ := hji4z hle_; rw [Int.one_mul] at h_; exact h_
  have hji4y : (wrap64 (1 * 2 ^ min (ji2).toNat 64)) = ji4 := (i64_w _).symm.trans hji4_
  have hji4x : (ji2) ≤ 64 → (wrap64 (1 * 2 ^ (ji2).toNat)) = ji4 := fun h_ => (i64_w _).symm.trans (hji4z h_)
  obtain rfl := Option.some.inj H
  go_enter Try.func108, Try.ntmps108
  go_wp2
  go_ret
  exact ⟨by first | rfl | (simp; done) | (simp only [← hji2, ← hji4] <;> (first | rfl | simp)) | (simp [*]; done), dz⟩
 ·rw [if_neg c3] at H
  exact absurd H (by simp)
def impl_Dyadic_86__impl_isBoxPoint_1.idx : List S44 → Int → Option Int
 | [], _ => some (-1)
 | x :: q, i => (impl_isBoxPoint_1.f x.f0 x.f1).bind fun b => if b = true then some i else impl_Dyadic_86__impl_isBoxPoint_1.idx q (i + 1)
def impl_Dyadic_86__impl_isBoxPoint_1.f : List S44 → Option Bool
 | [] => some false
 | x :: q => (impl_isBoxPoint_1.f x.f0 x.f1).bind fun b => if b = true then some true else impl_Dyadic_86__impl_isBoxPoint_1.f q
theorem impl_Dyadic_86__impl_isBoxPoint_1.idx_of : ∀ (l : List S44) (i : Int) (r : Bool), 0 ≤ i → impl_Dyadic_86__impl_isBoxPoint_1.f l = some r → ∃ j, impl_Dyadic_86__impl_isBoxPoint_1.idx l i = some j ∧ decide (0 ≤ j) = r
 | [], i, r, hi, h => ⟨-1, rfl, by simp [impl_Dyadic_86__impl_isBoxPoint_1.f] at h; subst h; rfl⟩
 | x :: q, i, r, hi, h => by
  simp only [impl_Dyadic_86__impl_isBoxPoint_1.f] at h
  obtain ⟨b, hb, h⟩ := Option.bind_eq_some_iff.mp h
  cases b with
  | true =>
   rw [if_pos rfl] at h
   obtain rfl := Option.some.inj h
   exact ⟨i, by simp [impl_Dyadic_86__impl_isBoxPoint_1.idx, hb], by simpa using hi⟩
  | false =>
   rw [if_neg (by decide)] at h
   obtain ⟨j, h1, h2⟩ := impl_Dyadic_86__impl_isBoxPoint_1.idx_of q (i + 1) r (by omega) h
   exact ⟨j, by simp [impl_Dyadic_86__impl_isBoxPoint_1.idx, hb, h1], h2⟩
set_option maxHeartbeats 8000000 in
set_option maxRecDepth 100000 in
theorem impl_Dyadic_86__impl_isBoxPoint_1.index_calls (A0 : Option Addr) (c0 : Nat) (l0 : List S44) (r : Int) (w : World) (hr0 : Kd.C k44 w A0 l0.length l0) (hc0 : l0.length ≤ c0) (h : impl_Dyadic_86__impl_isBoxPoint_1.idx l0 0 = some r) :
 Calls Try.prog 125 #[.slice A0 l0.length c0, .func (.func 106) #[] #[]] w fun e w' => e = .returned (.int .i64 r) ∧ Below w.heap.size w w' := by
 have HR0 := Aside0.mk hr0
 have H' := Aside0.mk h
 have HL := Aside0.mk hr0.2.1
 have HB := Aside0.mk (Below.refl w.heap.size w)
 clear hr0 h hc0
 go_enter Try.func125, Try.ntmps125
 go_wp2
 go_loopg [8] (l0.length + 1) (fun kq v8 w' => ∃ x : Int, v8 = .int .i64 x ∧ Aside0 (0 ≤ x ∧ x + kq = l0.length + 1) ∧ Aside0 (impl_Dyadic_86__impl_isBoxPoint_1.idx (l0.drop x.toNat) x = some r) ∧ Aside0 (Below w.heap.size w w'))
 case atStart => exact ⟨0, rfl, ⟨by omega⟩, H', ⟨bz⟩⟩
 case round =>
  clear H' HB
  obtain ⟨x, rfl, HI, HA, HB⟩ := hrel
  by_cases hlt : x < (l0.length : Int)
  ·have c1 : decide (x < (l0.length : Int)) = true := decide_eq_true hlt
   have p2 := eq_true HI.out.1
   have hd : l0.drop x.toNat = rd_T44 l0 x :: l0.drop (x + 1).toNat := by
    have h0 := HI.out.1
    obtain ⟨i, rfl⟩ := Int.eq_ofNat_of_zero_le h0
    have hi : i < l0.length := by omega
    have e : ((i : Int) + 1).toNat = i + 1 := by omega
    rw [e, Int.toNat_natCast, List.drop_eq_getElem_cons hi]
    simp [rd_T44, hi]
   have H := HA.out
   rw [hd] at H
   simp only [impl_Dyadic_86__impl_isBoxPoint_1.idx] at H
   obtain ⟨b, hb, H⟩ := Option.bind_eq_some_iff.mp H
   have A1 := Aside0.mk hb
   obtain ⟨ad, e1, hx1, hx2⟩ := at_T44 (Kd.C_below HR0.out HB.out) x HI.out.1 hlt
   subst e1
   replace hlt := eq_true hlt
   cases b with
   | true =>
    rw [if_pos rfl] at H
    obtain rfl := Option.some.inj H
    clear HA hd hb H
    go_wp2_with (first | (go_at_call 106; (with_reducible refine (impl_isBoxPoint_1.calls (rd_T44 l0 x).f0 (rd_T44 l0 x).f1 true _ A1.out).mono ?_); rintro e w2 ⟨rfl, hb⟩; have n0_ := Aside0.mk (below_step bz hb); clear HB; have HB := n0_; clear n0_ hb))
    go_ret
    exact ⟨by first | rfl | (simp; done), bz⟩
   | false =>
    rw [if_neg (by decide)] at H
    have H2 := Aside0.mk H
    clear HA hd hb H
    go_wp2_with (first | (go_at_call 106; (with_reducible refine (impl_isBoxPoint_1.calls (rd_T44 l0 x).f0 (rd_T44 l0 x).f1 false _ A1.out).mono ?_); rintro e w2 ⟨rfl, hb⟩; have n0_ := Aside0.mk (below_step bz hb); clear HB; have HB := n0_; clear n0_ hb))
    cases gk with
    | zero => exact absurd HI.out.2 (by have := of_eq_true hlt; omega)
    | succ k1 =>
     go_roundg k1
     case measure => omega
     case rel => exact ⟨x + 1, by have := HI.out; have := HL.out; have := of_eq_true hlt; rw [show wrap64 (x + 1) = x + 1 by unfold wrap64; omega], ⟨by have := HI.out; omega⟩, H2, ⟨bz⟩⟩
  ·have c1 : decide (x < (l0.length : Int)) = false := decide_eq_false hlt
   have H := HA.out
   rw [List.drop_eq_nil_of_le (by omega)] at H
   simp only [impl_Dyadic_86__impl_isBoxPoint_1.idx] at H
   obtain rfl := Option.some.inj H
   clear HA hlt H
   go_wp2
   go_ret
   exact ⟨by first | rfl | (simp; done), bz⟩
set_option maxHeartbeats 8000000 in
theorem impl_Dyadic_86__impl_isBoxPoint_1.calls (A0 : Option Addr) (c0 : Nat) (l0 : List S44) (r : Bool) (w : World) (hr0 : Kd.C k44 w A0 l0.length l0) (hc0 : l0.length ≤ c0) (h : impl_Dyadic_86__impl_isBoxPoint_1.f l0 = some r) :
 Calls Try.prog 86 #[.slice A0 l0.length c0, .func (.func 106) #[] #[]] w fun e w' => e = .returned (.bool r) ∧ Below w.heap.size w w' := by
 obtain ⟨j, hj, rfl⟩ := impl_Dyadic_86__impl_isBoxPoint_1.idx_of l0 0 r (Int.le_refl _) h
 have HR0 := Aside0.mk hr0
 have HC0 := Aside0.mk hc0
 have HJ := Aside0.mk hj
 have HB := Aside0.mk (Below.refl w.heap.size w)
 clear hr0 hc0 h hj
 go_enter Try.func86, Try.ntmps86
 go_wp2_with (first | ((with_reducible refine gate_callee (f := 125) rfl ?_); refine goesL_ (some 7) rfl rfl Try.func125 kf rfl #[.slice A0 l0.length c0, .func (.func 106) #[] #[]] rfl (by (try simp only [List.map_toArray, List.map_cons, List.map_nil]); first | done | rfl) ?_; (with_reducible refine (impl_Dyadic_86__impl_isBoxPoint_1.index_calls _ _ l0 j _ ?side1 ?side2 HJ.out).mono ?_); (case side1 => exact cc HR0); (case side2 => exact HC0.out); rintro e w2 ⟨rfl, hb⟩; refine ⟨_, rfl, ?_⟩; have n0_ := Aside0.mk (below_step bz hb); clear HB; have HB := n0_; clear n0_ hb))
 go_ret
 exact ⟨by first | rfl | (simp; done), bz⟩
def impl_isBoxPoint.f (l0 : List (S44)) : Option (Bool) := (impl_inside.f (l0.length : Int) 1 3).bind fun t189 => (if t189 = true then ((impl_Dyadic_86__impl_isBoxPoint_1.f l0).bind fun t190 => (some (!t190))) else (some false))
set_option maxHeartbeats 8000000 in
set_option maxRecDepth 100000 in
theorem impl_isBoxPoint.calls (A0 : Option Addr) (c0 : Nat) (l0 : List (S44)) (r : Bool) (w : World) (hr0 : Kd.C k44 w A0 l0.length l0) (hc0 : l0.length ≤ c0) (h : impl_isBoxPoint.f l0 = some r) :
 Calls Try.prog 58 #[.slice A0 l0.length c0] w fun e w' => e = .returned (.bool r) ∧ Below w.heap.size w w' := by
 have HR0 := Aside0.mk hr0
 have HC0 := Aside0.mk hc0
 clear hr0 hc0
 have HB := Aside0.mk (Below.refl w.heap.size w)
 have H : ((impl_inside.f (l0.length : Int) 1 3).bind fun t189 => (if t189 = true then ((impl_Dyadic_86__impl_isBoxPoint_1.f l0).bind fun t190 => (some (!t190))) else (some false))) = some r := h
 clear h
 obtain ⟨t189, A2, H⟩ := bi H
 by_cases c3 : t189 = true
 ·subst c3
  rw [if_pos rfl] at H
  obtain ⟨t190, A4, H⟩ := bi H
  obtain rfl := Option.some.inj H
  go_enter Try.func58, Try.ntmps58
  go_wp2_with (first | ((with_reducible refine gate_callee (f := 96) rfl ?_); refine goesL_ (some 5) rfl rfl Try.func96 kf rfl #[.int .i64 (l0.length : Int), .int .i64 1, .int .i64 3] rfl sm ?_; (with_reducible refine (impl_inside.calls (l0.length : Int) 1 3 true _ A2.out).mono ?_); rintro e w' ⟨rfl, ⟨nd, rfl⟩⟩; refine ⟨_, rfl, ?_⟩) | (go_at_call 86; (with_reducible refine (impl_Dyadic_86__impl_isBoxPoint_1.calls _ _ l0 t190 _ ?side1 ?side2 A4.out).mono ?_); (case side1 => exact cc HR0); (case side2 => exact HC0.out); rintro e w5 ⟨rfl, hb⟩; have n0_ := Aside0.mk (below_step bz hb); clear HB; have HB := n0_; clear n0_; (try clear hb); (try clear hb2); (try clear hk); (try clear hi)))
  go_ret
  exact ⟨er, bz⟩
 ·replace c3 := Bool.eq_false_iff.mpr c3
  subst c3
  rw [if_neg (show ¬ (false = true) by decide)] at H
  obtain rfl := Option.some.inj H
  go_enter Try.func58, Try.ntmps58
  go_wp2_with (first | ((with_reducible refine gate_callee (f := 96) rfl ?_); refine goesL_ (some 5) rfl rfl Try.func96 kf rfl #[.int .i64 (l0.length : Int), .int .i64 1, .int .i64 3] rfl sm ?_; (with_reducible refine (impl_inside.calls (l0.length : Int) 1 3 false _ A2.out).mono ?_); rintro e w' ⟨rfl, ⟨nd, rfl⟩⟩; refine ⟨_, rfl, ?_⟩))
  go_ret
  exact ⟨er, bz⟩
def cmp_isNaN_int.f (a0 : Int) : Option (Bool) := some (a0 != a0)
set_option maxHeartbeats 8000000 in
set_option maxRecDepth 100000 in
theorem cmp_isNaN_int.calls (a0 : Int) (r : Bool) (w : World) (h : cmp_isNaN_int.f a0 = some r) :
 Calls Try.prog 121 #[.int .i64 a0] w fun e w' => e = .returned (.bool r) ∧ Drawn0 w w' := by
 have H : (some (a0 != a0)) = some r := h
 clear h
 obtain rfl := Option.some.inj H
 go_enter Try.func121, Try.ntmps121
 go_wp2
 go_ret
 exact ⟨sr, dz⟩
def cmp_Compare_int.f (a0 : Int) (a1 : Int) : Option (Int) := (cmp_isNaN_int.f a0).bind fun t191 => ((cmp_isNaN_int.f a1).bind fun t192 => (if t191 = true then (if t192 = true then (some 0) else (some (-1))) else (if t192 = true then (some 1) else (if a0 < a1 then (some (-1)) else (if a0 > a1 then (some 1) else (some 0))))))
set_option maxHeartbeats 8000000 in
set_option maxRecDepth 100000 in
theorem cmp_Compare_int.calls (a0 : Int) (a1 : Int) (r : Int) (w : World) (h : cmp_Compare_int.f a0 a1 = some r) :
 Calls Try.prog 81 #[.int .i64 a0, .int .i64 a1] w fun e w' => e = .returned (.int .i64 r) ∧ Drawn0 w w' := by
 have H : ((cmp_isNaN_int.f a0).bind fun t191 => ((cmp_isNaN_int.f a1).bind fun t192 => (if t191 = true then (if t192 = true then (some 0) else (some (-1))) else (if t192 = true then (some 1) else (if a0 < a1 then (some (-1)) else (if a0 > a1 then (some 1) else (some 0))))))) = some r := h
 clear h
 obtain ⟨t191, A3, H⟩ := bi H
 obtain ⟨t192, A4, H⟩ := bi H
 by_cases c5 : t191 = true
 ·subst c5
  rw [if_pos rfl] at H
  by_cases c6 : t192 = true
  ·subst c6
   rw [if_pos rfl] at H
   obtain rfl := Option.some.inj H
   go_enter Try.func81, Try.ntmps81
   go_wp2_with (first | ((with_reducible refine gate_callee (f := 121) rfl ?_); refine goesL_ (some 8) rfl rfl Try.func121 kf rfl #[.int .i64 a0] rfl sm ?_; (with_reducible refine (cmp_isNaN_int.calls a0 true _ A3.out).mono ?_); rintro e w' ⟨rfl, ⟨nd, rfl⟩⟩; refine ⟨_, rfl, ?_⟩) | ((with_reducible refine gate_callee (f := 121) rfl ?_); refine goesL_ (some 10) rfl rfl Try.func121 kf rfl #[.int .i64 a1] rfl sm ?_; (with_reducible refine (cmp_isNaN_int.calls a1 true _ A4.out).mono ?_); rintro e w' ⟨rfl, ⟨nd, rfl⟩⟩; refine ⟨_, rfl, ?_⟩))
   go_ret
   exact ⟨sr, dz⟩
  ·replace c6 := Bool.eq_false_iff.mpr c6
   subst c6
   rw [if_neg (show ¬ (false = true) by decide)] at H
   obtain rfl := Option.some.inj H
   go_enter Try.func81, Try.ntmps81
   go_wp2_with (first | ((with_reducible refine gate_callee (f := 121) rfl ?_); refine goesL_ (some 8) rfl rfl Try.func121 kf rfl #[.int .i64 a0] rfl sm ?_; (with_reducible refine (cmp_isNaN_int.calls a0 true _ A3.out).mono ?_); rintro e w' ⟨rfl, ⟨nd, rfl⟩⟩; refine ⟨_, rfl, ?_⟩) | ((with_reducible refine gate_callee (f := 121) rfl ?_); refine goesL_ (some 10) rfl rfl Try.func121 kf rfl #[.int .i64 a1] rfl sm ?_; (with_reducible refine (cmp_isNaN_int.calls a1 false _ A4.out).mono ?_); rintro e w' ⟨rfl, ⟨nd, rfl⟩⟩; refine ⟨_, rfl, ?_⟩))
   go_ret
   exact ⟨sr, dz⟩
 ·replace c5 := Bool.eq_false_iff.mpr c5
  subst c5
  rw [if_neg (show ¬ (false = true) by decide)] at H
  by_cases c7 : t192 = true
  ·subst c7
   rw [if_pos rfl] at H
   obtain rfl := Option.some.inj H
   go_enter Try.func81, Try.ntmps81
   go_wp2_with (first | ((with_reducible refine gate_callee (f := 121) rfl ?_); refine goesL_ (some 8) rfl rfl Try.func121 kf rfl #[.int .i64 a0] rfl sm ?_; (with_reducible refine (cmp_isNaN_int.calls a0 false _ A3.out).mono ?_); rintro e w' ⟨rfl, ⟨nd, rfl⟩⟩; refine ⟨_, rfl, ?_⟩) | ((with_reducible refine gate_callee (f := 121) rfl ?_); refine goesL_ (some 10) rfl rfl Try.func121 kf rfl #[.int .i64 a1] rfl sm ?_; (with_reducible refine (cmp_isNaN_int.calls a1 true _ A4.out).mono ?_); rintro e w' ⟨rfl, ⟨nd, rfl⟩⟩; refine ⟨_, rfl, ?_⟩))
   go_ret
   exact ⟨sr, dz⟩
  ·replace c7 := Bool.eq_false_iff.mpr c7
   subst c7
   rw [if_neg (show ¬ (false = true) by decide)] at H
   by_cases c8 : a0 < a1
   ·rw [if_pos c8] at H
    have c8b0 : decide (a0 < a1) = true := decide_eq_true c8
    clear c8
    obtain rfl := Option.some.inj H
    go_enter Try.func81, Try.ntmps81
    go_wp2_with (first | ((with_reducible refine gate_callee (f := 121) rfl ?_); refine goesL_ (some 8) rfl rfl Try.func121 kf rfl #[.int .i64 a0] rfl sm ?_; (with_reducible refine (cmp_isNaN_int.calls a0 false _ A3.out).mono ?_); rintro e w' ⟨rfl, ⟨nd, rfl⟩⟩; refine ⟨_, rfl, ?_⟩) | ((with_reducible refine gate_callee (f := 121) rfl ?_); refine goesL_ (some 10) rfl rfl Try.func121 kf rfl #[.int .i64 a1] rfl sm ?_; (with_reducible refine (cmp_isNaN_int.calls a1 false _ A4.out).mono ?_); rintro e w' ⟨rfl, ⟨nd, rfl⟩⟩; refine ⟨_, rfl, ?_⟩))
    go_ret
    exact ⟨sr, dz⟩
   ·rw [if_neg c8] at H
    have c8b0 : decide (a0 < a1) = false := decide_eq_false c8
    clear c8
    by_cases c9 : a0 > a1
    ·rw [if_pos c9] at H
     have c9b0 : decide (a1 < a0) = true := decide_eq_true c9
     clear c9
     obtain rfl := Option.some.inj H
     go_enter Try.func81, Try.ntmps81
     go_wp2_with (first | ((with_reducible refine gate_callee (f := 121) rfl ?_); refine goesL_ (some 8) rfl rfl Try.func121 kf rfl #[.int .i64 a0] rfl sm ?_; (with_reducible refine (cmp_isNaN_int.calls a0 false _ A3.out).mono ?_); rintro e w' ⟨rfl, ⟨nd, rfl⟩⟩; refine ⟨_, rfl, ?_⟩) | ((with_reducible refine gate_callee (f := 121) rfl ?_); refine goesL_ (some 10) rfl rfl Try.func121 kf rfl #[.int .i64 a1] rfl sm ?_; (with_reducible refine (cmp_isNaN_int.calls a1 false _ A4.out).mono ?_); rintro e w' ⟨rfl, ⟨nd, rfl⟩⟩; refine ⟨_, rfl, ?_⟩))
     go_ret
     exact ⟨sr, dz⟩
    ·rw [if_neg c9] at H
     have c9b0 : decide (a1 < a0) = false := decide_eq_false c9
     clear c9
     obtain rfl := Option.some.inj H
     go_enter Try.func81, Try.ntmps81
     go_wp2_with (first | ((with_reducible refine gate_callee (f := 121) rfl ?_); refine goesL_ (some 8) rfl rfl Try.func121 kf rfl #[.int .i64 a0] rfl sm ?_; (with_reducible refine (cmp_isNaN_int.calls a0 false _ A3.out).mono ?_); rintro e w' ⟨rfl, ⟨nd, rfl⟩⟩; refine ⟨_, rfl, ?_⟩) | ((with_reducible refine gate_callee (f := 121) rfl ?_); refine goesL_ (some 10) rfl rfl Try.func121 kf rfl #[.int .i64 a1] rfl sm ?_; (with_reducible refine (cmp_isNaN_int.calls a1 false _ A4.out).mono ?_); rintro e w' ⟨rfl, ⟨nd, rfl⟩⟩; refine ⟨_, rfl, ?_⟩))
     go_ret
     exact ⟨sr, dz⟩
def impl_Term_degree.f (a0_0 : Int) (a0_1 : Int) (a0_2 : Int) (a0_3 : Int) : Option (Int) := some (wrap64 ((wrap64 (a0_1 + a0_2)) + a0_3))
set_option maxHeartbeats 8000000 in
set_option maxRecDepth 100000 in
theorem impl_Term_degree.calls (a0_0 : Int) (a0_1 : Int) (a0_2 : Int) (a0_3 : Int) (r : Int) (w : World) (h : impl_Term_degree.f a0_0 a0_1 a0_2 a0_3 = some r) :
 Calls Try.prog 122 #[.agg #[.int .i64 a0_0, .int .i64 a0_1, .int .i64 a0_2, .int .i64 a0_3]] w fun e w' => e = .returned (.int .i64 r) ∧ Below w.heap.size w w' := by
 have hu107 := Try.underlying107
 have HB := Aside0.mk (Below.refl w.heap.size w)
 have H : (some (wrap64 ((wrap64 (a0_1 + a0_2)) + a0_3))) = some r := h
 clear h
 obtain rfl := Option.some.inj H
 go_enter Try.func122, Try.ntmps122
 go_wp2_with (first | ((with_reducible refine gate_dst (N := 1) rfl ?_); refine bv (N := 1) (cs := #[.int .i64 a0_0, .int .i64 a0_1, .int .i64 a0_2, .int .i64 a0_3]) (t := 107) ?_; intro gb193 hg w2 hbox hb; have n0_ := Aside0.mk (below_step bz hb); have n1_ := Aside0.mk (hbox); have n2_ := (gz hg : Aside0 (w.heap.size ≤ _)); have n3_ := (gz hg : Aside0 (w.heap.size ≤ _)); clear HB; have HB := n0_; have BK193 := n1_; have GW193 := n2_; have GE193 := n3_; clear n0_ n1_ n2_ n3_; clear hb hbox hg; have hcz3_0 : w2.cell? ⟨gb193, 0, none⟩ = some (.int .i64 a0_0) := (blk_cell BK193.out 0).trans rfl; have hcz3_1 : w2.cell? ⟨gb193, 1, none⟩ = some (.int .i64 a0_1) := (blk_cell BK193.out 1).trans rfl; have hcz3_2 : w2.cell? ⟨gb193, 2, none⟩ = some (.int .i64 a0_2) := (blk_cell BK193.out 2).trans rfl; have hcz3_3 : w2.cell? ⟨gb193, 3, none⟩ = some (.int .i64 a0_3) := (blk_cell BK193.out 3).trans rfl; have hfz3_0 := blk_frozen BK193.out 0; have hfz3_1 := blk_frozen BK193.out 1; have hfz3_2 := blk_frozen BK193.out 2; have hfz3_3 := blk_frozen BK193.out 3))
 go_ret
 exact ⟨er, bz1 GE193⟩
def impl_Term_exponents.f (a0_0 : Int) (a0_1 : Int) (a0_2 : Int) (a0_3 : Int) : Option (Int × Int × Int) := some (a0_1, a0_2, a0_3)
set_option maxHeartbeats 8000000 in
set_option maxRecDepth 100000 in
theorem impl_Term_exponents.calls (a0_0 : Int) (a0_1 : Int) (a0_2 : Int) (a0_3 : Int) (r1 : Int) (r2 : Int) (r3 : Int) (w : World) (h : impl_Term_exponents.f a0_0 a0_1 a0_2 a0_3 = some (r1, r2, r3)) :
 Calls Try.prog 123 #[.agg #[.int .i64 a0_0, .int .i64 a0_1, .int .i64 a0_2, .int .i64 a0_3]] w fun e w' => e = .returned (.agg #[.int .i64 r1, .int .i64 r2, .int .i64 r3]) ∧ Below w.heap.size w w' := by
 have hu107 := Try.underlying107
 have hu133 := Try.underlying133
 have HB := Aside0.mk (Below.refl w.heap.size w)
 have H : (some (a0_1, a0_2, a0_3)) = some (r1, r2, r3) := h
 clear h
 simp only [Option.some.injEq, Prod.mk.injEq] at H
 obtain ⟨rfl, rfl, rfl⟩ := H
 go_enter Try.func123, Try.ntmps123
 go_wp2_with (first | ((with_reducible refine gate_dst (N := 1) rfl ?_); refine bv (N := 1) (cs := #[.int .i64 a0_0, .int .i64 a0_1, .int .i64 a0_2, .int .i64 a0_3]) (t := 107) ?_; intro gb194 hg w2 hbox hb; have n0_ := Aside0.mk (below_step bz hb); have n1_ := Aside0.mk (hbox); have n2_ := (gz hg : Aside0 (w.heap.size ≤ _)); have n3_ := (gz hg : Aside0 (w.heap.size ≤ _)); clear HB; have HB := n0_; have BK194 := n1_; have GW194 := n2_; have GE194 := n3_; clear n0_ n1_ n2_ n3_; clear hb hbox hg) | ((with_reducible refine gate_dst (N := 2) rfl ?_); refine bv (N := 2) (cs := #[.int .i64 0, .int .i64 0, .int .i64 0]) (t := 133) ?_; intro gb195 hg w3 hbox hb; have n0_ := bb BK194 hb; have n1_ := Aside0.mk (below_step (bz1 GE194) hb); have n2_ := Aside0.mk (hbox); have n3_ := Aside0.mk ((by rw [hg]; exact (below_size (bz1 GE194)) : w.heap.size ≤ gb195)); have n4_ := Aside0.mk ((by rw [hg]; exact (below_size (bz1 GE194)) : w.heap.size ≤ gb195)); have n5_ := Aside0.mk ((by rw [hg]; exact Nat.ne_of_lt (blk_lt (g := gb194) (o := .cells #[.int .i64 a0_0, .int .i64 a0_1, .int .i64 a0_2, .int .i64 a0_3] 107 (0, 0)) (bk BK194)) : gb194 ≠ gb195)); have n6_ := Aside0.mk ((by rw [hg]; exact Nat.ne_of_gt (blk_lt (g := gb194) (o := .cells #[.int .i64 a0_0, .int .i64 a0_1, .int .i64 a0_2, .int .i64 a0_3] 107 (0, 0)) (bk BK194)) : gb195 ≠ gb194)); clear BK194; clear HB; have BK194 := n0_; have HB := n1_; have BK195 := n2_; have GW195 := n3_; have GE195 := n4_; have NB194_195 := n5_; have NB195_194 := n6_; clear n0_ n1_ n2_ n3_ n4_ n5_ n6_; clear hb hbox hg; have hnb4 := NB194_195.out; have hnc4 := NB195_194.out; have hcz5_0 : w3.cell? ⟨gb194, 0, none⟩ = some (.int .i64 a0_0) := (blk_cell BK194.out 0).trans rfl; have hcz5_1 : w3.cell? ⟨gb194, 1, none⟩ = some (.int .i64 a0_1) := (blk_cell BK194.out 1).trans rfl; have hcz5_2 : w3.cell? ⟨gb194, 2, none⟩ = some (.int .i64 a0_2) := (blk_cell BK194.out 2).trans rfl; have hcz5_3 : w3.cell? ⟨gb194, 3, none⟩ = some (.int .i64 a0_3) := (blk_cell BK194.out 3).trans rfl; have hfz5_0 := blk_frozen BK194.out 0; have hfz5_1 := blk_frozen BK194.out 1; have hfz5_2 := blk_frozen BK194.out 2; have hfz5_3 := blk_frozen BK194.out 3; have hcz6_0 : w3.cell? ⟨gb195, 0, none⟩ = some (.int .i64 0) := (blk_cell BK195.out 0).trans rfl; have hcz6_1 : w3.cell? ⟨gb195, 1, none⟩ = some (.int .i64 0) := (blk_cell BK195.out 1).trans rfl; have hcz6_2 : w3.cell? ⟨gb195, 2, none⟩ = some (.int .i64 0) := (blk_cell BK195.out 2).trans rfl; have hfz6_0 := blk_frozen BK195.out 0; have hfz6_1 := blk_frozen BK195.out 1; have hfz6_2 := blk_frozen BK195.out 2))
 refine bodyPost_ret (results_cell_row rfl _ _ gb195 133 #[.int .i64 a0_1, .int .i64 a0_2, .int .i64 a0_3] (0, 0) _ rfl (by (with_reducible repeat (first | refine blk_drewN ?_ _ | refine blk_drew ?_ | refine blk_alloc ?_ _)); refine blk_put (cs := #[.int .i64 a0_1, .int .i64 a0_2, .int .i64 0]) ?_ 2 _ rfl; (with_reducible repeat (first | refine blk_drewN ?_ _ | refine blk_drew ?_ | refine blk_alloc ?_ _)); refine blk_put (cs := #[.int .i64 a0_1, .int .i64 0, .int .i64 0]) ?_ 1 _ rfl; (with_reducible repeat (first | refine blk_drewN ?_ _ | refine blk_drew ?_ | refine blk_alloc ?_ _)); refine blk_put (cs := #[.int .i64 0, .int .i64 0, .int .i64 0]) ?_ 0 _ rfl; (with_reducible repeat (first | refine blk_drewN ?_ _ | refine blk_drew ?_ | refine blk_alloc ?_ _)); exact BK195.out) Try.underlying133 rfl kf) rfl ?_
 exact ⟨er, bz2 GE194 GE195⟩
mutual
def impl_scaledAt.l0 : Nat → List (S44) → Int → List (S107) → Int → Int → Option (Int)
 | 0, _, _, _, _, _ => none
 | k + 1, x1, x5, x11, x12, x13 => if x13 < x12 then (if 0 ≤ x13 then (if x13 < (x11.length : Int) then ((impl_Term_degree.f ((rd_T107 x11 x13).f0) ((rd_T107 x11 x13).f1) ((rd_T107 x11 x13).f2) ((rd_T107 x11 x13).f3)).bind fun t198 => (if 0 ≤ (wrap64 (9 * (wrap64 (4 - t198)))) then ((impl_Term_exponents.f ((rd_T107 x11 x13).f0) ((rd_T107 x11 x13).f1) ((rd_T107 x11 x13).f2) ((rd_T107 x11 x13).f3)).bind fun bt199 => (impl_scaledAt.l1 k x1 x5 (shl .i64 ((rd_T107 x11 x13).f0) (wrap64 (9 * (wrap64 (4 - t198))))) x11 x12 x13 0 bt199.1 bt199.2.1 bt199.2.2)) else (none))) else (none)) else (none)) else (some x5)
def impl_scaledAt.l1 : Nat → List (S44) → Int → Int → List (S107) → Int → Int → Int → Int → Int → Int → Option (Int)
 | 0, _, _, _, _, _, _, _, _, _, _ => none
 | k + 1, x1, x5, x8, x11, x12, x13, x26, x575, x576, x577 => if x26 < 3 then (if 0 ≤ x26 then (impl_scaledAt.l2 k x1 x5 x8 x26 x11 x12 x13 x26 (ix3 x575 x576 x577 x26) 0 x575 x576 x577) else (none)) else (impl_scaledAt.l0 k x1 (wrap64 (x5 + x8)) x11 x12 (wrap64 (x13 + 1)))
def impl_scaledAt.l2 : Nat → List (S44) → Int → Int → Int → List (S107) → Int → Int → Int → Int → Int → Int → Int → Int → Option (Int)
 | 0, _, _, _, _, _, _, _, _, _, _, _, _, _ => none
 | k + 1, x1, x5, x8, x9, x11, x12, x13, x26, x30, x31, x575, x576, x577 => if x31 < x30 then (if 0 ≤ x9 then (if x9 < (x1.length : Int) then (if 0 ≤ (wrap64 (9 - ((rd_T44 x1 x9).f1))) then (impl_scaledAt.l2 k x1 x5 (wrap64 (x8 * (shl .i64 ((rd_T44 x1 x9).f0) (wrap64 (9 - ((rd_T44 x1 x9).f1)))))) x9 x11 x12 x13 x26 x30 (wrap64 (x31 + 1)) x575 x576 x577) else (none)) else (none)) else (none)) else (impl_scaledAt.l1 k x1 x5 x8 x11 x12 x13 (wrap64 (x26 + 1)) x575 x576 x577)
end
def impl_scaledAt.f (k : Nat) (l0 : List (S107)) (l1 : List (S44)) : Option (Int) := impl_scaledAt.l0 k l1 0 l0 (l0.length : Int) 0
def impl_scaledAt.T5 : Bool × List (List Nat × List Nat) := (true, [([], []), ([0], [0]), ([], []), ([2], [2]), ([3], [3]), ([4], [4]), ([1, 5], [1, 5]), ([6, 3, 0, 1, 2, 3, 4, 5, 6], [6])])
def impl_scaledAt.B5 : List Nat := [0, 1, 0, 4, 12, 28, 63, 127]
theorem impl_scaledAt.tab5 : rtab .any (opsOf Try.f82 5) = impl_scaledAt.T5 := by kernel_rfl
theorem impl_scaledAt.bits5 : waitsOk impl_scaledAt.T5.2 impl_scaledAt.B5 = true := by kernel_rfl
def impl_scaledAt.T11 : Bool × List (List Nat × List Nat) := (true, [([], []), ([], []), ([], []), ([1, 2], [1, 2]), ([3], [3]), ([4], [4]), ([], []), ([], []), ([6, 7], [6, 7]), ([8], [8]), ([9], [9]), ([10], [10]), ([5, 11], [5, 11]), ([0, 12], [0, 12]), ([13, 0, 1, 2, 3, 4, 5, 6, 7, 8, 9, 10, 11, 12, 13], [0, 13])])
def impl_scaledAt.B11 : List Nat := [0, 0, 0, 6, 14, 30, 0, 0, 192, 448, 960, 1984, 4094, 8191, 16383]
theorem impl_scaledAt.tab11 : rtab .any (opsOf Try.f82 11) = impl_scaledAt.T11 := by kernel_rfl
theorem impl_scaledAt.bits11 : waitsOk impl_scaledAt.T11.2 impl_scaledAt.B11 = true := by kernel_rfl
set_option maxHeartbeats 8000000 in
set_option maxRecDepth 100000 in
theorem impl_scaledAt.calls (k : Nat) (A0 : Option Addr) (c0 : Nat) (l0 : List (S107)) (A1 : Option Addr) (c1 : Nat) (l1 : List (S44)) (r : Int) (w : World) (hr0 : Kd.C k107 w A0 l0.length l0) (hc0 : l0.length ≤ c0) (hr1 : Kd.C k44 w A1 l1.length l1) (hc1 : l1.length ≤ c1) (h : impl_scaledAt.f k l0 l1 = some r) :
 Calls Try.prog 82 #[.slice A0 l0.length c0, .slice A1 l1.length c1] w fun e w' => e = .returned (.int .i64 r) ∧ Below w.heap.size w w' := by
 have hu107 := Try.underlying107
 have HR0 := Aside0.mk hr0
 have HC0 := Aside0.mk hc0
 clear hr0 hc0
 have HR1 := Aside0.mk hr1
 have HC1 := Aside0.mk hc1
 clear hr1 hc1
 have HB := Aside0.mk (Below.refl w.heap.size w)
 have H : (impl_scaledAt.l0 k l1 0 l0 (l0.length : Int) 0) = some r := h
 clear h
 have H' := Aside0.mk H
 clear H
 go_enter Try.func82, Try.ntmps82
 go_wp2
 go_loopg [5, 13] k (fun kq v5 v13 w' => ∃ (x5_1 : Int) (x13_1 : Int), v5 = .int .i64 x5_1 ∧ v13 = .int .i64 x13_1 ∧ Aside0 (impl_scaledAt.l0 kq l1 x5_1 l0 (l0.length : Int) x13_1 = some r) ∧ Aside0 (kq ≤ k) ∧ Aside0 (Below w.heap.size w w'))
 case atStart => exact ⟨(0), (0), sr, sr, H', ⟨Nat.le_refl _⟩, ⟨bz⟩⟩
 case round =>
  clear H'
  try clear c1; try clear p2
  obtain ⟨x5_1, x13_1, rfl, rfl, HA, HK1, HB⟩ := hrel
  cases gk with
  | zero => exact absurd HA.out (by simp [impl_scaledAt.l0])
  | succ k1 =>
   have H := HA.out
   clear HA
   simp only [impl_scaledAt.l0] at H
   by_cases c3 : x13_1 < (l0.length : Int)
   ·rw [if_pos c3] at H
    have c3b0 : decide (x13_1 < (l0.length : Int)) = true := decide_eq_true c3
    clear c3
    by_cases c4 : 0 ≤ x13_1
    ·rw [if_pos c4] at H
     have c4b0 : decide (0 ≤ x13_1) = true := decide_eq_true c4
     clear c4
     by_cases c5 : x13_1 < (l0.length : Int)
     ·rw [if_pos c5] at H
      have c5b0 : decide (x13_1 < (l0.length : Int)) = true := decide_eq_true c5
      clear c5
      obtain ⟨t198, A6, H⟩ := bi H
      obtain ⟨ji7, hji7⟩ : ∃ j_ : Int, (wrap64 (9 * (wrap64 (4 - t198)))) = j_ := ⟨_, rfl⟩
      first | rw [hji7] at H | simp only [hji7] at H
      (try rw [hji7] at A6)
      have hji7w : (IntKind.i64.wrap (9 * (wrap64 (4 - t198)))) = ji7 := (i64_w _).trans hji7
      by_cases c8 : 0 ≤ (ji7)
      ·rw [if_pos c8] at H
       have c8b0 := eq_true c8
       have c8b1 : decide (0 ≤ (ji7)) = true := decide_eq_true c8
       clear c8
       obtain ⟨ji9, hji9⟩ : ∃ j_ : Int, (shl .i64 ((rd_T107 l0 x13_1).f0) (ji7)) = j_ := ⟨_, rfl⟩
       first | rw [hji9] at H | simp only [hji9] at H
       (try rw [hji9] at A6)
       have hji9_ : (IntKind.i64.wrap (((rd_T107 l0 x13_1).f0) * 2 ^ min (ji7).toNat 64)) = ji9 := hji9
       have hji9z : (ji7) ≤ 64 → (IntKind.i64.wrap (((rd_T107 l0 x13_1).f0) * 2 ^ (ji7).toNat)) = ji9 := shl_small hji9
       have hji9y : (wrap64 (((rd_T107 l0 x13_1).f0) * 2 ^ min (ji7).toNat 64)) = ji9 := (i64_w _).symm.trans hji9_
       have hji9x : (ji7) ≤ 64 → (wrap64 (((rd_T107 l0 x13_1).f0) * 2 ^ (ji7).toNat)) = ji9 := fun h_ => (i64_w _).symm.trans (hji9z h_)
       obtain ⟨⟨t199, t200, t201⟩, A10, H⟩ := bi H
       try dsimp only at H
       have H' := Aside0.mk H
       clear H
       have p196 : 0 ≤ (x13_1 : Int) := of_decide_eq_true am
       have q196 : x13_1 < (l0.length : Int) := of_decide_eq_true am
       obtain ⟨ad196, e196, hx196_0, hx196_1, hx196_2, hx196_3⟩ := at_T107 HR0.out x13_1 p196 q196
       cases e196
       replace hx196_0 := (HB.out.cell (World.block_lt_of_cell? w _ hx196_0)).trans hx196_0
       replace hx196_1 := (HB.out.cell (World.block_lt_of_cell? w _ hx196_1)).trans hx196_1
       replace hx196_2 := (HB.out.cell (World.block_lt_of_cell? w _ hx196_2)).trans hx196_2
       replace hx196_3 := (HB.out.cell (World.block_lt_of_cell? w _ hx196_3)).trans hx196_3
       replace p196 := eq_true p196
       replace q196 := eq_true q196
       try go_wp2_with (first | ((with_reducible refine gate_dst (N := 7) rfl ?_); refine bv (N := 7) (cs := #[.int .i64 0, .int .i64 0, .int .i64 0, .int .i64 0]) (t := 107) ?_; intro gb197 hg w11 hbox hb; have n0_ := Aside0.mk (below_step bz hb); have n1_ := Aside0.mk (hbox); have n2_ := (gz hg : Aside0 (w.heap.size ≤ _)); have n3_ := (gz hg : Aside0 (w.heap.size ≤ _)); clear HB; have HB := n0_; have BK197 := n1_; have GW197 := n2_; have GE197 := n3_; clear n0_ n1_ n2_ n3_; clear hb hbox hg; have hcz12_0 : w11.cell? ⟨gb197, 0, none⟩ = some (.int .i64 0) := (blk_cell BK197.out 0).trans rfl; have hcz12_1 : w11.cell? ⟨gb197, 1, none⟩ = some (.int .i64 0) := (blk_cell BK197.out 1).trans rfl; have hcz12_2 : w11.cell? ⟨gb197, 2, none⟩ = some (.int .i64 0) := (blk_cell BK197.out 2).trans rfl; have hcz12_3 : w11.cell? ⟨gb197, 3, none⟩ = some (.int .i64 0) := (blk_cell BK197.out 3).trans rfl; have hfz12_0 := blk_frozen BK197.out 0; have hfz12_1 := blk_frozen BK197.out 1; have hfz12_2 := blk_frozen BK197.out 2; have hfz12_3 := blk_frozen BK197.out 3))
       have n0_ : Aside0 (((((w11.setCell ⟨gb197, 0, none⟩ (.int .i64 ((rd_T107 l0 x13_1).f0))).setCell ⟨gb197, 1, none⟩ (.int .i64 ((rd_T107 l0 x13_1).f1))).setCell ⟨gb197, 2, none⟩ (.int .i64 ((rd_T107 l0 x13_1).f2))).setCell ⟨gb197, 3, none⟩ (.int .i64 ((rd_T107 l0 x13_1).f3))).heap[gb197]? = some (.cells #[.int .i64 ((rd_T107 l0 x13_1).f0), .int .i64 ((rd_T107 l0 x13_1).f1), .int .i64 ((rd_T107 l0 x13_1).f2), .int .i64 ((rd_T107 l0 x13_1).f3)] 107 (0, 0))) := ⟨by (with_reducible repeat (first | refine blk_drewN ?_ _ | refine blk_drew ?_ | refine blk_alloc ?_ _)); refine blk_put (cs := #[.int .i64 ((rd_T107 l0 x13_1).f0), .int .i64 ((rd_T107 l0 x13_1).f1), .int .i64 ((rd_T107 l0 x13_1).f2), .int .i64 0]) ?_ 3 _ rfl; (with_reducible repeat (first | refine blk_drewN ?_ _ | refine blk_drew ?_ | refine blk_alloc ?_ _)); refine blk_put (cs := #[.int .i64 ((rd_T107 l0 x13_1).f0), .int .i64 ((rd_T107 l0 x13_1).f1), .int .i64 0, .int .i64 0]) ?_ 2 _ rfl; (with_reducible repeat (first | refine blk_drewN ?_ _ | refine blk_drew ?_ | refine blk_alloc ?_ _)); refine blk_put (cs := #[.int .i64 ((rd_T107 l0 x13_1).f0), .int .i64 0, .int .i64 0, .int .i64 0]) ?_ 1 _ rfl; (with_reducible repeat (first | refine blk_drewN ?_ _ | refine blk_drew ?_ | refine blk_alloc ?_ _)); refine blk_put (cs := #[.int .i64 0, .int .i64 0, .int .i64 0, .int .i64 0]) ?_ 0 _ rfl; (with_reducible repeat (first | refine blk_drewN ?_ _ | refine blk_drew ?_ | refine blk_alloc ?_ _)); exact BK197.out⟩
       have n1_ : Aside0 (Below w.heap.size w ((((w11.setCell ⟨gb197, 0, none⟩ (.int .i64 ((rd_T107 l0 x13_1).f0))).setCell ⟨gb197, 1, none⟩ (.int .i64 ((rd_T107 l0 x13_1).f1))).setCell ⟨gb197, 2, none⟩ (.int .i64 ((rd_T107 l0 x13_1).f2))).setCell ⟨gb197, 3, none⟩ (.int .i64 ((rd_T107 l0 x13_1).f3)))) := ⟨bz1 GE197⟩
       (try clear BK197)
       (try clear HB)
       generalize ((((w11.setCell ⟨gb197, 0, none⟩ (.int .i64 ((rd_T107 l0 x13_1).f0))).setCell ⟨gb197, 1, none⟩ (.int .i64 ((rd_T107 l0 x13_1).f1))).setCell ⟨gb197, 2, none⟩ (.int .i64 ((rd_T107 l0 x13_1).f2))).setCell ⟨gb197, 3, none⟩ (.int .i64 ((rd_T107 l0 x13_1).f3))) = w13 at n0_ n1_ ⊢
       have BK197 := n0_
       have HB := n1_
       clear n0_ n1_
       have n0_ := Aside0.mk (blk_drew BK197.out)
       have n1_ := Aside0.mk (below_drew1 HB.out)
       clear BK197 HB
       have BK197 := n0_
       have HB := n1_
       clear n0_ n1_
       refine start_ (n := 8) (S := fun w' => w'.cell? ⟨gb197, 0, none⟩ = some (.int .i64 ((rd_T107 l0 x13_1).f0)) ∧ w'.cell? ⟨gb197, 1, none⟩ = some (.int .i64 ((rd_T107 l0 x13_1).f1)) ∧ w'.cell? ⟨gb197, 2, none⟩ = some (.int .i64 ((rd_T107 l0 x13_1).f2)) ∧ w'.cell? ⟨gb197, 3, none⟩ = some (.int .i64 ((rd_T107 l0 x13_1).f3))) (ds := []) #[fF, fF, fF, fF, fF, fF, fF, fF] kf rfl rfl ⟨(blk_cell BK197.out 0).trans rfl, (blk_cell BK197.out 1).trans rfl, (blk_cell BK197.out 2).trans rfl, (blk_cell BK197.out 3).trans rfl⟩ (fun hHeld => ?_); refine with_tabW impl_scaledAt.tab5 impl_scaledAt.bits5 (fun HT_ HW_ => ?_)
       generalize w13.drew = w14 at BK197 HB hHeld ⊢
       refine pq (i := 0) (N := some 17) #[tT, fF, fF, fF, fF, fF, fF, fF] rfl rfl HT_.out ?_
       refine tq4 (i := 1) (N := some 18) #[tT, tT, fF, fF, fF, fF, fF, fF] rfl rfl HT_.out HW_.out hHeld ?_
       refine tq4 (i := 2) (N := some 19) #[tT, tT, tT, fF, fF, fF, fF, fF] rfl rfl HT_.out HW_.out hHeld ?_
       refine one_ (i := 3) (N := some 20) #[tT, tT, tT, tT, fF, fF, fF, fF] rfl rfl (one_of HT_.out kf) (by decide) (fun K hK => ?_)
       refine goes_ Try.func122 kf rfl #[.agg #[.int .i64 ((rd_T107 l0 x13_1).f0), .int .i64 ((rd_T107 l0 x13_1).f1), .int .i64 ((rd_T107 l0 x13_1).f2), .int .i64 ((rd_T107 l0 x13_1).f3)]] (by rfl) rfl rfl sm ?_
       with_reducible refine (impl_Term_degree.calls ((rd_T107 l0 x13_1).f0) ((rd_T107 l0 x13_1).f1) ((rd_T107 l0 x13_1).f2) ((rd_T107 l0 x13_1).f3) t198 _ A6.out).mono ?_
       rintro e w15 ⟨rfl, hb⟩
       refine ⟨_, rfl, ?_⟩
       have n0_ := bb BK197 hb
       have n1_ := Aside0.mk (below_step (bz1 GE197) hb)
       clear BK197 HB
       have BK197 := n0_
       have HB := n1_
       clear n0_ n1_
       (try clear hb)
       (try clear hb2)
       (try clear hk)
       (try clear hi)
       refine hK.out _ _ ⟨(blk_cell BK197.out 0).trans rfl, (blk_cell BK197.out 1).trans rfl, (blk_cell BK197.out 2).trans rfl, (blk_cell BK197.out 3).trans rfl⟩ (fun hHeld => ?_)
       clear hK K
       refine norm_ (a' := ?_) ?_ ?_
       rotate_left
       ·show Act.put _ (some 20) _ = _
        simp only [Act.put, List.setIfInBounds_toArray, List.set_cons_zero, List.set_cons_succ, i64_w, i32_w]
        rfl
       refine pq (i := 4) (N := some 21) #[tT, tT, tT, tT, tT, fF, fF, fF] rfl rfl HT_.out ?_
       refine pq (i := 5) (N := some 22) #[tT, tT, tT, tT, tT, tT, fF, fF] rfl rfl HT_.out ?_
       refine pq (i := 6) (N := some 23) #[tT, tT, tT, tT, tT, tT, tT, fF] rfl rfl HT_.out ?_
       refine pq (i := 7) (N := some 8) #[tT, tT, tT, tT, tT, tT, tT, tT] rfl rfl HT_.out ?_
       refine done_ (done_of HT_.out kf) ?_
       have hcz16_0 : w15.cell? ⟨gb197, 0, none⟩ = some (.int .i64 ((rd_T107 l0 x13_1).f0)) := (blk_cell BK197.out 0).trans rfl
       have hcz16_1 : w15.cell? ⟨gb197, 1, none⟩ = some (.int .i64 ((rd_T107 l0 x13_1).f1)) := (blk_cell BK197.out 1).trans rfl
       have hcz16_2 : w15.cell? ⟨gb197, 2, none⟩ = some (.int .i64 ((rd_T107 l0 x13_1).f2)) := (blk_cell BK197.out 2).trans rfl
       have hcz16_3 : w15.cell? ⟨gb197, 3, none⟩ = some (.int .i64 ((rd_T107 l0 x13_1).f3)) := (blk_cell BK197.out 3).trans rfl
       have hfz16_0 := blk_frozen BK197.out 0
       have hfz16_1 := blk_frozen BK197.out 1
       have hfz16_2 := blk_frozen BK197.out 2
       have hfz16_3 := blk_frozen BK197.out 3
       try go_wp2_with (first | ((with_reducible refine gate_callee (f := 123) rfl ?_); refine goesL_ (some 25) rfl rfl Try.func123 kf rfl #[.agg #[.int .i64 ((rd_T107 l0 x13_1).f0), .int .i64 ((rd_T107 l0 x13_1).f1), .int .i64 ((rd_T107 l0 x13_1).f2), .int .i64 ((rd_T107 l0 x13_1).f3)]] rfl sm ?_; (with_reducible refine (impl_Term_exponents.calls ((rd_T107 l0 x13_1).f0) ((rd_T107 l0 x13_1).f1) ((rd_T107 l0 x13_1).f2) ((rd_T107 l0 x13_1).f3) t199 t200 t201 _ A10.out).mono ?_); rintro e w17 ⟨rfl, hb⟩; refine ⟨_, rfl, ?_⟩; have n0_ := bb BK197 hb; have n1_ := Aside0.mk (below_step (bz1 GE197) hb); clear BK197; clear HB; have BK197 := n0_; have HB := n1_; clear n0_ n1_; (try clear hb); (try clear hb2); (try clear hk); (try clear hi)))
       go_loopg [8, 26] k1 (fun kq v8 v26 w' => ∃ (x8_2 : Int) (x26_2 : Int), v8 = .int .i64 x8_2 ∧ v26 = .int .i64 x26_2 ∧ Aside0 (impl_scaledAt.l1 kq l1 x5_1 x8_2 l0 (l0.length : Int) x13_1 x26_2 t199 t200 t201 = some r) ∧ Aside0 (kq ≤ k1) ∧ Aside0 (w'.heap[gb197]? = some (.cells #[.int .i64 ((rd_T107 l0 x13_1).f0), .int .i64 ((rd_T107 l0 x13_1).f1), .int .i64 ((rd_T107 l0 x13_1).f2), .int .i64 ((rd_T107 l0 x13_1).f3)] 107 (0, 0))) ∧ Aside0 (Below w.heap.size w w'))
       case atStart => exact ⟨(ji9), (0), (by first | rfl | (simp; done) | (simp only [← hji9] <;> (first | rfl | simp)) | (simp [*]; done)), sr, H', ⟨Nat.le_refl _⟩, ⟨bk BK197⟩, ⟨bz1 GE197⟩⟩
       case round =>
        clear H'
        try clear c1; try clear p1; try clear q1; try clear hx1; try clear p2; try clear c3; try clear c3b0; try clear c4; try clear c4b0; try clear c5; try clear c5b0; try clear p6; try clear c8; try clear c8b0; try clear c8b1; try clear c12; try clear hcz12_0; try clear hcz12_1; try clear hcz12_2; try clear hcz12_3; try clear hcz16_0; try clear hcz16_1; try clear hcz16_2; try clear hcz16_3; try clear hfz12_0; try clear hfz12_1; try clear hfz12_2; try clear hfz12_3; try clear hfz16_0; try clear hfz16_1; try clear hfz16_2; try clear hfz16_3; try clear hx196_0; try clear hx196_1; try clear hx196_2; try clear hx196_3; try clear p196; try clear p2; try clear q196
        obtain ⟨x8_2, x26_2, rfl, rfl, HA, HK2, BK197, HB⟩ := hrel
        cases gk with
        | zero => exact absurd HA.out (by simp [impl_scaledAt.l1])
        | succ k2 =>
         have H := HA.out
         clear HA
         simp only [impl_scaledAt.l1] at H
         by_cases c18 : x26_2 < 3
         ·rw [if_pos c18] at H
          have c18b0 : decide (x26_2 < 3) = true := decide_eq_true c18
          clear c18
          by_cases c19 : 0 ≤ x26_2
          ·rw [if_pos c19] at H
           have c19b0 : decide (0 ≤ x26_2) = true := decide_eq_true c19
           clear c19
           have H' := Aside0.mk H
           clear H
           have p20 : 0 ≤ (x26_2 : Int) := of_decide_eq_true am
           have q20 : x26_2 < (3 : Int) := of_decide_eq_true am
           have hx20 : ∀ W_ : World, (Instr.index 133 (.agg #[.int .i64 t199, .int .i64 t200, .int .i64 t201]) (.int .i64 x26_2)).run Try.prog W_ = .ok (.int .i64 (ix3 t199 t200 t201 x26_2)) W_ := fun W_ => index3_133 t199 t200 t201 x26_2 p20 q20 W_
           replace p20 := eq_true p20
           replace q20 := eq_true q20
           go_wp2
           go_loopg [8, 31] k2 (fun kq v8 v31 w' => ∃ (x8_3 : Int) (x31_3 : Int), v8 = .int .i64 x8_3 ∧ v31 = .int .i64 x31_3 ∧ Aside0 (impl_scaledAt.l2 kq l1 x5_1 x8_3 x26_2 l0 (l0.length : Int) x13_1 x26_2 (ix3 t199 t200 t201 x26_2) x31_3 t199 t200 t201 = some r) ∧ Aside0 (kq ≤ k2) ∧ Aside0 (w'.heap[gb197]? = some (.cells #[.int .i64 ((rd_T107 l0 x13_1).f0), .int .i64 ((rd_T107 l0 x13_1).f1), .int .i64 ((rd_T107 l0 x13_1).f2), .int .i64 ((rd_T107 l0 x13_1).f3)] 107 (0, 0))) ∧ Aside0 (Below w.heap.size w w'))
           case atStart => exact ⟨(x8_2), (0), sr, sr, H', ⟨Nat.le_refl _⟩, ⟨bk BK197⟩, ⟨bz1 GE197⟩⟩
           case round =>
            clear H'
            try clear c1; try clear p1; try clear q1; try clear hx1; try clear p2; try clear q2; try clear hx2; try clear c3; try clear c3b0; try clear c4; try clear c4b0; try clear c5; try clear c5b0; try clear p6; try clear c8; try clear c8b0; try clear c8b1; try clear c12; try clear c18; try clear c18b0; try clear c19; try clear c19b0; try clear p19; try clear q19; try clear hx19; try clear p20; try clear q20; try clear hx20; try clear hcz12_0; try clear hcz12_1; try clear hcz12_2; try clear hcz12_3; try clear hcz16_0; try clear hcz16_1; try clear hcz16_2; try clear hcz16_3; try clear hfz12_0; try clear hfz12_1; try clear hfz12_2; try clear hfz12_3; try clear hfz16_0; try clear hfz16_1; try clear hfz16_2; try clear hfz16_3; try clear hx196_0; try clear hx196_1; try clear hx196_2; try clear hx196_3; try clear p1; try clear p196; try clear p2; try clear p20; try clear p6; try clear q1; try clear q196; try clear q20
            obtain ⟨x8_3, x31_3, rfl, rfl, HA, HK3, BK197, HB⟩ := hrel
            cases gk with
            | zero => exact absurd HA.out (by simp [impl_scaledAt.l2])
            | succ k3 =>
             have H := HA.out
             clear HA
             simp only [impl_scaledAt.l2] at H
             by_cases c21 : x31_3 < (ix3 t199 t200 t201 x26_2)
             ·rw [if_pos c21] at H
              have c21b0 : decide (x31_3 < (ix3 t199 t200 t201 x26_2)) = true := decide_eq_true c21
              clear c21
              by_cases c22 : 0 ≤ x26_2
              ·rw [if_pos c22] at H
               have c22b0 : decide (0 ≤ x26_2) = true := decide_eq_true c22
               clear c22
               by_cases c23 : x26_2 < (l1.length : Int)
               ·rw [if_pos c23] at H
                have c23b0 : decide (x26_2 < (l1.length : Int)) = true := decide_eq_true c23
                clear c23
                obtain ⟨ji24, hji24⟩ : ∃ j_ : Int, (wrap64 (9 - ((rd_T44 l1 x26_2).f1))) = j_ := ⟨_, rfl⟩
                first | rw [hji24] at H | simp only [hji24] at H
                have hji24w : (IntKind.i64.wrap (9 - ((rd_T44 l1 x26_2).f1))) = ji24 := (i64_w _).trans hji24
                by_cases c25 : 0 ≤ (ji24)
                ·rw [if_pos c25] at H
                 have c25b0 := eq_true c25
                 have c25b1 : decide (0 ≤ (ji24)) = true := decide_eq_true c25
                 clear c25
                 obtain ⟨ji26, hji26⟩ : ∃ j_ : Int, (shl .i64 ((rd_T44 l1 x26_2).f0) (ji24)) = j_ := ⟨_, rfl⟩
                 first | rw [hji26] at H | simp only [hji26] at H
                 have hji26_ : (IntKind.i64.wrap (((rd_T44 l1 x26_2).f0) * 2 ^ min (ji24).toNat 64)) = ji26 := hji26
                 have hji26z : (ji24) ≤ 64 → (IntKind.i64.wrap (((rd_T44 l1 x26_2).f0) * 2 ^ (ji24).toNat)) = ji26 := shl_small hji26
                 have hji26y : (wrap64 (((rd_T44 l1 x26_2).f0) * 2 ^ min (ji24).toNat 64)) = ji26 := (i64_w _).symm.trans hji26_
                 have hji26x : (ji24) ≤ 64 → (wrap64 (((rd_T44 l1 x26_2).f0) * 2 ^ (ji24).toNat)) = ji26 := fun h_ => (i64_w _).symm.trans (hji26z h_)
                 have H' := Aside0.mk H
                 clear H
                 try go_wp2
                 have n0_ := Aside0.mk (blk_drew BK197.out)
                 have n1_ := Aside0.mk (below_drew1 HB.out)
                 clear BK197 HB
                 have BK197 := n0_
                 have HB := n1_
                 clear n0_ n1_
                 have p202 : 0 ≤ (x26_2 : Int) := of_decide_eq_true am
                 have q202 : x26_2 < (l1.length : Int) := of_decide_eq_true am
                 obtain ⟨ad202, e202, hx202_0, hx202_1⟩ := at_T44 HR1.out x26_2 p202 q202
                 have hw202_1 := hx202_1
                 have hw202_0 := hx202_0
                 cases e202
                 replace hx202_0 := (HB.out.cell (World.block_lt_of_cell? w _ hx202_0)).trans hx202_0
                 replace hx202_1 := (HB.out.cell (World.block_lt_of_cell? w _ hx202_1)).trans hx202_1
                 replace p202 := eq_true p202
                 replace q202 := eq_true q202
                 have p203 : 0 ≤ (x26_2 : Int) := of_decide_eq_true am
                 have q203 : x26_2 < (l1.length : Int) := of_decide_eq_true am
                 obtain ⟨ad203, e203, hx203_0, hx203_1⟩ := at_T44 HR1.out x26_2 p203 q203
                 have hw203_1 := hx203_1
                 have hw203_0 := hx203_0
                 obtain rfl : ad202 = ad203 := (by injection e203)
                 replace hx203_0 := (HB.out.cell (World.block_lt_of_cell? w _ hx203_0)).trans hx203_0
                 replace hx203_1 := (HB.out.cell (World.block_lt_of_cell? w _ hx203_1)).trans hx203_1
                 replace p203 := eq_true p203
                 replace q203 := eq_true q203
                 refine start_ (n := 15) (S := fun w' => w'.cell? (ad202.add ((x26_2).toNat * 2)) = some (.int .i64 ((rd_T44 l1 x26_2).f0)) ∧ w'.cell? ⟨(ad202.add ((x26_2).toNat * 2)).block, (ad202.add ((x26_2).toNat * 2)).off + 1, none⟩ = some (.int .i64 ((rd_T44 l1 x26_2).f1)) ∧ w'.cell? (ad202.add ((x26_2).toNat * 2)) = some (.int .i64 ((rd_T44 l1 x26_2).f0)) ∧ w'.cell? ⟨(ad202.add ((x26_2).toNat * 2)).block, (ad202.add ((x26_2).toNat * 2)).off + 1, none⟩ = some (.int .i64 ((rd_T44 l1 x26_2).f1))) (ds := []) #[fF, fF, fF, fF, fF, fF, fF, fF, fF, fF, fF, fF, fF, fF, fF] kf rfl rfl ⟨((HB.out.cell (World.block_lt_of_cell? w _ hw202_0)).trans hw202_0), ((HB.out.cell (World.block_lt_of_cell? w _ hw202_1)).trans hw202_1), ((HB.out.cell (World.block_lt_of_cell? w _ hw203_0)).trans hw203_0), ((HB.out.cell (World.block_lt_of_cell? w _ hw203_1)).trans hw203_1)⟩ (fun hHeld => ?_); refine with_tabW impl_scaledAt.tab11 impl_scaledAt.bits11 (fun HT_ HW_ => ?_)
                 generalize wr.drew = w27 at BK197 HB hx202_0 hx202_1 hx203_0 hx203_1 hHeld ⊢
                 refine pq (i := 0) (N := some 33) #[tT, fF, fF, fF, fF, fF, fF, fF, fF, fF, fF, fF, fF, fF, fF] rfl rfl HT_.out ?_
                 refine pq (i := 1) (N := some 34) #[tT, tT, fF, fF, fF, fF, fF, fF, fF, fF, fF, fF, fF, fF, fF] rfl rfl HT_.out ?_
                 refine pq (i := 2) (N := some 35) #[tT, tT, tT, fF, fF, fF, fF, fF, fF, fF, fF, fF, fF, fF, fF] rfl rfl HT_.out ?_
                 refine pq (i := 3) (N := some 36) #[tT, tT, tT, tT, fF, fF, fF, fF, fF, fF, fF, fF, fF, fF, fF] rfl rfl HT_.out ?_
                 refine pq (i := 4) (N := some 37) #[tT, tT, tT, tT, tT, fF, fF, fF, fF, fF, fF, fF, fF, fF, fF] rfl rfl HT_.out ?_
                 refine pq (i := 6) (N := some 39) #[tT, tT, tT, tT, tT, fF, tT, fF, fF, fF, fF, fF, fF, fF, fF] rfl rfl HT_.out ?_
                 refine pq (i := 7) (N := some 40) #[tT, tT, tT, tT, tT, fF, tT, tT, fF, fF, fF, fF, fF, fF, fF] rfl rfl HT_.out ?_
                 refine pq (i := 8) (N := some 41) #[tT, tT, tT, tT, tT, fF, tT, tT, tT, fF, fF, fF, fF, fF, fF] rfl rfl HT_.out ?_
                 refine pq (i := 9) (N := some 42) #[tT, tT, tT, tT, tT, fF, tT, tT, tT, tT, fF, fF, fF, fF, fF] rfl rfl HT_.out ?_
                 refine tq4 (i := 5) (N := some 38) #[tT, tT, tT, tT, tT, tT, tT, tT, tT, tT, fF, fF, fF, fF, fF] rfl rfl HT_.out HW_.out hHeld ?_
                 refine tq4 (i := 10) (N := some 43) #[tT, tT, tT, tT, tT, tT, tT, tT, tT, tT, tT, fF, fF, fF, fF] rfl rfl HT_.out HW_.out hHeld ?_
                 refine pq (i := 11) (N := some 44) #[tT, tT, tT, tT, tT, tT, tT, tT, tT, tT, tT, tT, fF, fF, fF] rfl rfl HT_.out ?_
                 refine pq (i := 12) (N := some 45) #[tT, tT, tT, tT, tT, tT, tT, tT, tT, tT, tT, tT, tT, fF, fF] rfl rfl HT_.out ?_
                 refine pq (i := 13) (N := some 46) #[tT, tT, tT, tT, tT, tT, tT, tT, tT, tT, tT, tT, tT, tT, fF] rfl rfl HT_.out ?_
                 refine pq (i := 14) (N := some 8) #[tT, tT, tT, tT, tT, tT, tT, tT, tT, tT, tT, tT, tT, tT, tT] rfl rfl HT_.out ?_
                 refine done_ (done_of HT_.out kf) ?_
                 try go_wp2
                 go_roundg k3
                 case measure => have := HK1.out; have := HK2.out; have := HK3.out; omega
                 case rel => exact ⟨(wrap64 (x8_3 * (ji26))), (wrap64 (x31_3 + 1)), (by first | rfl | (simp; done) | (simp only [← hji26] <;> (first | rfl | simp)) | (simp [*]; done)), sr, H', ⟨by have := HK1.out; have := HK2.out; have := HK3.out; omega⟩, ⟨bk BK197⟩, ⟨bz1 GE197⟩⟩
                ·rw [if_neg c25] at H
                 exact absurd H (by simp)
               ·rw [if_neg c23] at H
                exact absurd H (by simp)
              ·rw [if_neg c22] at H
               exact absurd H (by simp)
             ·rw [if_neg c21] at H
              have c21b0 : decide (x31_3 < (ix3 t199 t200 t201 x26_2)) = false := decide_eq_false c21
              clear c21
              have H' := Aside0.mk H
              clear H
              go_wp2
              go_roundg k3
              case measure => have := HK1.out; have := HK2.out; have := HK3.out; omega
              case rel => exact ⟨(x8_3), (wrap64 (x26_2 + 1)), sr, sr, H', ⟨by have := HK1.out; have := HK2.out; have := HK3.out; omega⟩, ⟨bk BK197⟩, ⟨bz1 GE197⟩⟩
          ·rw [if_neg c19] at H
           exact absurd H (by simp)
         ·rw [if_neg c18] at H
          have c18b0 : decide (x26_2 < 3) = false := decide_eq_false c18
          clear c18
          have H' := Aside0.mk H
          clear H
          go_wp2
          go_roundg k2
          case measure => have := HK1.out; have := HK2.out; omega
          case rel => exact ⟨(wrap64 (x5_1 + x8_2)), (wrap64 (x13_1 + 1)), sr, sr, H', ⟨by have := HK1.out; have := HK2.out; omega⟩, ⟨bz1 GE197⟩⟩
      ·rw [if_neg c8] at H
       exact absurd H (by simp)
     ·rw [if_neg c5] at H
      exact absurd H (by simp)
    ·rw [if_neg c4] at H
     exact absurd H (by simp)
   ·rw [if_neg c3] at H
    have c3b0 : decide (x13_1 < (l0.length : Int)) = false := decide_eq_false c3
    clear c3
    obtain rfl := Option.some.inj H
    go_wp2
    go_ret
    exact ⟨er, bz⟩
def impl_hasDegree.f (a0_0 : Int) (a0_1 : Int) (a0_2 : Int) (a0_3 : Int) : Option (Bool) := (impl_inside.f a0_1 0 4).bind fun t205 => (if t205 = true then ((impl_inside.f a0_2 0 4).bind fun t206 => (if t206 = true then ((impl_inside.f a0_3 0 4).bind fun t207 => (if t207 = true then ((impl_Term_degree.f a0_0 a0_1 a0_2 a0_3).bind fun t208 => (some (decide (t208 ≤ 4)))) else (some false))) else (some false))) else (some false))
set_option maxHeartbeats 8000000 in
set_option maxRecDepth 100000 in
theorem impl_hasDegree.calls (a0_0 : Int) (a0_1 : Int) (a0_2 : Int) (a0_3 : Int) (r : Bool) (w : World) (h : impl_hasDegree.f a0_0 a0_1 a0_2 a0_3 = some r) :
 Calls Try.prog 141 #[.agg #[.int .i64 a0_0, .int .i64 a0_1, .int .i64 a0_2, .int .i64 a0_3]] w fun e w' => e = .returned (.bool r) ∧ Below w.heap.size w w' := by
 have hu107 := Try.underlying107
 have HB := Aside0.mk (Below.refl w.heap.size w)
 have H : ((impl_inside.f a0_1 0 4).bind fun t205 => (if t205 = true then ((impl_inside.f a0_2 0 4).bind fun t206 => (if t206 = true then ((impl_inside.f a0_3 0 4).bind fun t207 => (if t207 = true then ((impl_Term_degree.f a0_0 a0_1 a0_2 a0_3).bind fun t208 => (some (decide (t208 ≤ 4)))) else (some false))) else (some false))) else (some false))) = some r := h
 clear h
 obtain ⟨t205, A2, H⟩ := bi H
 by_cases c3 : t205 = true
 ·subst c3
  rw [if_pos rfl] at H
  obtain ⟨t206, A4, H⟩ := bi H
  by_cases c5 : t206 = true
  ·subst c5
   rw [if_pos rfl] at H
   obtain ⟨t207, A6, H⟩ := bi H
   by_cases c7 : t207 = true
   ·subst c7
    rw [if_pos rfl] at H
    obtain ⟨t208, A8, H⟩ := bi H
    obtain rfl := Option.some.inj H
    go_enter Try.func141, Try.ntmps141
    go_wp2_with (first | ((with_reducible refine gate_dst (N := 1) rfl ?_); refine bv (N := 1) (cs := #[.int .i64 a0_0, .int .i64 a0_1, .int .i64 a0_2, .int .i64 a0_3]) (t := 107) ?_; intro gb204 hg w9 hbox hb; have n0_ := Aside0.mk (below_step bz hb); have n1_ := Aside0.mk (hbox); have n2_ := (gz hg : Aside0 (w.heap.size ≤ _)); have n3_ := (gz hg : Aside0 (w.heap.size ≤ _)); clear HB; have HB := n0_; have BK204 := n1_; have GW204 := n2_; have GE204 := n3_; clear n0_ n1_ n2_ n3_; clear hb hbox hg; have hcz10_0 : w9.cell? ⟨gb204, 0, none⟩ = some (.int .i64 a0_0) := (blk_cell BK204.out 0).trans rfl; have hcz10_1 : w9.cell? ⟨gb204, 1, none⟩ = some (.int .i64 a0_1) := (blk_cell BK204.out 1).trans rfl; have hcz10_2 : w9.cell? ⟨gb204, 2, none⟩ = some (.int .i64 a0_2) := (blk_cell BK204.out 2).trans rfl; have hcz10_3 : w9.cell? ⟨gb204, 3, none⟩ = some (.int .i64 a0_3) := (blk_cell BK204.out 3).trans rfl; have hfz10_0 := blk_frozen BK204.out 0; have hfz10_1 := blk_frozen BK204.out 1; have hfz10_2 := blk_frozen BK204.out 2; have hfz10_3 := blk_frozen BK204.out 3) | ((with_reducible refine gate_callee (f := 96) rfl ?_); refine goesL_ (some 5) rfl rfl Try.func96 kf rfl #[.int .i64 a0_1, .int .i64 0, .int .i64 4] rfl sm ?_; (with_reducible refine (impl_inside.calls a0_1 0 4 true _ A2.out).mono ?_); rintro e w' ⟨rfl, ⟨nd, rfl⟩⟩; refine ⟨_, rfl, ?_⟩) | (go_at_call 96; (with_reducible refine (impl_inside.calls a0_2 0 4 true _ A4.out).mono ?_); rintro e w' ⟨rfl, ⟨nd, rfl⟩⟩) | (go_at_call 96; (with_reducible refine (impl_inside.calls a0_3 0 4 true _ A6.out).mono ?_); rintro e w' ⟨rfl, ⟨nd, rfl⟩⟩) | (go_at_call 122; (with_reducible refine (impl_Term_degree.calls a0_0 a0_1 a0_2 a0_3 t208 _ A8.out).mono ?_); rintro e w11 ⟨rfl, hb⟩; have n0_ := bb BK204 hb; have n1_ := Aside0.mk (below_step (bz1 GE204) hb); clear BK204; clear HB; have BK204 := n0_; have HB := n1_; clear n0_ n1_; (try clear hb); (try clear hb2); (try clear hk); (try clear hi)))
    go_ret
    exact ⟨er, bz1 GE204⟩
   ·replace c7 := Bool.eq_false_iff.mpr c7
    subst c7
    rw [if_neg (show ¬ (false = true) by decide)] at H
    obtain rfl := Option.some.inj H
    go_enter Try.func141, Try.ntmps141
    go_wp2_with (first | ((with_reducible refine gate_dst (N := 1) rfl ?_); refine bv (N := 1) (cs := #[.int .i64 a0_0, .int .i64 a0_1, .int .i64 a0_2, .int .i64 a0_3]) (t := 107) ?_; intro gb204 hg w12 hbox hb; have n0_ := Aside0.mk (below_step bz hb); have n1_ := Aside0.mk (hbox); have n2_ := (gz hg : Aside0 (w.heap.size ≤ _)); have n3_ := (gz hg : Aside0 (w.heap.size ≤ _)); clear HB; have HB := n0_; have BK204 := n1_; have GW204 := n2_; have GE204 := n3_; clear n0_ n1_ n2_ n3_; clear hb hbox hg; have hcz13_0 : w12.cell? ⟨gb204, 0, none⟩ = some (.int .i64 a0_0) := (blk_cell BK204.out 0).trans rfl; have hcz13_1 : w12.cell? ⟨gb204, 1, none⟩ = some (.int .i64 a0_1) := (blk_cell BK204.out 1).trans rfl; have hcz13_2 : w12.cell? ⟨gb204, 2, none⟩ = some (.int .i64 a0_2) := (blk_cell BK204.out 2).trans rfl; have hcz13_3 : w12.cell? ⟨gb204, 3, none⟩ = some (.int .i64 a0_3) := (blk_cell BK204.out 3).trans rfl; have hfz13_0 := blk_frozen BK204.out 0; have hfz13_1 := blk_frozen BK204.out 1; have hfz13_2 := blk_frozen BK204.out 2; have hfz13_3 := blk_frozen BK204.out 3) | ((with_reducible refine gate_callee (f := 96) rfl ?_); refine goesL_ (some 5) rfl rfl Try.func96 kf rfl #[.int .i64 a0_1, .int .i64 0, .int .i64 4] rfl sm ?_; (with_reducible refine (impl_inside.calls a0_1 0 4 true _ A2.out).mono ?_); rintro e w' ⟨rfl, ⟨nd, rfl⟩⟩; refine ⟨_, rfl, ?_⟩) | (go_at_call 96; (with_reducible refine (impl_inside.calls a0_2 0 4 true _ A4.out).mono ?_); rintro e w' ⟨rfl, ⟨nd, rfl⟩⟩) | (go_at_call 96; (with_reducible refine (impl_inside.calls a0_3 0 4 false _ A6.out).mono ?_); rintro e w' ⟨rfl, ⟨nd, rfl⟩⟩))
    go_ret
    exact ⟨er, bz1 GE204⟩
  ·replace c5 := Bool.eq_false_iff.mpr c5
   subst c5
   rw [if_neg (show ¬ (false = true) by decide)] at H
   obtain rfl := Option.some.inj H
   go_enter Try.func141, Try.ntmps141
   go_wp2_with (first | ((with_reducible refine gate_dst (N := 1) rfl ?_); refine bv (N := 1) (cs := #[.int .i64 a0_0, .int .i64 a0_1, .int .i64 a0_2, .int .i64 a0_3]) (t := 107) ?_; intro gb204 hg w14 hbox hb; have n0_ := Aside0.mk (below_step bz hb); have n1_ := Aside0.mk (hbox); have n2_ := (gz hg : Aside0 (w.heap.size ≤ _)); have n3_ := (gz hg : Aside0 (w.heap.size ≤ _)); clear HB; have HB := n0_; have BK204 := n1_; have GW204 := n2_; have GE204 := n3_; clear n0_ n1_ n2_ n3_; clear hb hbox hg; have hcz15_0 : w14.cell? ⟨gb204, 0, none⟩ = some (.int .i64 a0_0) := (blk_cell BK204.out 0).trans rfl; have hcz15_1 : w14.cell? ⟨gb204, 1, none⟩ = some (.int .i64 a0_1) := (blk_cell BK204.out 1).trans rfl; have hcz15_2 : w14.cell? ⟨gb204, 2, none⟩ = some (.int .i64 a0_2) := (blk_cell BK204.out 2).trans rfl; have hcz15_3 : w14.cell? ⟨gb204, 3, none⟩ = some (.int .i64 a0_3) := (blk_cell BK204.out 3).trans rfl; have hfz15_0 := blk_frozen BK204.out 0; have hfz15_1 := blk_frozen BK204.out 1; have hfz15_2 := blk_frozen BK204.out 2; have hfz15_3 := blk_frozen BK204.out 3) | ((with_reducible refine gate_callee (f := 96) rfl ?_); refine goesL_ (some 5) rfl rfl Try.func96 kf rfl #[.int .i64 a0_1, .int .i64 0, .int .i64 4] rfl sm ?_; (with_reducible refine (impl_inside.calls a0_1 0 4 true _ A2.out).mono ?_); rintro e w' ⟨rfl, ⟨nd, rfl⟩⟩; refine ⟨_, rfl, ?_⟩) | (go_at_call 96; (with_reducible refine (impl_inside.calls a0_2 0 4 false _ A4.out).mono ?_); rintro e w' ⟨rfl, ⟨nd, rfl⟩⟩))
   go_ret
   exact ⟨er, bz1 GE204⟩
 ·replace c3 := Bool.eq_false_iff.mpr c3
  subst c3
  rw [if_neg (show ¬ (false = true) by decide)] at H
  obtain rfl := Option.some.inj H
  go_enter Try.func141, Try.ntmps141
  go_wp2_with (first | ((with_reducible refine gate_dst (N := 1) rfl ?_); refine bv (N := 1) (cs := #[.int .i64 a0_0, .int .i64 a0_1, .int .i64 a0_2, .int .i64 a0_3]) (t := 107) ?_; intro gb204 hg w16 hbox hb; have n0_ := Aside0.mk (below_step bz hb); have n1_ := Aside0.mk (hbox); have n2_ := (gz hg : Aside0 (w.heap.size ≤ _)); have n3_ := (gz hg : Aside0 (w.heap.size ≤ _)); clear HB; have HB := n0_; have BK204 := n1_; have GW204 := n2_; have GE204 := n3_; clear n0_ n1_ n2_ n3_; clear hb hbox hg; have hcz17_0 : w16.cell? ⟨gb204, 0, none⟩ = some (.int .i64 a0_0) := (blk_cell BK204.out 0).trans rfl; have hcz17_1 : w16.cell? ⟨gb204, 1, none⟩ = some (.int .i64 a0_1) := (blk_cell BK204.out 1).trans rfl; have hcz17_2 : w16.cell? ⟨gb204, 2, none⟩ = some (.int .i64 a0_2) := (blk_cell BK204.out 2).trans rfl; have hcz17_3 : w16.cell? ⟨gb204, 3, none⟩ = some (.int .i64 a0_3) := (blk_cell BK204.out 3).trans rfl; have hfz17_0 := blk_frozen BK204.out 0; have hfz17_1 := blk_frozen BK204.out 1; have hfz17_2 := blk_frozen BK204.out 2; have hfz17_3 := blk_frozen BK204.out 3) | ((with_reducible refine gate_callee (f := 96) rfl ?_); refine goesL_ (some 5) rfl rfl Try.func96 kf rfl #[.int .i64 a0_1, .int .i64 0, .int .i64 4] rfl sm ?_; (with_reducible refine (impl_inside.calls a0_1 0 4 false _ A2.out).mono ?_); rintro e w' ⟨rfl, ⟨nd, rfl⟩⟩; refine ⟨_, rfl, ?_⟩))
  go_ret
  exact ⟨er, bz1 GE204⟩
def cmp_Or_int.l0 : Nat → Int → List Int → Int → Int → Option (Int)
 | 0, _, _, _, _ => none
 | k + 1, x3, x6, x7, x8 => if x8 < x7 then (if 0 ≤ x8 then (if x8 < (x6.length : Int) then (if (rd x6 x8) = x3 then (cmp_Or_int.l0 k x3 x6 x7 (wrap64 (x8 + 1))) else (some (rd x6 x8))) else (none)) else (none)) else (some x3)
def cmp_Or_int.f (k : Nat) (l0 : List Int) : Option (Int) := cmp_Or_int.l0 k 0 l0 (l0.length : Int) 0
theorem cmp_Or_int.mono_l : ∀ k, (∀ y0 y1 y2 y3, LeO (cmp_Or_int.l0 k y0 y1 y2 y3) (cmp_Or_int.l0 (k + 1) y0 y1 y2 y3))
 | 0 => fun _ _ _ _ r h => by simp [cmp_Or_int.l0] at h
 | k + 1 => by
  have ih0 := cmp_Or_int.mono_l k
  ·intro y0 y1 y2 y3
   unfold cmp_Or_int.l0
   repeat' first
   | (with_reducible exact ih0 _ _ _ _)
   | (with_reducible exact LeO.refl _)
   | (with_reducible exact LeO.none _)
   | (with_reducible refine LeO.ite ?_ ?_)
   | (with_reducible refine LeO.bind ?_ (fun _ => ?_))
   | exact ih0 _ _ _ _
   | exact LeO.none _
   | refine LeO.ite ?_ ?_
   | refine LeO.bind ?_ (fun _ => ?_)
theorem cmp_Or_int.mono : ∀ a0 k, LeO (cmp_Or_int.f k a0) (cmp_Or_int.f (k + 1) a0) := by
 intro a0 k
 have ih0 := cmp_Or_int.mono_l k
 unfold cmp_Or_int.f
 repeat' first
  | (with_reducible exact ih0 _ _ _ _)
  | (with_reducible exact LeO.refl _)
  | (with_reducible exact LeO.none _)
  | (with_reducible refine LeO.ite ?_ ?_)
  | (with_reducible refine LeO.bind ?_ (fun _ => ?_))
  | exact ih0 _ _ _ _
  | exact LeO.none _
  | refine LeO.ite ?_ ?_
  | refine LeO.bind ?_ (fun _ => ?_)
set_option maxHeartbeats 8000000 in
set_option maxRecDepth 100000 in
theorem cmp_Or_int.calls (k : Nat) (A0 : Option Addr) (c0 : Nat) (l0 : List Int) (r : Int) (w : World) (hr0 : Kd.C (Kd.int .i64) w A0 l0.length l0) (hc0 : l0.length ≤ c0) (h : cmp_Or_int.f k l0 = some r) :
 Calls Try.prog 150 #[.slice A0 l0.length c0] w fun e w' => e = .returned (.int .i64 r) ∧ Drawn0 w w' := by
 have HR0 := Aside0.mk hr0
 have HC0 := Aside0.mk hc0
 clear hr0 hc0
 have H : (cmp_Or_int.l0 k 0 l0 (l0.length : Int) 0) = some r := h
 clear h
 have H' := Aside0.mk H
 clear H
 go_enter Try.func150, Try.ntmps150
 go_wp2
 go_loopg [8] k (fun kq v8 w' => ∃ (x8_1 : Int), v8 = .int .i64 x8_1 ∧ Aside0 (cmp_Or_int.l0 kq 0 l0 (l0.length : Int) x8_1 = some r) ∧ Aside0 (kq ≤ k) ∧ Drawn0 w w')
 case atStart => exact ⟨(0), sr, H', ⟨Nat.le_refl _⟩, dz⟩
 case round =>
  clear H'
  try clear c1
  obtain ⟨x8_1, rfl, HA, HK1, ⟨m1, rfl⟩⟩ := hrel
  cases gk with
  | zero => exact absurd HA.out (by simp [cmp_Or_int.l0])
  | succ k1 =>
   have H := HA.out
   clear HA
   simp only [cmp_Or_int.l0] at H
   by_cases c2 : x8_1 < (l0.length : Int)
   ·rw [if_pos c2] at H
    have c2b0 : decide (x8_1 < (l0.length : Int)) = true := decide_eq_true c2
    clear c2
    by_cases c3 : 0 ≤ x8_1
    ·rw [if_pos c3] at H
     have c3b0 : decide (0 ≤ x8_1) = true := decide_eq_true c3
     clear c3
     by_cases c4 : x8_1 < (l0.length : Int)
     ·rw [if_pos c4] at H
      have c4b0 : decide (x8_1 < (l0.length : Int)) = true := decide_eq_true c4
      clear c4
      by_cases c5 : (rd l0 x8_1) = 0
      ·rw [if_pos c5] at H
       have c5b0 : ((rd l0 x8_1) == 0) = true := beq_iff_eq.mpr c5
       have c5b1 : ((rd l0 x8_1) != 0) = false := bne_eq_false_iff_eq.mpr c5
       clear c5
       have H' := Aside0.mk H
       clear H
       have p209 : 0 ≤ (x8_1 : Int) := of_decide_eq_true am
       have q209 : x8_1 < (l0.length : Int) := of_decide_eq_true am
       obtain ⟨ad209, e209, hx209_0⟩ := Kd.at_int HR0.out x8_1 p209 q209
       cases e209
       replace p209 := eq_true p209
       replace q209 := eq_true q209
       go_wp2
       go_roundg k1
       case measure => have := HK1.out; omega
       case rel => exact ⟨(wrap64 (x8_1 + 1)), sr, H', ⟨by have := HK1.out; omega⟩, dz⟩
      ·rw [if_neg c5] at H
       have c5b0 : ((rd l0 x8_1) == 0) = false := beq_eq_false_iff_ne.mpr c5
       have c5b1 : ((rd l0 x8_1) != 0) = true := bne_iff_ne.mpr c5
       obtain rfl := Option.some.inj H
       have p209 : 0 ≤ (x8_1 : Int) := of_decide_eq_true am
       have q209 : x8_1 < (l0.length : Int) := of_decide_eq_true am
       obtain ⟨ad209, e209, hx209_0⟩ := Kd.at_int HR0.out x8_1 p209 q209
       cases e209
       replace p209 := eq_true p209
       replace q209 := eq_true q209
       go_wp2
       go_ret
       exact ⟨sr, dz⟩
     ·rw [if_neg c4] at H
      exact absurd H (by simp)
    ·rw [if_neg c3] at H
     exact absurd H (by simp)
   ·rw [if_neg c2] at H
    have c2b0 : decide (x8_1 < (l0.length : Int)) = false := decide_eq_false c2
    clear c2
    obtain rfl := Option.some.inj H
    go_wp2
    go_ret
    exact ⟨sr, dz⟩
end Go.Proofs.Ytalcohajbcijlaa.QSiA
