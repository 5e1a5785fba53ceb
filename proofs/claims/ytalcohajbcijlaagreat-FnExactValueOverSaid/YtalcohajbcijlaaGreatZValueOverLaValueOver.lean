import Derived.Test.YtalcohajbcijlaaGreatZValueOverSq
import Derived.Test.YtalcohajbcijlaaGreatZValueOverQVovx
namespace Go.Proofs.YtalcohajbcijlaaGreat.QVov
open Go.RowKit Go.Proofs.YtalcohajbcijlaaGreatW.PrintWords Go.Proofs.YtalcohajbcijlaaGreatW.PrintLast Go.Proofs.YtalcohajbcijlaaGreatW.PrintMore
set_option linter.unusedVariables false
set_option linter.unusedSimpArgs false
section
variable {P : Program} {ops : Array Oper} {rest : List Oper} {o : Oper} {a : Act} {Q : Exit → Act → World → Prop} {α : Type}
theorem lit_whole (d : Kd α) {w0 W : World} (base e : Nat) (hgd : o.guard = none) {N : Tmp} (hd : o.dst = some N) {xs : List α} {inner : List Value} {ok okp : Nat → Prop}
 (hrun : (execOp a.eval o).run P W = .ok (.value (.slice (some ⟨W.heap.size, 0, none⟩) xs.length xs.length)) (W.alloc (.cells inner.toArray e)))
 (hrep : Reps (d.M W base okp) d.sz xs inner) (hok : ∀ k, okp k → ok k) (hfresh : ok W.heap.size) (HB : Below base w0 W) (hbase : base ≤ W.heap.size) (hm : xs.length ≤ 9223372036854775807)
 (h : ∀ g w1, d.R e w1 base ok (.slice (some ⟨g, 0, none⟩) xs.length xs.length) xs → Below base w0 w1 → W.grownBy w1 none → base ≤ g → wpList P ops Q rest (a.put o.dst (.slice (some ⟨g, 0, none⟩) xs.length xs.length)) w1) : wpList P ops Q (o :: rest) a W := by
 refine Kd.event_run hgd hrun (h _ _ ⟨fun k hk => ?_, inner, ?_, ?_⟩ (HB.alloc hbase _) (World.grownBy_alloc W _ none) hbase)
 ·have : W.heap.size = k := by simpa [Value.ownBlock] using hk
  subst this
  exact hfresh
 ·have h2 := World.ownsRow_lit (base := base) (e := e) (size := d.sz) W inner.toArray xs.length hbase (by simpa [maxLen] using hm) (by simpa using hrep.1)
  simpa using h2
 ·refine hrep.imp_ (fun p c hp => d.M_mono (fun k hk => ⟨hok k hk.1, fun he => ?_⟩) (Kd.M_below (d.M_bound hp) (below_alloc (Below.refl _ _) _)))
  have h3 : k = W.heap.size := by simpa [Value.ownBlock] using he
  have := hk.2.2.1
  omega
theorem make_whole (d : Kd α) {w0 W : World} (base e : Nat) (hgd : o.guard = none) {N : Tmp} (hd : o.dst = some N) (t : TypeId) (x y : Operand) (ho : o.op = .makeSlice t x y) (n : Int) (hx : a.eval x = .int .i64 n) (hy : a.eval y = .int .i64 n)
 (ht : P.underlying t = some (.slice e)) (z : Value) (bytes : Nat) (hinfo : (P.info? e).map (fun i => (i.zero, i.size, i.bytes)) = some (some z, d.sz, bytes)) (hz : z.cells.size = d.sz) (hs0 : 0 < d.sz) (hb0 : 0 < bytes)
 (z0 : α) {ok okp : Nat → Prop} (hzero : d.M W base okp z0 z.cells.toList) (hok : ∀ k, okp k → ok k) (hfresh : ok W.heap.size) (h0 : 0 ≤ n) (hl : n.toNat * bytes ≤ 281474976710656) (HB : Below base w0 W) (hbase : base ≤ W.heap.size)
 (h : ∀ g w1, d.R e w1 base ok (.slice (some ⟨g, 0, none⟩) n.toNat n.toNat) (List.replicate n.toNat z0) → Below base w0 w1 → W.grownBy w1 none → base ≤ g → wpList P ops Q rest (a.put o.dst (.slice (some ⟨g, 0, none⟩) n.toNat n.toNat)) w1) : wpList P ops Q (o :: rest) a W := by
 obtain ⟨m, rfl⟩ := Int.eq_ofNat_of_zero_le h0
 simp only [Int.toNat_natCast] at hl h
 obtain ⟨i0, hi, hzz⟩ := Option.map_eq_some_iff.1 hinfo
 simp only [Prod.mk.injEq] at hzz
 obtain ⟨hz0, hz1, hz2⟩ := hzz
 have hm : m ≤ 281474976710656 := Nat.le_trans (Nat.le_mul_of_pos_right _ hb0) hl
 have hr := run_make (P := P) W t e i0 z ht hi hz0 .i64 .i64 (m : Int) (m : Int) (by omega) (by omega)
  (by
   have h3 : ((i0.bytes * m : Nat) : Int) ≤ 281474976710656 := by rw [hz2, Nat.mul_comm]; omega
   rwa [Int.natCast_mul] at h3) (by omega)
 simp only [Int.toNat_natCast] at hr
 rw [hz1] at hr
 refine lit_whole d base e hgd hd (xs := List.replicate m z0) (inner := (madeCells z.cells (m * d.sz)).toList) (okp := okp) (ok := ok) ?_ (Kd.reps_made hz hs0 hzero m) hok hfresh HB hbase (by simp; omega) (by simpa using h)
 simp [execOp, ho, hx, hy, hr]
end
theorem cut_room {P : Program} (t e : TypeId) (kh : IntKind) {i : TypeInfo} (ht : P.underlying t = some (.slice e)) (hi : P.info? e = some i) (A : Option Addr) (n c : Nat) (j : Int) (h0 : 0 ≤ j) (hc : j ≤ c) :
 ∀ W : World, (Instr.slice t (.slice A n c) none (some (.int kh j)) none).run P W = .ok (.slice A j.toNat c) W := by
 intro W
 have hel : P.elem t = e := by simp [Program.elem, ht]
 have hu : P.underlying t = some (.slice (P.elem t)) := by rw [hel]; exact ht
 have ha : (A.map fun x => x.add 0) = A := by cases A <;> simp [Addr.add]
 rw [run_slice_h W t A n c hu kh j h0 hc, hel]
 simp [sizeOf, typeInfo, hi, sliced, Result.andThen, ha]
section
variable {α : Type} {d : Kd α}
theorem C_begin {w : World} {A : Option Addr} {n : Nat} {xs ys : List α} (h : d.C w A n (xs ++ ys)) : d.C w A xs.length xs := by
 obtain ⟨h1, h2, h3⟩ := h
 simp only [List.length_append] at h1
 refine ⟨rfl, by omega, fun hp => ?_⟩
 obtain ⟨ad, e, hc⟩ := h3 (by omega)
 refine ⟨ad, e, fun j p hj => hc j p ?_⟩
 rw [List.getElem?_append_left (List.getElem?_eq_some_iff.1 hj).1]
 exact hj
end
theorem made {α : Type} {d : Kd α} {e : Nat} {v : Value} {xs : List α} {w W W' : World} {bp : Nat} (hp : bp ≤ W.heap.size) (hB : Below w.heap.size w W) (hb : Below W.heap.size W W') (ho : d.R e W' W.heap.size (fun _ => True) v xs) :
 ∃ a b, (bp ≤ a ∧ a ≤ b) ∧ b ≤ W'.heap.size ∧ d.R e W' w.heap.size (fun k => a ≤ k ∧ k < b) v xs ∧ Below w.heap.size w W' :=
 ⟨W.heap.size, W'.heap.size, ⟨hp, hb.size⟩, Nat.le_refl _, Kd.R_lower (Kd.R_mono (Kd.R_bound ho) (fun k hk => ⟨hk.2.1, hk.2.2.1⟩)) hB.size, below_step hB hb⟩
theorem made2 {α β : Type} {d : Kd α} {d2 : Kd β} {e e2 : Nat} {v v2 : Value} {xs : List α} {ys : List β} {w W W' : World} {bp : Nat} (hp : bp ≤ W.heap.size) (hB : Below w.heap.size w W) (hb : Below W.heap.size W W') (ho : d.R e W' W.heap.size (fun _ => True) v xs) (ho2 : d2.R e2 W' W.heap.size (fun _ => True) v2 ys) :
 ∃ a b, (bp ≤ a ∧ a ≤ b) ∧ b ≤ W'.heap.size ∧ d.R e W' w.heap.size (fun k => a ≤ k ∧ k < b) v xs ∧ d2.R e2 W' w.heap.size (fun k => a ≤ k ∧ k < b) v2 ys ∧ Below w.heap.size w W' :=
 ⟨W.heap.size, W'.heap.size, ⟨hp, hb.size⟩, Nat.le_refl _, Kd.R_lower (Kd.R_mono (Kd.R_bound ho) (fun k hk => ⟨hk.2.1, hk.2.2.1⟩)) hB.size, Kd.R_lower (Kd.R_mono (Kd.R_bound ho2) (fun k hk => ⟨hk.2.1, hk.2.2.1⟩)) hB.size, below_step hB hb⟩
theorem still {w W W' : World} {bp : Nat} (hp : bp ≤ W.heap.size) (hB : Below w.heap.size w W) (hb : Below W.heap.size W W') : bp ≤ W'.heap.size ∧ Below w.heap.size w W' := ⟨Nat.le_trans hp hb.size, below_step hB hb⟩
def room (n : Nat) : Nat := if n % 6 = 5 then 0 else if n % 3 = 0 then 1 else n
theorem room_le (n : Nat) : room n ≤ n + 1 := by unfold room; split <;> (try split) <;> omega
theorem roomBehind_eq (n : Nat) : laws_roomBehind.f (n : Int) = some (room n : Int) := by
 have h6 : Int.tmod (n : Int) 6 = ((n % 6 : Nat) : Int) := by rw [Int.tmod_eq_emod_of_nonneg (by omega)]; rfl
 have h3 : Int.tmod (n : Int) 3 = ((n % 3 : Nat) : Int) := by rw [Int.tmod_eq_emod_of_nonneg (by omega)]; rfl
 unfold laws_roomBehind.f room
 rw [h6, h3]
 by_cases a : n % 6 = 5
 ·rw [if_pos (by omega), if_pos a]; rfl
 ·rw [if_neg (by omega), if_neg a]
  by_cases b : n % 3 = 0
  ·rw [if_pos (by omega), if_pos b]; rfl
  ·rw [if_neg (by omega), if_neg b]
def pad (l : List Int) : List Int := l ++ List.replicate (room l.length) (-7000000000000000101)
theorem pad_length (l : List Int) : (pad l).length = l.length + room l.length := by simp [pad]
theorem set_fill (l : List Int) (F i : Nat) (h : i < l.length) (hF : l.length ≤ F) : (l.take i ++ List.replicate (F - i) 0).set i (rd l i) = l.take (i + 1) ++ List.replicate (F - (i + 1)) 0 := by
 have h1 : F - i = (F - (i + 1)) + 1 := by omega
 rw [h1, List.replicate_succ, List.set_append_right _ _ (by simp; omega)]
 have h2 : i - (l.take i).length = 0 := by simp; omega
 rw [h2, List.set_cons_zero]
 have h3 : l.take (i + 1) = l.take i ++ [rd l i] := by
  rw [List.take_add_one, List.getElem?_eq_getElem h]
  simp [rd, h]
 rw [h3, List.append_assoc]
 rfl
theorem set_fill2 (l : List Int) (F i : Nat) (h : l.length ≤ i) (hF : i < F) : (l ++ (List.replicate (i - l.length) (-7000000000000000101) ++ List.replicate (F - i) 0)).set i (-7000000000000000101) = l ++ (List.replicate (i + 1 - l.length) (-7000000000000000101) ++ List.replicate (F - (i + 1)) 0) := by
 have h1 : F - i = (F - (i + 1)) + 1 := by omega
 rw [List.set_append_right _ _ h, List.set_append_right _ _ (by simp), h1, List.replicate_succ]
 have h2 : i - l.length - (List.replicate (i - l.length) (-7000000000000000101 : Int)).length = 0 := by simp
 rw [h2, List.set_cons_zero]
 have h3 : i + 1 - l.length = (i - l.length) + 1 := by omega
 rw [h3, List.replicate_succ', List.append_assoc]
 rfl
set_option maxHeartbeats 4000000 in
set_option maxRecDepth 100000 in
theorem toIntS_pad (A0 : Option Addr) (c0 : Nat) (l0 : List Int) (w : World) (hr0 : Kd.C (Kd.int .i64) w A0 l0.length l0) (hc0 : l0.length ≤ c0) (hn : l0.length ≤ 1000000) :
 Calls Tryz.prog 28 #[.slice A0 l0.length c0, .bool false] w fun e w' => ∃ g, e = .returned (.slice (some ⟨g, 0, none⟩) l0.length (pad l0).length) ∧ Kd.R (Kd.int .i64) 3 w' w.heap.size (fun _ => True) (.slice (some ⟨g, 0, none⟩) (pad l0).length (pad l0).length) (pad l0) ∧ Below w.heap.size w w' := by
 have HR0 := Aside0.mk hr0
 have HC0 := Aside0.mk hc0
 have HN := Aside0.mk hn
 have hm := Aside0.mk (roomBehind_eq l0.length)
 have hmb := room_le l0.length
 obtain ⟨m, hmm⟩ : ∃ m, room l0.length = m := ⟨_, rfl⟩
 obtain ⟨F, hF⟩ : ∃ F, (pad l0).length = F := ⟨_, rfl⟩
 rw [hmm] at hm hmb
 have hFm : F = l0.length + m := by rw [← hF, pad_length, hmm]
 have hFw : (IntKind.i64.wrap ((l0.length : Int) + (m : Int))) = (F : Int) := by rw [i64_w]; unfold wrap64; omega
 have hFF := Aside0.mk hF
 have MM := Aside0.mk hmm
 have HFM := Aside0.mk hFm
 have HMB := Aside0.mk hmb
 rw [hF]
 clear hr0 hc0 hF hmm hFm hn hmb
 have hp0 : decide (0 ≤ (F : Int)) = true := by simp
 have HB := Aside0.mk (Below.refl w.heap.size w)
 go_enter Tryz.func28, Tryz.ntmps28
 go_wp2_with (first | ((with_reducible refine gate_callee (f := 25) rfl ?_); refine goesL_ (some 18) rfl rfl Tryz.func25 kf rfl #[.int .i64 (l0.length : Int)] rfl (by (try simp only [List.map_toArray, List.map_cons, List.map_nil]); first | done | rfl) ?_; (with_reducible refine (laws_roomBehind.calls (l0.length : Int) (m : Int) _ hm.out).mono ?_); rintro e w' ⟨rfl, ⟨nd, rfl⟩⟩; refine ⟨_, rfl, ?_⟩) | ((with_reducible refine gate_dst (N := 20) rfl ?_); (try (refine gate_guard (by rfl) ?_; dsimp only)); refine make_whole (Kd.int .i64) _ 3 rfl (N := 20) rfl 23 _ _ rfl (F : Int) rfl rfl Tryz.underlying23 (.int .i64 0) 8 info3 rfl (by decide) (by omega) 0 (ok := fun _ => True) (okp := fun _ => True) rfl (fun _ hk => hk) trivial (by omega) (by have := HFM.out; have := HMB.out; have := HN.out; omega) (Below.refl _ _) (Nat.le_refl _) ?_; intro g w10 ho11 hb hg_ hgb; clear hg_; have n0_ := Aside0.mk (Kd.R_lower ho11 (below_size bz)); have n1_ := Aside0.mk (below_step bz hb); clear HB; have HO109 := n0_; have HB := n1_; clear n0_ n1_ hb ho11))
 go_loopg [6] l0.length (fun kq v6 w' => ∃ x : Int, v6 = .int .i64 x ∧ Aside0 (0 ≤ x ∧ x + kq = l0.length) ∧ Aside0 (Kd.R (Kd.int .i64) 3 w' w.heap.size (fun _ => True) (.slice (some ⟨g, 0, none⟩) F F) (l0.take x.toNat ++ List.replicate (F - x.toNat) 0)) ∧ Aside0 (Below w.heap.size w w'))
 case atStart => exact ⟨0, rfl, ⟨by omega⟩, ⟨by have h := HO109.out; simp only [Int.toNat_natCast] at h; simpa using h⟩, HB⟩
 case round =>
  clear HO109 HB
  obtain ⟨x, rfl, HI, HO, HB⟩ := hrel
  by_cases hlt : x < (l0.length : Int)
  ·have c1 : decide (x < (l0.length : Int)) = true := decide_eq_true hlt
   have c2 : decide (0 ≤ x) = true := decide_eq_true HI.out.1
   have c3 : decide (x < (F : Int)) = true := decide_eq_true (by have := HFM.out; omega)
   obtain ⟨ad, e1, hx1⟩ := Kd.at_int HR0.out x HI.out.1 hlt
   cases e1
   replace hx1 := (HB.out.cell (World.block_lt_of_cell? w _ hx1)).trans hx1
   have hl : (l0.take x.toNat ++ List.replicate (F - x.toNat) 0).length = F := by have := HI.out; have := HFM.out; simp only [List.length_append, List.length_take, List.length_replicate]; omega
   obtain ⟨hx2, hf2⟩ := Kd.R_celln 0 HO.out x HI.out.1 (by have := HFM.out; omega)
   have HP := Kd.R_putg HO.out x (rd l0 x)
   obtain ⟨y, hy⟩ : ∃ y, y = (l0.take x.toNat ++ List.replicate (F - x.toNat) 0).set x.toNat (rd l0 x) := ⟨_, rfl⟩
   have hy2 : y = l0.take (x + 1).toNat ++ List.replicate (F - (x + 1).toNat) 0 := by
    rw [hy]
    have h0 := HI.out
    have h1 := HFM.out
    obtain ⟨i, rfl⟩ := Int.eq_ofNat_of_zero_le h0.1
    have e : ((i : Int) + 1).toNat = i + 1 := by omega
    rw [e]
    simp only [Int.toNat_natCast]
    exact set_fill l0 F i (by omega) (by omega)
   rw [← hy] at HP
   have HY := Aside0.mk hy2
   have GB := Aside0.mk (Kd.R_base HO.out g (by simp [Value.ownBlock]))
   clear hy hy2 hl
   replace hlt := eq_true hlt
   have p2 := eq_true HI.out.1
   have p3 := eq_true (of_decide_eq_true c3)
   go_wp2_with (first | ((with_reducible refine gate_store (t := 3) (p := 33) rfl ?_); refine store_event (t := 3) (p := 33) (v := ?vo_w17) (w1 := (wr.setCell ⟨g, x.toNat, none⟩ (.int .i64 (rd l0 x)))) ?hg ?ho ?hn ?hr ?_; (case ho => rfl); (case hg => rfl); (case hn => rfl); (case hr => first | (go_simp; done) | (go_simp; rfl)); intro w17 hw; have n0_ := Aside0.mk (by rw [hw]; exact HP.1 : Kd.R (Kd.int .i64) 3 w17 w.heap.size (fun _ => True) (.slice (some ⟨g, 0, none⟩) F F) y); have n1_ := Aside0.mk (by rw [hw]; exact below_set HB.out GB.out : Below w.heap.size w w17); clear HO HB HP; have HO := n0_; have HB := n1_; clear n0_ n1_ hw))
   cases gk with
   | zero => exact absurd HI.out.2 (by have := of_eq_true hlt; omega)
   | succ k1 =>
    go_roundg k1
    case measure => omega
    case rel => exact ⟨x + 1, by have := HI.out; have := HN.out; rw [show wrap64 (x + 1) = x + 1 by unfold wrap64; omega], ⟨by have := HI.out; omega⟩, ⟨by rw [← HY.out]; exact HO.out⟩, HB⟩
  ·have c1 : decide (x < (l0.length : Int)) = false := decide_eq_false hlt
   have hx : x = (l0.length : Int) := by have := HI.out; omega
   subst hx
   have HO' : Aside0 (Kd.R (Kd.int .i64) 3 wr w.heap.size (fun _ => True) (.slice (some ⟨g, 0, none⟩) F F) (l0 ++ List.replicate (F - l0.length) 0)) := ⟨by have h := HO.out; simpa using h⟩
   clear HO HI hlt
   go_wp2
   go_loopg [7] (F - l0.length) (fun kq v6 w' => ∃ x : Int, v6 = .int .i64 x ∧ Aside0 ((l0.length : Int) ≤ x ∧ x + kq = F) ∧ Aside0 (Kd.R (Kd.int .i64) 3 w' w.heap.size (fun _ => True) (.slice (some ⟨g, 0, none⟩) F F) (l0 ++ (List.replicate (x.toNat - l0.length) (-7000000000000000101) ++ List.replicate (F - x.toNat) 0))) ∧ Aside0 (Below w.heap.size w w'))
   case atStart => exact ⟨l0.length, rfl, ⟨by have := HFM.out; omega⟩, ⟨by have h := HO'.out; simpa using h⟩, HB⟩
   case round =>
    clear HO' HB c1
    obtain ⟨x, rfl, HI, HO, HB⟩ := hrel
    by_cases hlt : x < (F : Int)
    ·have c1 : decide (x < (F : Int)) = true := decide_eq_true hlt
     have c2 : decide (0 ≤ x) = true := decide_eq_true (by have := HI.out; omega)
     obtain ⟨hx2, hf2⟩ := Kd.R_celln 0 HO.out x (by have := HI.out; omega) hlt
     have HP := Kd.R_putg HO.out x (-7000000000000000101)
     obtain ⟨y, hy⟩ : ∃ y, y = (l0 ++ (List.replicate (x.toNat - l0.length) (-7000000000000000101) ++ List.replicate (F - x.toNat) 0)).set x.toNat (-7000000000000000101) := ⟨_, rfl⟩
     have hy2 : y = l0 ++ (List.replicate ((x + 1).toNat - l0.length) (-7000000000000000101) ++ List.replicate (F - (x + 1).toNat) 0) := by
      rw [hy]
      have h0 := HI.out
      obtain ⟨i, rfl⟩ := Int.eq_ofNat_of_zero_le (show 0 ≤ x by omega)
      have e : ((i : Int) + 1).toNat = i + 1 := by omega
      rw [e]
      simp only [Int.toNat_natCast]
      exact set_fill2 l0 F i (by omega) (by omega)
     rw [← hy] at HP
     have HY := Aside0.mk hy2
     have GB := Aside0.mk (Kd.R_base HO.out g (by simp [Value.ownBlock]))
     clear hy hy2
     have p2 := eq_true (of_decide_eq_true c2)
     have p3 := eq_true hlt
     go_wp2
     cases gk with
     | zero => exact absurd HI.out.2 (by have := of_decide_eq_true c1; omega)
     | succ k1 =>
      go_roundg k1
      case measure => omega
      case rel => exact ⟨x + 1, by have := HI.out; have := HN.out; have := HFM.out; have := HMB.out; rw [show wrap64 (x + 1) = x + 1 by unfold wrap64; omega], ⟨by have := HI.out; omega⟩, ⟨by rw [← HY.out]; exact HP.1⟩, ⟨below_set HB.out GB.out⟩⟩
    ·have c1 : decide (x < (F : Int)) = false := decide_eq_false hlt
     have hx : x = (F : Int) := by have := HI.out; omega
     subst hx
     have HO' : Aside0 (Kd.R (Kd.int .i64) 3 wr w.heap.size (fun _ => True) (.slice (some ⟨g, 0, none⟩) F F) (pad l0)) := ⟨by have h := HO.out; have e : F - l0.length = room l0.length := (by rw [MM.out]; have := HFM.out; omega); simpa [pad, e] using h⟩
     clear HO HI hlt
     obtain ⟨i027, hi027, _, hsz27, _⟩ := info_parts info3
     have hcut27 := cut_to (P := Tryz.prog) 23 3 .i64 Tryz.underlying23 hi027 (some ⟨g, 0, none⟩) F F (l0.length : Int) (by omega) (by have := HFM.out; omega) (Nat.le_refl _)
     go_wp2
     go_ret
     exact ⟨g, by simp, HO'.out, HB.out⟩
theorem eqIntS_loop (l : List Int) (hn : l.length ≤ 9223372036854775807) (d : Nat) : ∀ (k : Nat) (x : Int), 0 ≤ x → (l.length : Int) - x = d → d < k → laws_eqIntS.l0 k l l x = some true := by
 induction d with
 | zero =>
  intro k x h0 hd hk
  obtain ⟨k, rfl⟩ : ∃ m, k = m + 1 := ⟨k - 1, by omega⟩
  simp only [laws_eqIntS.l0]; rw [if_neg (by omega)]
 | succ d ih =>
  intro k x h0 hd hk
  obtain ⟨k, rfl⟩ : ∃ m, k = m + 1 := ⟨k - 1, by omega⟩
  simp only [laws_eqIntS.l0]; rw [if_pos (by omega), if_pos h0, if_pos (by omega), if_pos trivial, show wrap64 (x + 1) = x + 1 by unfold wrap64; omega]
  exact ih k (x + 1) (by omega) (by omega) (by omega)
theorem eqIntS_self (l : List Int) (hn : l.length ≤ 9223372036854775807) : laws_eqIntS.f (l.length + 1) l l = some true := by
 unfold laws_eqIntS.f
 rw [if_pos rfl]
 exact eqIntS_loop l hn l.length (l.length + 1) 0 (by omega) (by omega) (by omega)
theorem toIntS_l1 (l : List Int) (F : Nat) (hF : F ≤ 3000000) (d : Nat) : ∀ (k i : Nat), l.length ≤ i → i ≤ F → F - i = d → d < k → laws_toIntS.l1 k l (l ++ (List.replicate (i - l.length) (-7000000000000000101) ++ List.replicate (F - i) 0)) (i : Int) = some l := by
 induction d with
 | zero =>
  intro k i h0 h1 hd hk
  obtain ⟨k, rfl⟩ : ∃ m, k = m + 1 := ⟨k - 1, by omega⟩
  simp only [laws_toIntS.l1]; rw [if_neg (by simp only [List.length_append, List.length_replicate]; omega), if_pos (by omega), if_pos (by simp only [List.length_append, List.length_replicate]; omega)]
  simp
 | succ d ih =>
  intro k i h0 h1 hd hk
  obtain ⟨k, rfl⟩ : ∃ m, k = m + 1 := ⟨k - 1, by omega⟩
  simp only [laws_toIntS.l1]; rw [if_pos (by simp only [List.length_append, List.length_replicate]; omega), if_pos (by omega), show wrap64 ((i : Int) + 1) = ((i + 1 : Nat) : Int) by unfold wrap64; omega, Int.toNat_natCast, set_fill2 l F i h0 (by omega)]
  exact ih k (i + 1) (by omega) (by omega) (by omega) (by omega)
theorem toIntS_l0 (l : List Int) (F : Nat) (hF : F ≤ 3000000) (hl : l.length ≤ F) (d : Nat) : ∀ (k i : Nat), i ≤ l.length → l.length - i = d → d + F + 2 < k → laws_toIntS.l0 k l (l.take i ++ List.replicate (F - i) 0) (i : Int) = some l := by
 induction d with
 | zero =>
  intro k i h1 hd hk
  obtain ⟨k, rfl⟩ : ∃ m, k = m + 1 := ⟨k - 1, by omega⟩
  have e : i = l.length := by omega
  subst e
  simp only [laws_toIntS.l0]; rw [if_neg (by omega)]
  have h := toIntS_l1 l F hF (F - l.length) k l.length (Nat.le_refl _) hl rfl (by omega)
  simpa using h
 | succ d ih =>
  intro k i h1 hd hk
  obtain ⟨k, rfl⟩ : ∃ m, k = m + 1 := ⟨k - 1, by omega⟩
  simp only [laws_toIntS.l0]; rw [if_pos (by omega), if_pos (by omega), if_pos (by simp only [List.length_append, List.length_take, List.length_replicate]; omega), show wrap64 ((i : Int) + 1) = ((i + 1 : Nat) : Int) by unfold wrap64; omega, Int.toNat_natCast, set_fill l F i (by omega) hl]
  exact ih k (i + 1) (by omega) (by omega) (by omega)
theorem toIntS_j0 (l : List Int) (hn : l.length ≤ 1000000) (F : Nat) (hF : l.length + room l.length = F) (k : Nat) (hk : l.length + F + 2 < k) : laws_toIntS.j0 (k + 1) l false = some l := by
 have hr := room_le l.length
 have hw : wrap64 ((l.length : Int) + (room l.length : Int)) = (F : Int) := by unfold wrap64; omega
 have hb : F ≤ 35184372088832 := by omega
 have h := toIntS_l0 l F (by omega) (by omega) l.length k 0 (by omega) (by omega) hk
 simp only [laws_toIntS.j0]
 rw [if_neg (by decide), roomBehind_eq, Option.bind_some, hw, if_pos (by omega), Int.toNat_natCast, if_pos hb]
 simpa using h
theorem toIntS_bare (l : List Int) (hn : l.length ≤ 1000000) : ∃ k, laws_toIntS.f k l true = some l := by
 refine ⟨(l.length + (l.length + room l.length) + 3) + 1, ?_⟩
 unfold laws_toIntS.f
 rw [if_pos rfl]
 by_cases h : l = []
 ·subst h
  rfl
 ·have e : ((l.length : Int) == 0) = false := by
   have : 0 < l.length := List.length_pos_iff.2 h
   simp only [beq_eq_false_iff_ne]; omega
  rw [e]
  exact toIntS_j0 l hn _ rfl _ (by omega)
theorem pad_reads {w : World} {b : Nat} {ok : Nat → Prop} {A : Option Addr} {l : List Int} (h : Kd.R (Kd.int .i64) 3 w b ok (.slice A (pad l).length (pad l).length) (pad l)) : Kd.C (Kd.int .i64) w A l.length l := C_begin (Kd.R_reads' h).2.2
theorem pad_le (l : List Int) : l.length ≤ (pad l).length := by rw [pad_length]; omega
section
variable {P : Program} {ops : Array Oper} {Q : Exit → Act → World → Prop}
theorem box_draw {oi : Oper} {N : Tmp} {a : Act} {w : World} {K : Act → World → Prop} {cs : Array Value} {t : TypeId} (hw : Region.wanted oi (yielded ops a.tmps) = true) (hN : oi.dst = some N) (hrun : (execOp a.eval oi).run P w = .ok (.value (.pointer (some ⟨w.heap.size, 0, none⟩))) (w.alloc (.cells cs t (0, 0))))
 (h : ∀ g, g = w.heap.size → ∀ w1 : World, w1.heap[g]? = some (.cells cs t (0, 0)) → Below w.heap.size w w1 → K (a.put (some N) (.pointer (some ⟨g, 0, none⟩))) w1) : if Region.wanted oi (yielded ops a.tmps) = true then Oper.wp P oi a w K Q else K (a.put (some N) undef) w :=
 value_ hw hN hrun (h _ rfl _ (blk_new w _) (below_alloc (Below.refl _ _) _))
theorem store_draw {oi : Oper} {a : Act} {w w1 : World} {K : Act → World → Prop} (hw : Region.wanted oi (yielded ops a.tmps) = true) (hN : oi.dst = none) (hrun : (execOp a.eval oi).run P w = .ok .skip w1)
 (h : ∀ w' : World, w' = w1 → K a w') : if Region.wanted oi (yielded ops a.tmps) = true then Oper.wp P oi a w K Q else K (a.put none undef) w :=
 skip_ hw hN hrun (h _ rfl)
end
theorem eqInterval_self (a b c d : Int) : laws_eqInterval.f a b c d a b c d = some true := by
 unfold laws_eqInterval.f laws_eqDyadic.f; simp
theorem padr {α : Type} {d : Kd α} {e : Nat} {w : World} {b : Nat} {ok : Nat → Prop} {A : Option Addr} {c : Nat} {q P : List α} (hp : ∃ f, P = q ++ f) (h : d.R e w b ok (.slice A P.length c) P) : d.C w A q.length q := by
 obtain ⟨f, rfl⟩ := hp
 exact C_begin (Kd.R_reads' h).2.2
theorem padl {α : Type} {q P : List α} {c : Nat} (hp : ∃ f, P = q ++ f) (h : P.length ≤ c) : q.length ≤ c := by
 obtain ⟨f, rfl⟩ := hp
 simp at h; omega
mutual
def laws_toTermSW.j0 : Nat → List (S57) → Bool → Option ((List (S55)))
 | 0, _, _ => none
 | k + 1, x0, x13 => if x13 = true then (none) else ((laws_roomBehind.f (x0.length : Int)).bind fun t124 => (if 0 ≤ (wrap64 ((x0.length : Int) + t124)) then (if (wrap64 ((x0.length : Int) + t124) : Int).toNat ≤ 8796093022208 then (laws_toTermSW.l0 k x0 (List.replicate (wrap64 ((x0.length : Int) + t124) : Int).toNat z55) 0) else (none)) else (none)))
def laws_toTermSW.l0 : Nat → List (S57) → List (S55) → Int → Option ((List (S55)))
 | 0, _, _, _ => none
 | k + 1, x0, x5, x6 => if x6 < (x0.length : Int) then (if 0 ≤ x6 then ((laws_toTerm.f ((rd_T57 x0 x6).f0) ((rd_T57 x0 x6).f1) ((rd_T57 x0 x6).f2) ((rd_T57 x0 x6).f3)).bind fun bt129 => (if x6 < (x5.length : Int) then (laws_toTermSW.l0 k x0 (x5.set (x6 : Int).toNat (⟨bt129.1, bt129.2.1, bt129.2.2.1, bt129.2.2.2⟩ : S55)) (wrap64 (x6 + 1))) else (none))) else (none)) else (laws_toTermSW.l1 k x0 x5 (x0.length : Int))
def laws_toTermSW.l1 : Nat → List (S57) → List (S55) → Int → Option ((List (S55)))
 | 0, _, _, _ => none
 | k + 1, x0, x5, x7 => if x7 < (x5.length : Int) then ((laws_fillerTerm.f).bind fun bt134 => (if 0 ≤ x7 then (laws_toTermSW.l1 k x0 (x5.set (x7 : Int).toNat (⟨bt134.1, bt134.2.1, bt134.2.2.1, bt134.2.2.2⟩ : S55)) (wrap64 (x7 + 1))) else (none))) else (if 0 ≤ (x0.length : Int) then (if (x0.length : Int) ≤ (x5.length : Int) then (some x5) else (none)) else (none))
end
def laws_toTermSW.f (k : Nat) (l0 : List (S57)) (a1 : Bool) : Option ((List (S55))) := if a1 = true then (laws_toTermSW.j0 k l0 ((l0.length : Int) == 0)) else (laws_toTermSW.j0 k l0 false)
set_option maxHeartbeats 8000000 in
set_option maxRecDepth 100000 in
theorem laws_toTermSW.calls (k : Nat) (A0 : Option Addr) (c0 : Nat) (l0 : List (S57)) (a1 : Bool) (r : List (S55)) (w : World) (hr0 : Kd.C k57 w A0 l0.length l0) (hc0 : l0.length ≤ c0) (h : laws_toTermSW.f k l0 a1 = some r) :
 Calls Tryz.prog 8 #[.slice A0 l0.length c0, .bool a1] w fun e w' => ∃ (Ac_ : Option Addr) (cc_ : Nat), e = .returned (.slice Ac_ l0.length cc_) ∧ Kd.R k55 55 w' w.heap.size (fun _ => True) (.slice Ac_ r.length cc_) r ∧ Below w.heap.size w w' := by
 have hu57 := Tryz.underlying57
 have hu55 := Tryz.underlying55
 have HR0 := Aside0.mk hr0
 have HC0 := Aside0.mk hc0
 clear hr0 hc0
 have HB := Aside0.mk (Below.refl w.heap.size w)
 have H : (if a1 = true then (laws_toTermSW.j0 k l0 ((l0.length : Int) == 0)) else (laws_toTermSW.j0 k l0 false)) = some r := h
 clear h
 have HC3 := Aside0.mk H
 clear H
 go_enter Tryz.func8, Tryz.ntmps8
 go_upto_region 1 with (fail)
 go_cut [13] (fun v13 wc => ∃ (kq : Nat) (x13_2 : Bool), v13 = .bool x13_2 ∧ Aside0 (laws_toTermSW.j0 kq l0 x13_2 = some r) ∧ Aside0 (kq ≤ k) ∧ Aside0 (Below w.heap.size w wc))
 case first =>
  have H := HC3.out
  clear HC3
  by_cases c4 : a1 = true
  ·subst c4
   rw [if_pos rfl] at H
   have H' := Aside0.mk H
   clear H
   go_wp2
   go_meet
   case rel => exact ⟨_, (((l0.length : Int) == 0)), sr, H', ⟨by first | omega | exact Nat.le_refl _⟩, ⟨bz⟩⟩
  ·replace c4 := Bool.eq_false_iff.mpr c4
   subst c4
   rw [if_neg (show ¬ (false = true) by decide)] at H
   have H' := Aside0.mk H
   clear H
   go_wp2
   go_meet
   case rel => exact ⟨_, (false), sr, H', ⟨by first | omega | exact Nat.le_refl _⟩, ⟨bz⟩⟩
 case rest =>
  clear HC3
  try clear p2; try clear c4
  obtain ⟨kq, x13_2, rfl, HA, HJ2, HB⟩ := hcut
  cases kq with
  | zero => exact absurd HA.out (by simp [laws_toTermSW.j0])
  | succ kj2 =>
   have H := HA.out
   clear HA
   simp only [laws_toTermSW.j0] at H
   by_cases c5 : x13_2 = true
   ·subst c5
    have H1 : none = some r := by rw [if_pos rfl] at H; exact H
    exact absurd H1 (by simp)
   ·replace c5 := Bool.eq_false_iff.mpr c5
    subst c5
    rw [if_neg (show ¬ (false = true) by decide)] at H
    obtain ⟨t124, A6, H⟩ := bi H
    obtain ⟨ji7, hji7⟩ : ∃ j_ : Int, (wrap64 ((l0.length : Int) + t124)) = j_ := ⟨_, rfl⟩
    first | rw [hji7] at H | simp only [hji7] at H
    (try rw [hji7] at A6)
    have hji7w : (IntKind.i64.wrap ((l0.length : Int) + t124)) = ji7 := (i64_w _).trans hji7
    by_cases c8 : 0 ≤ (ji7)
    ·rw [if_pos c8] at H
     have c8b0 := eq_true c8
     have c8b1 : decide (0 ≤ (ji7)) = true := decide_eq_true c8
     clear c8
     by_cases c9 : (ji7 : Int).toNat ≤ 8796093022208
     ·rw [if_pos c9] at H
      have c9b0 := eq_true c9
      have c9b1 : decide ((ji7 : Int).toNat ≤ 8796093022208) = true := decide_eq_true c9
      clear c9
      obtain ⟨y125, hy125⟩ : ∃ y_ : List (S55), y_ = (List.replicate (ji7 : Int).toNat z55) := ⟨_, rfl⟩
      replace H : (laws_toTermSW.l0 kj2 l0 y125 0) = some r := by first | (rw [hy125]; with_reducible exact H) | (have H2_ := (Option.bind_some _ _).symm.trans H; rw [hy125]; with_reducible exact H2_) | (have H2_ := (Option.bind_some _ _).symm.trans H; with_reducible exact H2_) | with_reducible exact H | (rw [hy125]; exact H) | exact H
      have Ny125 := Aside0.mk hy125
      clear hy125
      have H' := Aside0.mk H
      clear H
      go_wp2_with (first | ((with_reducible refine gate_callee (f := 25) rfl ?_); refine goesL_ (some 18) rfl rfl Tryz.func25 kf rfl #[.int .i64 (l0.length : Int)] rfl sm ?_; (with_reducible refine (laws_roomBehind.calls (l0.length : Int) t124 _ A6.out).mono ?_); rintro e w' ⟨rfl, ⟨nd, rfl⟩⟩; refine ⟨_, rfl, ?_⟩) | ((with_reducible refine gate_dst (N := 20) rfl ?_); (try (refine gate_guard (by rfl) ?_; dsimp only)); refine Kd.R_make k55 _ 55 rfl (N := 20) rfl 34 _ _ rfl ji7 rfl rfl Tryz.underlying34 (.agg #[(.int .i64 0), (.int .i64 0), (.int .i64 0), (.int .i64 0)]) 32 info55 rfl (by decide) (by omega) z55 (ok := fun _ => True) (okp := fun _ => True) (k55_mkM _ _ _ z55 ) (fun _ hk => hk) trivial (of_decide_eq_true am) (Nat.le_trans (Nat.mul_le_mul_right _ (of_decide_eq_true am : ji7.toNat ≤ 8796093022208)) (by omega)) (Below.refl _ _) (Nat.le_refl _) ?_; intro v126 w10 ho11 hb hg_ hnew_; clear hg_ hnew_; (first | rw [← Ny125.out] at ho11 | (simp only [Int.reduceToNat] at ho11; rw [← Ny125.out] at ho11)); have n0_ := Aside0.mk (Kd.R_lower ho11 (below_size bz)); have n1_ := Aside0.mk (below_step bz hb); clear HB; have HO127 := n0_; have HB := n1_; clear n0_ n1_; clear hb ho11))
      go_loopg [6] kj2 (fun kq v6 w' => ∃ (x5_2 : List (S55)) (x6_2 : Int), v6 = .int .i64 x6_2 ∧ Aside0 (laws_toTermSW.l0 kq l0 x5_2 x6_2 = some r) ∧ Aside0 (kq ≤ kj2) ∧ Aside0 (Kd.R k55 55 w' w.heap.size (fun _ => True) v126 x5_2) ∧ Aside0 (Below w.heap.size w w'))
      case atStart => exact ⟨(y125), (0), sr, H', ⟨Nat.le_refl _⟩, ⟨kr HO127⟩, ⟨bz⟩⟩
      case round =>
       clear H'
       try clear c2; try clear p2; try clear c4; try clear c5; try clear p6; try clear c8; try clear c8b0; try clear c8b1; try clear c9; try clear c9b0; try clear c9b1; try clear p2
       obtain ⟨x5_2, x6_2, rfl, HA, HK2, HO_5, HB⟩ := hrel
       cases gk with
       | zero => exact absurd HA.out (by simp [laws_toTermSW.l0])
       | succ k2 =>
        have H := HA.out
        clear HA
        simp only [laws_toTermSW.l0] at H
        by_cases c12 : x6_2 < (l0.length : Int)
        ·rw [if_pos c12] at H
         have c12b0 : decide (x6_2 < (l0.length : Int)) = true := decide_eq_true c12
         clear c12
         by_cases c13 : 0 ≤ x6_2
         ·rw [if_pos c13] at H
          have c13b0 : decide (0 ≤ x6_2) = true := decide_eq_true c13
          clear c13
          obtain ⟨⟨t129, t130, t131, t132⟩, A14, H⟩ := bi H
          try dsimp only at H
          by_cases c15 : x6_2 < (x5_2.length : Int)
          ·rw [if_pos c15] at H
           have c15b0 : decide (x6_2 < (x5_2.length : Int)) = true := decide_eq_true c15
           clear c15
           obtain ⟨y133, hy133⟩ : ∃ y_ : List (S55), y_ = (x5_2.set (x6_2 : Int).toNat (⟨t129, t130, t131, t132⟩ : S55)) := ⟨_, rfl⟩
           replace H : (laws_toTermSW.l0 k2 l0 y133 (wrap64 (x6_2 + 1))) = some r := by first | (rw [hy133]; with_reducible exact H) | (have H2_ := (Option.bind_some _ _).symm.trans H; rw [hy133]; with_reducible exact H2_) | (have H2_ := (Option.bind_some _ _).symm.trans H; with_reducible exact H2_) | with_reducible exact H | (rw [hy133]; exact H) | exact H
           have Ny133 := Aside0.mk hy133
           clear hy133
           have H' := Aside0.mk H
           clear H
           have p128 : 0 ≤ (x6_2 : Int) := of_decide_eq_true am
           have q128 : x6_2 < (l0.length : Int) := of_decide_eq_true am
           obtain ⟨ad128, e128, hx128_0, hx128_1, hx128_2, hx128_3⟩ := at_T57 HR0.out x6_2 p128 q128
           cases e128
           replace hx128_0 := (HB.out.cell (World.block_lt_of_cell? w _ hx128_0)).trans hx128_0
           replace hx128_1 := (HB.out.cell (World.block_lt_of_cell? w _ hx128_1)).trans hx128_1
           replace hx128_2 := (HB.out.cell (World.block_lt_of_cell? w _ hx128_2)).trans hx128_2
           replace hx128_3 := (HB.out.cell (World.block_lt_of_cell? w _ hx128_3)).trans hx128_3
           replace p128 := eq_true p128
           replace q128 := eq_true q128
           go_wp2_with (first | ((with_reducible refine gate_callee (f := 26) rfl ?_); refine goesL_ (some 33) rfl rfl Tryz.func26 kf rfl #[.agg #[.int .i64 ((rd_T57 l0 x6_2).f0), .int .i64 ((rd_T57 l0 x6_2).f1), .int .i64 ((rd_T57 l0 x6_2).f2), .int .i64 ((rd_T57 l0 x6_2).f3)]] rfl sm ?_; (with_reducible refine (laws_toTerm.calls ((rd_T57 l0 x6_2).f0) ((rd_T57 l0 x6_2).f1) ((rd_T57 l0 x6_2).f2) ((rd_T57 l0 x6_2).f3) t129 t130 t131 t132 _ A14.out).mono ?_); rintro e w17 ⟨rfl, hb⟩; refine ⟨_, rfl, ?_⟩; have n0_ := Aside0.mk (Kd.R_below (kr HO_5) hb); have n1_ := Aside0.mk (below_step bz hb); clear HO_5; clear HB; have HO_5 := n0_; have HB := n1_; clear n0_ n1_; (try clear hb); (try clear hb2); (try clear hk); (try clear hi); have p16 : 0 ≤ (x6_2 : Int) := of_decide_eq_true am; have q16 : (x6_2 : Int) < ((x5_2.length : Int) : Int) := of_decide_eq_true am; obtain ⟨go16, co16, eo16, gb16, gl16, cl16, HG16⟩ := Kd.R_form HO_5.out (by omega); (first | cases eo16 | (injection eo16 with ea_ en_ ec_; (first | subst ea_ | (injection ea_ with ea_; subst ea_)); subst ec_; clear en_)); have GB16 := Aside0.mk gb16; have GG16 := Aside0.mk HG16; clear gb16 gl16 HG16; obtain ⟨ce16, hcl16, hM16, hcc16, hfr16⟩ := Kd.R_elem HO_5.out z55 (x6_2 : Int) p16 q16; obtain rfl := k55_openM hM16; have hx16_0 : w17.cell? ⟨go16, (x6_2 : Int).toNat * 4, none⟩ = some (.int .i64 ((rd_T55 x5_2 x6_2).f0)) := hcc16 0 _ rfl; have hx16_1 : w17.cell? ⟨go16, (x6_2 : Int).toNat * 4 + 1, none⟩ = some (.int .i64 ((rd_T55 x5_2 x6_2).f1)) := hcc16 1 _ rfl; have hx16_2 : w17.cell? ⟨go16, (x6_2 : Int).toNat * 4 + 2, none⟩ = some (.int .i64 ((rd_T55 x5_2 x6_2).f2)) := hcc16 2 _ rfl; have hx16_3 : w17.cell? ⟨go16, (x6_2 : Int).toNat * 4 + 3, none⟩ = some (.int .i64 ((rd_T55 x5_2 x6_2).f3)) := hcc16 3 _ rfl; have hf16_0 : w17.frozen? ⟨go16, (x6_2 : Int).toNat * 4, none⟩ = false := hfr16 0; have hf16_1 : w17.frozen? ⟨go16, (x6_2 : Int).toNat * 4 + 1, none⟩ = false := hfr16 1; have hf16_2 : w17.frozen? ⟨go16, (x6_2 : Int).toNat * 4 + 2, none⟩ = false := hfr16 2; have hf16_3 : w17.frozen? ⟨go16, (x6_2 : Int).toNat * 4 + 3, none⟩ = false := hfr16 3; clear hcl16 hcc16 hfr16; (try clear hM16); replace p16 := eq_true p16; replace q16 := eq_true q16; have HX18 := Aside0.mk (show Kd.R k55 55 w17 w.heap.size (fun _ => True) (.slice (some ⟨go16, 0, none⟩) x5_2.length co16) x5_2 from (kr HO_5)); obtain ⟨ce18, hcl18, hM18, hcc18, hfr18⟩ := Kd.R_elem HX18.out z55 (x6_2 : Int) (of_decide_eq_true am) (by have h_ : (x6_2 : Int) < ((x5_2.length : Int) : Int) := of_decide_eq_true am; first | exact h_ | (have e_ := (Kd.R_reads' HO_5.out).1; omega) | simpa using h_); obtain rfl := k55_openM hM18; have HP18 := Kd.R_seg HX18.out (x6_2 : Int) (of_decide_eq_true am) (by have h_ : (x6_2 : Int) < ((x5_2.length : Int) : Int) := of_decide_eq_true am; first | exact h_ | (have e_ := (Kd.R_reads' HO_5.out).1; omega) | simpa using h_) (seg := [.int .i64 t129, .int .i64 t130, .int .i64 t131, .int .i64 t132]) (j := 0) hcl18 hcc18 (show 4 ≤ 4 from by decide) (x' := (⟨t129, t130, t131, t132⟩ : S55)) (k55_mkM _ _ _ (⟨t129, t130, t131, t132⟩ : S55) ) (fun _ hk => hk); have hx18_0 := hcc18 0 _ rfl; (try simp only [show (k55).sz = 4 from rfl, Nat.mul_one, Nat.add_zero] at hx18_0); have hf18_0 := hfr18 0; (try simp only [show (k55).sz = 4 from rfl, Nat.mul_one, Nat.add_zero] at hf18_0); have hx18_1 := hcc18 1 _ rfl; (try simp only [show (k55).sz = 4 from rfl, Nat.mul_one, Nat.add_zero] at hx18_1); have hf18_1 := hfr18 1; (try simp only [show (k55).sz = 4 from rfl, Nat.mul_one, Nat.add_zero] at hf18_1); have hx18_2 := hcc18 2 _ rfl; (try simp only [show (k55).sz = 4 from rfl, Nat.mul_one, Nat.add_zero] at hx18_2); have hf18_2 := hfr18 2; (try simp only [show (k55).sz = 4 from rfl, Nat.mul_one, Nat.add_zero] at hf18_2); have hx18_3 := hcc18 3 _ rfl; (try simp only [show (k55).sz = 4 from rfl, Nat.mul_one, Nat.add_zero] at hx18_3); have hf18_3 := hfr18 3; (try simp only [show (k55).sz = 4 from rfl, Nat.mul_one, Nat.add_zero] at hf18_3); clear hcl18 hcc18 hfr18 hM18) | ((with_reducible refine gate_store (t := 55) (p := 34) rfl ?_); refine store_event (t := 55) (p := 34) (v := ?vo_w19) (w1 := ((((w17.setCell ⟨go16, (x6_2 : Int).toNat * 4, none⟩ (.int .i64 t129)).setCell ⟨go16, (x6_2 : Int).toNat * 4 + 1, none⟩ (.int .i64 t130)).setCell ⟨go16, (x6_2 : Int).toNat * 4 + 2, none⟩ (.int .i64 t131)).setCell ⟨go16, (x6_2 : Int).toNat * 4 + 3, none⟩ (.int .i64 t132))) ?hg ?ho ?hn ?hr ?_; (case ho => rfl); (case hg => rfl); (case hn => rfl); (case hr => first | (go_simp; done) | (go_simp; rfl)); intro w19 hw; have hg : w17.grownBy w19 (some go16) := (by rw [hw]; exact HP18.2); have hp_ : Kd.R k55 55 w19 w.heap.size (fun _ => True) (.slice (some ⟨go16, 0, none⟩) x5_2.length co16) y133 := (by rw [hw, Ny133.out]; exact HP18.1); clear HP18; have n0_ := Aside0.mk (hp_); have n1_ := Aside0.mk ((by rw [hw]; exact below_set (below_set (below_set (below_set (HB.out) GB16.out) GB16.out) GB16.out) GB16.out : Below w.heap.size w w19)); clear HO_5; clear HB; have HO_5 := n0_; have HB := n1_; clear n0_ n1_; clear hg hw hp_))
           go_roundg k2
           case measure => have := HJ2.out; have := HK2.out; omega
           case rel => exact ⟨(y133), (wrap64 (x6_2 + 1)), sr, H', ⟨by have := HJ2.out; have := HK2.out; omega⟩, ⟨kr HO_5⟩, ⟨bz⟩⟩
          ·rw [if_neg c15] at H
           exact absurd H (by simp)
         ·rw [if_neg c13] at H
          exact absurd H (by simp)
        ·rw [if_neg c12] at H
         have c12b0 : decide (x6_2 < (l0.length : Int)) = false := decide_eq_false c12
         clear c12
         have H' := Aside0.mk H
         clear H
         go_wp2
         go_loopg [7] k2 (fun kq v7 w' => ∃ (x5_3 : List (S55)) (x7_3 : Int), v7 = .int .i64 x7_3 ∧ Aside0 (laws_toTermSW.l1 kq l0 x5_3 x7_3 = some r) ∧ Aside0 (kq ≤ k2) ∧ Aside0 (Kd.R k55 55 w' w.heap.size (fun _ => True) v126 x5_3) ∧ Aside0 (Below w.heap.size w w'))
         case atStart => exact ⟨(x5_2), ((l0.length : Int)), sr, H', ⟨Nat.le_refl _⟩, ⟨kr HO_5⟩, ⟨bz⟩⟩
         case round =>
          clear H'
          try clear c1; try clear p1; try clear q1; try clear hx1; try clear c2; try clear p2; try clear c4; try clear c5; try clear p6; try clear c8; try clear c8b0; try clear c8b1; try clear c9; try clear c9b0; try clear c9b1; try clear c12; try clear c12b0; try clear p12; try clear q12; try clear hx12; try clear c13; try clear c13b0; try clear c15; try clear c15b0; try clear c16; try clear p16; try clear q16; try clear hx16; try clear hf16; try clear c18; try clear hx18; try clear hf18; try clear hx128_0; try clear hx128_1; try clear hx128_2; try clear hx128_3; try clear hx16_0; try clear hx16_1; try clear hx16_2; try clear hx16_3; try clear hx18_0; try clear hx18_1; try clear hx18_2; try clear hx18_3; try clear p128; try clear p16; try clear p2; try clear p6; try clear q128; try clear q16
          obtain ⟨x5_3, x7_3, rfl, HA, HK3, HO_5, HB⟩ := hrel
          cases gk with
          | zero => exact absurd HA.out (by simp [laws_toTermSW.l1])
          | succ k3 =>
           have H := HA.out
           clear HA
           simp only [laws_toTermSW.l1] at H
           by_cases c20 : x7_3 < (x5_3.length : Int)
           ·rw [if_pos c20] at H
            have c20b0 : decide (x7_3 < (x5_3.length : Int)) = true := decide_eq_true c20
            clear c20
            obtain ⟨⟨t134, t135, t136, t137⟩, A21, H⟩ := bi H
            try dsimp only at H
            by_cases c22 : 0 ≤ x7_3
            ·rw [if_pos c22] at H
             have c22b0 : decide (0 ≤ x7_3) = true := decide_eq_true c22
             clear c22
             obtain ⟨y138, hy138⟩ : ∃ y_ : List (S55), y_ = (x5_3.set (x7_3 : Int).toNat (⟨t134, t135, t136, t137⟩ : S55)) := ⟨_, rfl⟩
             replace H : (laws_toTermSW.l1 k3 l0 y138 (wrap64 (x7_3 + 1))) = some r := by first | (rw [hy138]; with_reducible exact H) | (have H2_ := (Option.bind_some _ _).symm.trans H; rw [hy138]; with_reducible exact H2_) | (have H2_ := (Option.bind_some _ _).symm.trans H; with_reducible exact H2_) | with_reducible exact H | (rw [hy138]; exact H) | exact H
             have Ny138 := Aside0.mk hy138
             clear hy138
             have H' := Aside0.mk H
             clear H
             obtain ⟨Ao24, co24, eo24⟩ := Kd.R_slice HO_5.out
             subst eo24
             go_wp2_with (first | ((with_reducible refine gate_callee (f := 27) rfl ?_); refine goesL_ (some 45) rfl rfl Tryz.func27 kf rfl #[] rfl sm ?_; (with_reducible refine (laws_fillerTerm.calls  t134 t135 t136 t137 _ A21.out).mono ?_); rintro e w25 ⟨rfl, hb⟩; refine ⟨_, rfl, ?_⟩; have n0_ := Aside0.mk (Kd.R_below (kr HO_5) hb); have n1_ := Aside0.mk (below_step bz hb); clear HO_5; clear HB; have HO_5 := n0_; have HB := n1_; clear n0_ n1_; (try clear hb); (try clear hb2); (try clear hk); (try clear hi); have p23 : 0 ≤ (x7_3 : Int) := of_decide_eq_true am; have q23 : (x7_3 : Int) < ((x5_3.length : Int) : Int) := of_decide_eq_true am; obtain ⟨go23, co23, eo23, gb23, gl23, cl23, HG23⟩ := Kd.R_form HO_5.out (by omega); (first | cases eo23 | (injection eo23 with ea_ en_ ec_; (first | subst ea_ | (injection ea_ with ea_; subst ea_)); subst ec_; clear en_)); have GB23 := Aside0.mk gb23; have GG23 := Aside0.mk HG23; clear gb23 gl23 HG23; obtain ⟨ce23, hcl23, hM23, hcc23, hfr23⟩ := Kd.R_elem HO_5.out z55 (x7_3 : Int) p23 q23; obtain rfl := k55_openM hM23; have hx23_0 : w25.cell? ⟨go23, (x7_3 : Int).toNat * 4, none⟩ = some (.int .i64 ((rd_T55 x5_3 x7_3).f0)) := hcc23 0 _ rfl; have hx23_1 : w25.cell? ⟨go23, (x7_3 : Int).toNat * 4 + 1, none⟩ = some (.int .i64 ((rd_T55 x5_3 x7_3).f1)) := hcc23 1 _ rfl; have hx23_2 : w25.cell? ⟨go23, (x7_3 : Int).toNat * 4 + 2, none⟩ = some (.int .i64 ((rd_T55 x5_3 x7_3).f2)) := hcc23 2 _ rfl; have hx23_3 : w25.cell? ⟨go23, (x7_3 : Int).toNat * 4 + 3, none⟩ = some (.int .i64 ((rd_T55 x5_3 x7_3).f3)) := hcc23 3 _ rfl; have hf23_0 : w25.frozen? ⟨go23, (x7_3 : Int).toNat * 4, none⟩ = false := hfr23 0; have hf23_1 : w25.frozen? ⟨go23, (x7_3 : Int).toNat * 4 + 1, none⟩ = false := hfr23 1; have hf23_2 : w25.frozen? ⟨go23, (x7_3 : Int).toNat * 4 + 2, none⟩ = false := hfr23 2; have hf23_3 : w25.frozen? ⟨go23, (x7_3 : Int).toNat * 4 + 3, none⟩ = false := hfr23 3; clear hcl23 hcc23 hfr23; (try clear hM23); replace p23 := eq_true p23; replace q23 := eq_true q23; have HX26 := Aside0.mk (show Kd.R k55 55 w25 w.heap.size (fun _ => True) (.slice (some ⟨go23, 0, none⟩) x5_3.length co24) x5_3 from (kr HO_5)); obtain ⟨ce26, hcl26, hM26, hcc26, hfr26⟩ := Kd.R_elem HX26.out z55 (x7_3 : Int) (of_decide_eq_true am) (by have h_ : (x7_3 : Int) < ((x5_3.length : Int) : Int) := of_decide_eq_true am; first | exact h_ | (have e_ := (Kd.R_reads' HO_5.out).1; omega) | simpa using h_); obtain rfl := k55_openM hM26; have HP26 := Kd.R_seg HX26.out (x7_3 : Int) (of_decide_eq_true am) (by have h_ : (x7_3 : Int) < ((x5_3.length : Int) : Int) := of_decide_eq_true am; first | exact h_ | (have e_ := (Kd.R_reads' HO_5.out).1; omega) | simpa using h_) (seg := [.int .i64 t134, .int .i64 t135, .int .i64 t136, .int .i64 t137]) (j := 0) hcl26 hcc26 (show 4 ≤ 4 from by decide) (x' := (⟨t134, t135, t136, t137⟩ : S55)) (k55_mkM _ _ _ (⟨t134, t135, t136, t137⟩ : S55) ) (fun _ hk => hk); have hx26_0 := hcc26 0 _ rfl; (try simp only [show (k55).sz = 4 from rfl, Nat.mul_one, Nat.add_zero] at hx26_0); have hf26_0 := hfr26 0; (try simp only [show (k55).sz = 4 from rfl, Nat.mul_one, Nat.add_zero] at hf26_0); have hx26_1 := hcc26 1 _ rfl; (try simp only [show (k55).sz = 4 from rfl, Nat.mul_one, Nat.add_zero] at hx26_1); have hf26_1 := hfr26 1; (try simp only [show (k55).sz = 4 from rfl, Nat.mul_one, Nat.add_zero] at hf26_1); have hx26_2 := hcc26 2 _ rfl; (try simp only [show (k55).sz = 4 from rfl, Nat.mul_one, Nat.add_zero] at hx26_2); have hf26_2 := hfr26 2; (try simp only [show (k55).sz = 4 from rfl, Nat.mul_one, Nat.add_zero] at hf26_2); have hx26_3 := hcc26 3 _ rfl; (try simp only [show (k55).sz = 4 from rfl, Nat.mul_one, Nat.add_zero] at hx26_3); have hf26_3 := hfr26 3; (try simp only [show (k55).sz = 4 from rfl, Nat.mul_one, Nat.add_zero] at hf26_3); clear hcl26 hcc26 hfr26 hM26) | ((with_reducible refine gate_store (t := 55) (p := 46) rfl ?_); refine store_event (t := 55) (p := 46) (v := ?vo_w27) (w1 := ((((w25.setCell ⟨go23, (x7_3 : Int).toNat * 4, none⟩ (.int .i64 t134)).setCell ⟨go23, (x7_3 : Int).toNat * 4 + 1, none⟩ (.int .i64 t135)).setCell ⟨go23, (x7_3 : Int).toNat * 4 + 2, none⟩ (.int .i64 t136)).setCell ⟨go23, (x7_3 : Int).toNat * 4 + 3, none⟩ (.int .i64 t137))) ?hg ?ho ?hn ?hr ?_; (case ho => rfl); (case hg => rfl); (case hn => rfl); (case hr => first | (go_simp; done) | (go_simp; rfl)); intro w27 hw; have hg : w25.grownBy w27 (some go23) := (by rw [hw]; exact HP26.2); have hp_ : Kd.R k55 55 w27 w.heap.size (fun _ => True) (.slice (some ⟨go23, 0, none⟩) x5_3.length co24) y138 := (by rw [hw, Ny138.out]; exact HP26.1); clear HP26; have n0_ := Aside0.mk (hp_); have n1_ := Aside0.mk ((by rw [hw]; exact below_set (below_set (below_set (below_set (HB.out) GB23.out) GB23.out) GB23.out) GB23.out : Below w.heap.size w w27)); clear HO_5; clear HB; have HO_5 := n0_; have HB := n1_; clear n0_ n1_; clear hg hw hp_))
             go_roundg k3
             case measure => have := HJ2.out; have := HK2.out; have := HK3.out; omega
             case rel => exact ⟨(y138), (wrap64 (x7_3 + 1)), sr, H', ⟨by have := HJ2.out; have := HK2.out; have := HK3.out; omega⟩, ⟨kr HO_5⟩, ⟨bz⟩⟩
            ·rw [if_neg c22] at H
             exact absurd H (by simp)
           ·rw [if_neg c20] at H
            have c20b0 : decide (x7_3 < (x5_3.length : Int)) = false := decide_eq_false c20
            clear c20
            by_cases c28 : 0 ≤ (l0.length : Int)
            ·rw [if_pos c28] at H
             have c28b0 := eq_true c28
             have c28b1 : decide (0 ≤ (l0.length : Int)) = true := decide_eq_true c28
             clear c28
             by_cases c29 : (l0.length : Int) ≤ (x5_3.length : Int)
             ·rw [if_pos c29] at H
              have c29b0 := eq_true c29
              have c29b1 : decide ((l0.length : Int) ≤ (x5_3.length : Int)) = true := decide_eq_true c29
              clear c29
              obtain ⟨y139, hy139⟩ : ∃ y_ : List (S55), y_ = (x5_3.take ((l0.length : Int) : Int).toNat) := ⟨_, rfl⟩
              have Ny139 := Aside0.mk hy139
              clear hy139
              have HR_ := Aside0.mk (Option.some.inj H)
              obtain ⟨Ao30, co30, eo30⟩ := Kd.R_slice HO_5.out
              subst eo30
              have q31 : ((l0.length : Int) : Int) ≤ ((x5_3.length : Int) : Int) := of_decide_eq_true am
              obtain ⟨i031, hi031, _, hsz31, _⟩ := info_parts info55
              have hcut31 := cut_to (P := Tryz.prog) 34 55 .i64 Tryz.underlying34 hi031 Ao30 x5_3.length co30 (l0.length : Int) (of_decide_eq_true am) q31 (Kd.R_reads' HO_5.out).2.1
              have hr31 := Kd.R_take (m := ((l0.length : Int) : Int).toNat) HO_5.out (by omega)
              have hy31 : y139.length = ((l0.length : Int) : Int).toNat := (by rw [Ny139.out, List.length_take]; omega)
              rw [← Ny139.out] at hr31
              rw [← hy31] at hr31 hcut31
              have HY_ : Aside0 (y139.length = l0.length) := ⟨by rw [hy31]; simp⟩
              clear hy31 hi031 hsz31
              have HO141 := Aside0.mk hr31
              clear hr31
              replace q31 := eq_true q31
              go_wp2
              go_ret
              exact ⟨Ao30, co30, by first | rfl | (rw [HY_.out]; done) | (simp [HY_.out]; done), by rw [← HR_.out]; (with_reducible repeat (first | apply Kd.R_alloc | apply Kd.R_drewN | apply Kd.R_drew)); first | exact HO_5.out | exact Kd.R_mono HO_5.out (fun _ _ => trivial), bz⟩
             ·rw [if_neg c29] at H
              exact absurd H (by simp)
            ·rw [if_neg c28] at H
             exact absurd H (by simp)
     ·rw [if_neg c9] at H
      exact absurd H (by simp)
    ·rw [if_neg c8] at H
     exact absurd H (by simp)
def cvTermS (x : S57) : S55 := ⟨x.f0, x.f1, x.f2, x.f3⟩
def fillTermS : S55 := ⟨-7000000000000000101, -7000000000000000101, -7000000000000000101, -7000000000000000101⟩
def padTermS (l : List S57) : List S55 := l.map cvTermS ++ List.replicate (room l.length) fillTermS
theorem padTermS_length (l : List S57) : (padTermS l).length = l.length + room l.length := by simp [padTermS]
theorem set_fillTermS (Q : List S55) (F i : Nat) (h : i < Q.length) (hF : Q.length ≤ F) : (Q.take i ++ List.replicate (F - i) z55).set i Q[i] = Q.take (i + 1) ++ List.replicate (F - (i + 1)) z55 := by
 have h1 : F - i = (F - (i + 1)) + 1 := by omega
 rw [h1, List.replicate_succ, List.set_append_right _ _ (by simp; omega)]
 have h2 : i - (Q.take i).length = 0 := by simp; omega
 rw [h2, List.set_cons_zero, List.take_succ_eq_append_getElem h, List.append_assoc]
 rfl
theorem set_fill2TermS (Q : List S55) (F i : Nat) (h : Q.length ≤ i) (hF : i < F) : (Q ++ (List.replicate (i - Q.length) fillTermS ++ List.replicate (F - i) z55)).set i fillTermS = Q ++ (List.replicate (i + 1 - Q.length) fillTermS ++ List.replicate (F - (i + 1)) z55) := by
 have h1 : F - i = (F - (i + 1)) + 1 := by omega
 rw [List.set_append_right _ _ h, List.set_append_right _ _ (by simp), h1, List.replicate_succ]
 have h2 : i - Q.length - (List.replicate (i - Q.length) fillTermS).length = 0 := by simp
 rw [h2, List.set_cons_zero]
 have h3 : i + 1 - Q.length = (i - Q.length) + 1 := by omega
 rw [h3, List.replicate_succ', List.append_assoc]
 rfl
theorem laws_toTermS_l1 (l : List S57) (F : Nat) (hF : F ≤ 3000000) (hlF : l.length ≤ F) (d : Nat) : ∀ (k i : Nat), l.length ≤ i → i ≤ F → F - i = d → d < k → laws_toTermS.l1 k l (l.map cvTermS ++ (List.replicate (i - l.length) fillTermS ++ List.replicate (F - i) z55)) (i : Int) = some (l.map cvTermS) := by
 induction d with
 | zero =>
  intro k i h0 h1 hd hk
  obtain ⟨k, rfl⟩ : ∃ m, k = m + 1 := ⟨k - 1, by omega⟩
  have e : i = F := by omega
  subst e
  simp only [laws_toTermS.l1]; rw [if_neg (by simp only [List.length_append, List.length_replicate, List.length_map]; omega), if_pos (by omega), if_pos (by simp only [List.length_append, List.length_replicate, List.length_map]; omega)]
  simp
 | succ d ih =>
  intro k i h0 h1 hd hk
  obtain ⟨k, rfl⟩ : ∃ m, k = m + 1 := ⟨k - 1, by omega⟩
  have hs := set_fill2TermS (l.map cvTermS) F i (by simpa using h0) (by omega)
  simp only [List.length_map] at hs
  simp only [laws_toTermS.l1]; rw [if_pos (by simp only [List.length_append, List.length_replicate, List.length_map]; omega), show laws_fillerTerm.f = some ((-7000000000000000101), (-7000000000000000101), (-7000000000000000101), (-7000000000000000101)) from rfl, Option.bind_some, if_pos (by omega), show wrap64 ((i : Int) + 1) = ((i + 1 : Nat) : Int) by unfold wrap64; omega, Int.toNat_natCast]
  change laws_toTermS.l1 k l ((l.map cvTermS ++ (List.replicate (i - l.length) fillTermS ++ List.replicate (F - i) z55)).set i fillTermS) _ = _
  rw [hs]
  exact ih k (i + 1) (by omega) (by omega) (by omega) (by omega)
theorem laws_toTermS_l0 (l : List S57) (F : Nat) (hF : F ≤ 3000000) (hlF : l.length ≤ F) (d : Nat) : ∀ (k i : Nat), i ≤ l.length → l.length - i = d → d + F + 2 < k → laws_toTermS.l0 k l ((l.map cvTermS).take i ++ List.replicate (F - i) z55) (i : Int) = some (l.map cvTermS) := by
 induction d with
 | zero =>
  intro k i h1 hd hk
  obtain ⟨k, rfl⟩ : ∃ m, k = m + 1 := ⟨k - 1, by omega⟩
  have e : i = l.length := by omega
  subst e
  simp only [laws_toTermS.l0]; rw [if_neg (by omega)]
  have h := laws_toTermS_l1 l F hF hlF (F - l.length) k l.length (Nat.le_refl _) hlF rfl (by omega)
  simp only [Nat.sub_self, List.replicate_zero, List.nil_append] at h
  rw [List.take_of_length_le (by simp)]
  exact h
 | succ d ih =>
  intro k i h1 hd hk
  obtain ⟨k, rfl⟩ : ∃ m, k = m + 1 := ⟨k - 1, by omega⟩
  have hi : i < l.length := by omega
  have hs := set_fillTermS (l.map cvTermS) F i (by simpa using hi) (by simpa using hlF)
  have hr : rd_T57 l (i : Int) = l[i] := by simp [rd_T57, hi]
  simp only [laws_toTermS.l0]; rw [if_pos (by omega), if_pos (by omega), hr, show laws_toTerm.f l[i].f0 l[i].f1 l[i].f2 l[i].f3 = some (l[i].f0, l[i].f1, l[i].f2, l[i].f3) from rfl, Option.bind_some, if_pos (by simp only [List.length_append, List.length_take, List.length_replicate, List.length_map]; omega), show wrap64 ((i : Int) + 1) = ((i + 1 : Nat) : Int) by unfold wrap64; omega, Int.toNat_natCast]
  have hc : (⟨l[i].f0, l[i].f1, l[i].f2, l[i].f3⟩ : S55) = (l.map cvTermS)[i]'(by simpa using hi) := by simp [cvTermS]
  change laws_toTermS.l0 k l (((l.map cvTermS).take i ++ List.replicate (F - i) z55).set i (⟨l[i].f0, l[i].f1, l[i].f2, l[i].f3⟩ : S55)) _ = _
  rw [hc, hs]
  exact ih k (i + 1) (by omega) (by omega) (by omega)
theorem laws_toTermS_j0 (l : List S57) (hn : l.length ≤ 1000000) (F : Nat) (hF : l.length + room l.length = F) (k : Nat) (hk : l.length + F + 2 < k) : laws_toTermS.j0 (k + 1) l false = some (l.map cvTermS) := by
 have hr := room_le l.length
 have hw : wrap64 ((l.length : Int) + (room l.length : Int)) = (F : Int) := by unfold wrap64; omega
 have h := laws_toTermS_l0 l F (by omega) (by omega) l.length k 0 (by omega) (by omega) hk
 simp only [laws_toTermS.j0]
 rw [if_neg (by decide), roomBehind_eq, Option.bind_some, hw, if_pos (by omega), Int.toNat_natCast, if_pos (by omega)]
 simpa using h
theorem laws_toTermSW_l1 (l : List S57) (F : Nat) (hF : F ≤ 3000000) (hlF : l.length ≤ F) (d : Nat) : ∀ (k i : Nat), l.length ≤ i → i ≤ F → F - i = d → d < k → laws_toTermSW.l1 k l (l.map cvTermS ++ (List.replicate (i - l.length) fillTermS ++ List.replicate (F - i) z55)) (i : Int) = some (l.map cvTermS ++ List.replicate (F - l.length) fillTermS) := by
 induction d with
 | zero =>
  intro k i h0 h1 hd hk
  obtain ⟨k, rfl⟩ : ∃ m, k = m + 1 := ⟨k - 1, by omega⟩
  have e : i = F := by omega
  subst e
  simp only [laws_toTermSW.l1]; rw [if_neg (by simp only [List.length_append, List.length_replicate, List.length_map]; omega), if_pos (by omega), if_pos (by simp only [List.length_append, List.length_replicate, List.length_map]; omega)]
  simp
 | succ d ih =>
  intro k i h0 h1 hd hk
  obtain ⟨k, rfl⟩ : ∃ m, k = m + 1 := ⟨k - 1, by omega⟩
  have hs := set_fill2TermS (l.map cvTermS) F i (by simpa using h0) (by omega)
  simp only [List.length_map] at hs
  simp only [laws_toTermSW.l1]; rw [if_pos (by simp only [List.length_append, List.length_replicate, List.length_map]; omega), show laws_fillerTerm.f = some ((-7000000000000000101), (-7000000000000000101), (-7000000000000000101), (-7000000000000000101)) from rfl, Option.bind_some, if_pos (by omega), show wrap64 ((i : Int) + 1) = ((i + 1 : Nat) : Int) by unfold wrap64; omega, Int.toNat_natCast]
  change laws_toTermSW.l1 k l ((l.map cvTermS ++ (List.replicate (i - l.length) fillTermS ++ List.replicate (F - i) z55)).set i fillTermS) _ = _
  rw [hs]
  exact ih k (i + 1) (by omega) (by omega) (by omega) (by omega)
theorem laws_toTermSW_l0 (l : List S57) (F : Nat) (hF : F ≤ 3000000) (hlF : l.length ≤ F) (d : Nat) : ∀ (k i : Nat), i ≤ l.length → l.length - i = d → d + F + 2 < k → laws_toTermSW.l0 k l ((l.map cvTermS).take i ++ List.replicate (F - i) z55) (i : Int) = some (l.map cvTermS ++ List.replicate (F - l.length) fillTermS) := by
 induction d with
 | zero =>
  intro k i h1 hd hk
  obtain ⟨k, rfl⟩ : ∃ m, k = m + 1 := ⟨k - 1, by omega⟩
  have e : i = l.length := by omega
  subst e
  simp only [laws_toTermSW.l0]; rw [if_neg (by omega)]
  have h := laws_toTermSW_l1 l F hF hlF (F - l.length) k l.length (Nat.le_refl _) hlF rfl (by omega)
  simp only [Nat.sub_self, List.replicate_zero, List.nil_append] at h
  rw [List.take_of_length_le (by simp)]
  exact h
 | succ d ih =>
  intro k i h1 hd hk
  obtain ⟨k, rfl⟩ : ∃ m, k = m + 1 := ⟨k - 1, by omega⟩
  have hi : i < l.length := by omega
  have hs := set_fillTermS (l.map cvTermS) F i (by simpa using hi) (by simpa using hlF)
  have hr : rd_T57 l (i : Int) = l[i] := by simp [rd_T57, hi]
  simp only [laws_toTermSW.l0]; rw [if_pos (by omega), if_pos (by omega), hr, show laws_toTerm.f l[i].f0 l[i].f1 l[i].f2 l[i].f3 = some (l[i].f0, l[i].f1, l[i].f2, l[i].f3) from rfl, Option.bind_some, if_pos (by simp only [List.length_append, List.length_take, List.length_replicate, List.length_map]; omega), show wrap64 ((i : Int) + 1) = ((i + 1 : Nat) : Int) by unfold wrap64; omega, Int.toNat_natCast]
  have hc : (⟨l[i].f0, l[i].f1, l[i].f2, l[i].f3⟩ : S55) = (l.map cvTermS)[i]'(by simpa using hi) := by simp [cvTermS]
  change laws_toTermSW.l0 k l (((l.map cvTermS).take i ++ List.replicate (F - i) z55).set i (⟨l[i].f0, l[i].f1, l[i].f2, l[i].f3⟩ : S55)) _ = _
  rw [hc, hs]
  exact ih k (i + 1) (by omega) (by omega) (by omega)
theorem laws_toTermSW_j0 (l : List S57) (hn : l.length ≤ 1000000) (F : Nat) (hF : l.length + room l.length = F) (k : Nat) (hk : l.length + F + 2 < k) : laws_toTermSW.j0 (k + 1) l false = some (l.map cvTermS ++ List.replicate (F - l.length) fillTermS) := by
 have hr := room_le l.length
 have hw : wrap64 ((l.length : Int) + (room l.length : Int)) = (F : Int) := by unfold wrap64; omega
 have h := laws_toTermSW_l0 l F (by omega) (by omega) l.length k 0 (by omega) (by omega) hk
 simp only [laws_toTermSW.j0]
 rw [if_neg (by decide), roomBehind_eq, Option.bind_some, hw, if_pos (by omega), Int.toNat_natCast, if_pos (by omega)]
 simpa using h
theorem toTermS_whole (l : List S57) (hn : l.length ≤ 1000000) : ∃ k, laws_toTermSW.f k l false = some (padTermS l) := by
 refine ⟨(l.length + (l.length + room l.length) + 3) + 1, ?_⟩
 unfold laws_toTermSW.f
 rw [if_neg (by decide), laws_toTermSW_j0 l hn _ rfl _ (by omega)]
 unfold padTermS
 rw [show l.length + room l.length - l.length = room l.length by omega]
theorem toTermS_bare (l : List S57) (hn : l.length ≤ 1000000) : ∃ k, laws_toTermS.f k l true = some (l.map cvTermS) := by
 refine ⟨(l.length + (l.length + room l.length) + 3) + 1, ?_⟩
 unfold laws_toTermS.f
 rw [if_pos rfl]
 by_cases h : l = []
 ·subst h
  rfl
 ·have e : ((l.length : Int) == 0) = false := by
   have : 0 < l.length := List.length_pos_iff.2 h
   simp only [beq_eq_false_iff_ne]; omega
  rw [e]
  exact laws_toTermS_j0 l hn _ rfl _ (by omega)
theorem eqTerm_self (a0 : Int) (a1 : Int) (a2 : Int) (a3 : Int) : laws_eqTerm.f a0 a1 a2 a3 a0 a1 a2 a3 = some true := by unfold laws_eqTerm.f; simp
theorem eqTermS_loop (l : List S55) (hn : l.length ≤ 1000000000) (d : Nat) : ∀ (k : Nat) (i : Nat), i ≤ l.length → l.length - i = d → d < k → laws_eqTermS.l0 k l l (i : Int) = some true := by
 induction d with
 | zero =>
  intro k i h0 hd hk
  obtain ⟨k, rfl⟩ : ∃ m, k = m + 1 := ⟨k - 1, by omega⟩
  simp only [laws_eqTermS.l0]; rw [if_neg (by omega)]
 | succ d ih =>
  intro k i h0 hd hk
  obtain ⟨k, rfl⟩ : ∃ m, k = m + 1 := ⟨k - 1, by omega⟩
  simp only [laws_eqTermS.l0]; rw [if_pos (by omega), if_pos (by omega), if_pos (by omega), eqTerm_self, Option.bind_some, if_pos rfl, show wrap64 ((i : Int) + 1) = ((i + 1 : Nat) : Int) by unfold wrap64; omega]
  exact ih k (i + 1) (by omega) (by omega) (by omega)
theorem eqTermS_self (l : List S55) (hn : l.length ≤ 1000000000) : laws_eqTermS.f (l.length + 1) l l = some true := by
 unfold laws_eqTermS.f
 rw [if_pos rfl]
 exact eqTermS_loop l hn l.length (l.length + 1) 0 (by omega) (by omega) (by omega)
def laws_intactTermS.T2 : Bool × List (List Nat × List Nat) := (true, [([], []), ([0], [0]), ([], []), ([2], [2]), ([1, 3], [1, 3]), ([4], [4]), ([5], [5]), ([5], [5]), ([6, 7, 5], [5, 6, 7]), ([5], [5]), ([5], [5]), ([9, 10, 5], [5, 9, 10]), ([8, 11, 5, 5], [5, 8, 11]), ([5, 12], [5, 12]), ([13, 12, 0, 1, 2, 3, 4, 5, 6, 7, 8, 9, 10, 11, 12, 13], [13])])
def laws_intactTermS.B2 : List Nat := [0, 1, 0, 4, 15, 31, 63, 63, 255, 63, 63, 1599, 4095, 8191, 16383]
theorem laws_intactTermS.tab2 : rtab .any (opsOf Tryz.f12 2) = laws_intactTermS.T2 := by kernel_rfl
theorem laws_intactTermS.bits2 : waitsOk laws_intactTermS.T2.2 laws_intactTermS.B2 = true := by kernel_rfl
set_option maxHeartbeats 8000000 in
set_option maxRecDepth 100000 in
theorem laws_intactTermS.pad (k : Nat) (A0 A1 : Option Addr) (c0 c1 n : Nat) (p : List S55) (w : World) (hr0 : Kd.C k55 w A0 p.length p) (hc0 : p.length ≤ c0) (hr1 : Kd.C k55 w A1 p.length p) (hc1 : p.length ≤ c1) (hp : p.length = n + room n) (hn : n ≤ 1000000) (he : laws_eqTermS.f k p p = some true) :
 Calls Tryz.prog 12 #[.slice A0 n c0, .slice A1 n c1] w fun e w' => e = .returned (.bool true) ∧ Below w.heap.size w w' := by
 have hmb := room_le n
 have HR132 := Aside0.mk hr0
 have HC132 := Aside0.mk hc0
 have HR136 := Aside0.mk hr1
 have HC136 := Aside0.mk hc1
 have HB := Aside0.mk (Below.refl w.heap.size w)
 have A3 := Aside0.mk (roomBehind_eq n)
 have A10 := Aside0.mk he
 obtain ⟨ji5, hji5⟩ : ∃ j_ : Int, (wrap64 ((n : Int) + (room n : Int))) = j_ := ⟨_, rfl⟩
 have hje : ji5 = (p.length : Int) := by rw [← hji5, hp]; unfold wrap64; omega
 have hji5w : (IntKind.i64.wrap ((n : Int) + (room n : Int))) = ji5 := (i64_w _).trans hji5
 have c4b0 : ((n : Int) == (n : Int)) = true := by simp
 have c4b1 : ((n : Int) != (n : Int)) = false := by simp
 have c4b2 : (n == n) = true := by simp
 have c6b0 : (0 ≤ ji5) = True := eq_true (by omega)
 have c6b1 : decide (0 ≤ ji5) = true := decide_eq_true (by omega)
 obtain ⟨i0_, hi0_, _, hsz0_, _⟩ := info_parts info55
 have hcut12 := cut_room (P := Tryz.prog) 34 55 .i64 Tryz.underlying34 hi0_ A0 n c0 ji5 (by omega) (by omega)
 have hcut13 := cut_room (P := Tryz.prog) 34 55 .i64 Tryz.underlying34 hi0_ A1 n c1 ji5 (by omega) (by omega)
 rw [show ji5.toNat = p.length by omega] at hcut12 hcut13
 clear hmb hje hr0 hc0 hr1 hc1 he hp hi0_ hsz0_ hn
 go_enter Tryz.func12, Tryz.ntmps12
 try go_wp2_with (first | ((with_reducible refine gate_callee (f := 25) rfl ?_); refine goesL_ (some 10) rfl rfl Tryz.func25 kf rfl #[.int .i64 (n : Int)] rfl sm ?_; (with_reducible refine (laws_roomBehind.calls (n : Int) (room n : Int) _ A3.out).mono ?_); rintro e w' ⟨rfl, ⟨nd, rfl⟩⟩; refine ⟨_, rfl, ?_⟩))
 refine start_ (n := 15) (S := fun w' => True) (ds := []) #[fF, fF, fF, fF, fF, fF, fF, fF, fF, fF, fF, fF, fF, fF, fF] kf rfl rfl trivial (fun hHeld => ?_); refine with_tabW laws_intactTermS.tab2 laws_intactTermS.bits2 (fun HT_ HW_ => ?_)
 generalize hq_ : World.drew _ = w11 at hHeld ⊢
 have nHR132_ : Aside0 (Kd.C k55 w11 A0 p.length p) := ⟨by rw [← hq_]; exact (by repeat (first | exact HR132.out | (with_reducible refine Kd.C_alloc ?_ _) | (with_reducible refine Kd.C_drewN ?_ _) | (with_reducible refine Kd.C_drew ?_)))⟩
 have nHR136_ : Aside0 (Kd.C k55 w11 A1 p.length p) := ⟨by rw [← hq_]; exact (by repeat (first | exact HR136.out | (with_reducible refine Kd.C_alloc ?_ _) | (with_reducible refine Kd.C_drewN ?_ _) | (with_reducible refine Kd.C_drew ?_)))⟩
 have nHB_ : Aside0 (Below w.heap.size w w11) := ⟨by rw [← hq_]; exact bz⟩
 clear hq_ HR132 HR136 HB
 have HR132 := nHR132_
 have HR136 := nHR136_
 have HB := nHB_
 clear nHR132_ nHR136_ nHB_
 refine pq (i := 0) (N := some 12) #[tT, fF, fF, fF, fF, fF, fF, fF, fF, fF, fF, fF, fF, fF, fF] rfl rfl HT_.out ?_
 refine pq (i := 1) (N := some 13) #[tT, tT, fF, fF, fF, fF, fF, fF, fF, fF, fF, fF, fF, fF, fF] rfl rfl HT_.out ?_
 refine pq (i := 2) (N := some 14) #[tT, tT, tT, fF, fF, fF, fF, fF, fF, fF, fF, fF, fF, fF, fF] rfl rfl HT_.out ?_
 refine pq (i := 3) (N := some 15) #[tT, tT, tT, tT, fF, fF, fF, fF, fF, fF, fF, fF, fF, fF, fF] rfl rfl HT_.out ?_
 refine pq (i := 4) (N := some 16) #[tT, tT, tT, tT, tT, fF, fF, fF, fF, fF, fF, fF, fF, fF, fF] rfl rfl HT_.out ?_
 refine pq (i := 5) (N := some 17) #[tT, tT, tT, tT, tT, tT, fF, fF, fF, fF, fF, fF, fF, fF, fF] rfl rfl HT_.out ?_
 refine pq (i := 6) (N := some 18) #[tT, tT, tT, tT, tT, tT, tT, fF, fF, fF, fF, fF, fF, fF, fF] rfl rfl HT_.out ?_
 refine pq (i := 7) (N := some 19) #[tT, tT, tT, tT, tT, tT, tT, tT, fF, fF, fF, fF, fF, fF, fF] rfl rfl HT_.out ?_
 refine pq (i := 8) (N := some 20) #[tT, tT, tT, tT, tT, tT, tT, tT, tT, fF, fF, fF, fF, fF, fF] rfl rfl HT_.out ?_
 refine pq (i := 9) (N := some 21) #[tT, tT, tT, tT, tT, tT, tT, tT, tT, tT, fF, fF, fF, fF, fF] rfl rfl HT_.out ?_
 refine pq (i := 10) (N := some 22) #[tT, tT, tT, tT, tT, tT, tT, tT, tT, tT, tT, fF, fF, fF, fF] rfl rfl HT_.out ?_
 refine pq (i := 11) (N := some 23) #[tT, tT, tT, tT, tT, tT, tT, tT, tT, tT, tT, tT, fF, fF, fF] rfl rfl HT_.out ?_
 refine one_ (i := 12) (N := some 24) #[tT, tT, tT, tT, tT, tT, tT, tT, tT, tT, tT, tT, tT, fF, fF] rfl rfl (one_of HT_.out kf) (by decide) (fun K hK => ?_)
 refine goes_ Tryz.func33 kf rfl #[.slice A0 p.length c0, .slice A1 p.length c1] (by rfl) rfl rfl sm ?_
 with_reducible refine (laws_eqTermS.calls k _ _ p _ _ p true _ ?side1 ?side2 ?side3 ?side4 A10.out).mono ?_
 (case side1 => repeat (first | exact HR132.out | exact (Kd.C_below HR132.out HB.out) | (with_reducible refine Kd.C_alloc ?_ _) | (with_reducible refine Kd.C_drewN ?_ _) | (with_reducible refine Kd.C_drew ?_)))
 (case side2 => exact HC132.out)
 (case side3 => repeat (first | exact HR136.out | exact (Kd.C_below HR136.out HB.out) | (with_reducible refine Kd.C_alloc ?_ _) | (with_reducible refine Kd.C_drewN ?_ _) | (with_reducible refine Kd.C_drew ?_)))
 (case side4 => exact HC136.out)
 rintro e w14 ⟨rfl, hb⟩
 refine ⟨_, rfl, ?_⟩
 have n0_ := Aside0.mk (below_step bz hb)
 clear HB
 have HB := n0_
 clear n0_
 (try clear hb)
 (try clear hb2)
 (try clear hk)
 (try clear hi)
 refine hK.out _ _ trivial (fun hHeld => ?_)
 clear hK K
 refine norm_ (a' := ?_) ?_ ?_
 rotate_left
 ·show Act.put _ (some 24) _ = _
  simp only [Act.put, List.setIfInBounds_toArray, List.set_cons_zero, List.set_cons_succ, i64_w, i32_w]
  rfl
 refine pq (i := 13) (N := some 25) #[tT, tT, tT, tT, tT, tT, tT, tT, tT, tT, tT, tT, tT, tT, fF] rfl rfl HT_.out ?_
 refine pq (i := 14) (N := some 4) #[tT, tT, tT, tT, tT, tT, tT, tT, tT, tT, tT, tT, tT, tT, tT] rfl rfl HT_.out ?_
 refine done_ (done_of HT_.out kf) ?_
 try go_wp2
 go_ret
 exact ⟨by first | rfl | (simp [errW_none, errW_some] <;> rfl) | (simp only [← hji5]; first | rfl | (simp [errW_none, errW_some] <;> rfl)) | (simp [*, errW_none, errW_some] <;> rfl), bz⟩
theorem toTermS_pad (kw : Nat) (A0 : Option Addr) (c0 : Nat) (l : List S57) (q P : List S55) (w : World) (hr : Kd.C k57 w A0 l.length l) (hc : l.length ≤ c0) (hw : laws_toTermSW.f kw l false = some P) (hq : q.length = l.length) :
 Calls Tryz.prog 8 #[.slice A0 l.length c0, .bool false] w fun e w' => ∃ (A : Option Addr) (c : Nat), e = .returned (.slice A q.length c) ∧ Kd.R k55 55 w' w.heap.size (fun _ => True) (.slice A P.length c) P ∧ Below w.heap.size w w' := by
 refine (laws_toTermSW.calls kw A0 c0 l false P w hr hc hw).mono ?_
 rintro e w' ⟨A, c, he, h1, h2⟩
 exact ⟨A, c, by rw [hq]; exact he, h1, h2⟩
theorem toIntS_padE (A0 : Option Addr) (c0 : Nat) (l0 t : List Int) (w : World) (hr0 : Kd.C (Kd.int .i64) w A0 l0.length l0) (hc0 : l0.length ≤ c0) (h : l0.length ≤ 1000000 ∧ pad l0 = t) :
 Calls Tryz.prog 28 #[.slice A0 l0.length c0, .bool false] w fun e w' => ∃ g, e = .returned (.slice (some ⟨g, 0, none⟩) l0.length t.length) ∧ Kd.R (Kd.int .i64) 3 w' w.heap.size (fun _ => True) (.slice (some ⟨g, 0, none⟩) t.length t.length) t ∧ Below w.heap.size w w' := by
 obtain ⟨hn, rfl⟩ := h
 exact toIntS_pad A0 c0 l0 w hr0 hc0 hn
set_option maxHeartbeats 8000000 in
set_option maxRecDepth 100000 in
theorem toBox_pad (a0_0 : Int) (A0_1 : Option Addr) (c0_1 : Nat) (l0_1 : List Int) (A0_2 : Option Addr) (c0_2 : Nat) (l0_2 : List Int) (w : World) (hr0_1 : Kd.C (Kd.int .i64) w A0_1 l0_1.length l0_1) (hc0_1 : l0_1.length ≤ c0_1) (hr0_2 : Kd.C (Kd.int .i64) w A0_2 l0_2.length l0_2) (hc0_2 : l0_2.length ≤ c0_2) (hn1 : l0_1.length ≤ 1000000) (hn2 : l0_2.length ≤ 1000000) :
 Calls Tryz.prog 9 #[.agg #[.int .i64 a0_0, .slice A0_1 l0_1.length c0_1, .slice A0_2 l0_2.length c0_2], .bool false] w fun e w' => ∃ g1 g2, e = .returned (.agg #[.int .i64 a0_0, .slice (some ⟨g1, 0, none⟩) l0_1.length (pad l0_1).length, .slice (some ⟨g2, 0, none⟩) l0_2.length (pad l0_2).length]) ∧ Kd.R (Kd.int .i64) 3 w' w.heap.size (fun k_ => k_ ≠ g2) (.slice (some ⟨g1, 0, none⟩) (pad l0_1).length (pad l0_1).length) (pad l0_1) ∧ Kd.R (Kd.int .i64) 3 w' w.heap.size (fun k_ => k_ ≠ g1) (.slice (some ⟨g2, 0, none⟩) (pad l0_2).length (pad l0_2).length) (pad l0_2) ∧ Below w.heap.size w w' := by
 have hu25 := Tryz.underlying25
 have hu36 := Tryz.underlying36
 have HR0_1 := Aside0.mk hr0_1
 have HC0_1 := Aside0.mk hc0_1
 clear hr0_1 hc0_1
 have HR0_2 := Aside0.mk hr0_2
 have HC0_2 := Aside0.mk hc0_2
 clear hr0_2 hc0_2
 have HB := Aside0.mk (Below.refl w.heap.size w)
 obtain ⟨t114, ht1⟩ : ∃ t, pad l0_1 = t := ⟨_, rfl⟩
 obtain ⟨t117, ht2⟩ : ∃ t, pad l0_2 = t := ⟨_, rfl⟩
 rw [ht1, ht2]
 have A3 := Aside0.mk (⟨hn1, ht1⟩ : l0_1.length ≤ 1000000 ∧ pad l0_1 = t114)
 have A4 := Aside0.mk (⟨hn2, ht2⟩ : l0_2.length ≤ 1000000 ∧ pad l0_2 = t117)
 clear hn1 hn2 ht1 ht2
 go_enter Tryz.func9, Tryz.ntmps9
 go_wp2_with (first | ((with_reducible refine gate_dst (N := 2) rfl ?_); refine bv (N := 2) (cs := #[.int .i64 a0_0, .slice A0_1 l0_1.length c0_1, .slice A0_2 l0_2.length c0_2]) (t := 25) ?_; intro gb111 hg w5 hbox hb; have n0_ := Aside0.mk (below_step bz hb); have n1_ := Aside0.mk (hbox); have n2_ := (gz hg : Aside0 (w.heap.size ≤ _)); have n3_ := (gz hg : Aside0 (w.heap.size ≤ _)); clear HB; have HB := n0_; have BK111 := n1_; have GW111 := n2_; have GE111 := n3_; clear n0_ n1_ n2_ n3_; clear hb hbox hg) | ((with_reducible refine gate_dst (N := 4) rfl ?_); refine bv (N := 4) (cs := #[.int .i64 0, .slice none 0 0, .slice none 0 0]) (t := 36) ?_; intro gb112 hg w6 hbox hb; have n0_ := bb BK111 hb; have n1_ := Aside0.mk (below_step (bz1 GE111) hb); have n2_ := Aside0.mk (hbox); have n3_ := Aside0.mk ((by rw [hg]; exact (below_size (bz1 GE111)) : w.heap.size ≤ gb112)); have n4_ := Aside0.mk ((by rw [hg]; exact (below_size (bz1 GE111)) : w.heap.size ≤ gb112)); have n5_ := Aside0.mk ((by rw [hg]; exact blk_lt (g := gb111) (o := .cells #[.int .i64 a0_0, .slice A0_1 l0_1.length c0_1, .slice A0_2 l0_2.length c0_2] 25 (0, 0)) (bk BK111) : gb111 < gb112)); clear BK111; clear HB; have BK111 := n0_; have HB := n1_; have BK112 := n2_; have GW112 := n3_; have GE112 := n4_; have LT111_112 := n5_; clear n0_ n1_ n2_ n3_ n4_ n5_; clear hb hbox hg) | ((with_reducible refine gate_dst (N := 5) rfl ?_); refine bv (N := 5) (cs := #[.int .i64 0, .slice none 0 0, .slice none 0 0]) (t := 36) ?_; intro gb113 hg w7 hbox hb; have n0_ := bb BK111 hb; have n1_ := bb BK112 hb; have n2_ := Aside0.mk (below_step (bz2 GE111 GE112) hb); have n3_ := Aside0.mk (hbox); have n4_ := Aside0.mk ((by rw [hg]; exact (below_size (bz2 GE111 GE112)) : w.heap.size ≤ gb113)); have n5_ := Aside0.mk ((by rw [hg]; exact (below_size (bz2 GE111 GE112)) : w.heap.size ≤ gb113)); have n6_ := Aside0.mk ((by rw [hg]; exact blk_lt (g := gb112) (o := .cells #[.int .i64 0, .slice none 0 0, .slice none 0 0] 36 (0, 0)) (bk BK112) : gb112 < gb113)); clear BK111; clear BK112; clear HB; have BK111 := n0_; have BK112 := n1_; have HB := n2_; have BK113 := n3_; have GW113 := n4_; have GE113 := n5_; have LT112_113 := n6_; clear n0_ n1_ n2_ n3_ n4_ n5_ n6_; clear hb hbox hg; have hlt8 := LT111_112.out; have hlt9 := LT112_113.out; have hcz10_0 : w7.cell? ⟨gb111, 0, none⟩ = some (.int .i64 a0_0) := (blk_cell BK111.out 0).trans rfl; have hcz10_1 : w7.cell? ⟨gb111, 1, none⟩ = some (.slice A0_1 l0_1.length c0_1) := (blk_cell BK111.out 1).trans rfl; have hcz10_2 : w7.cell? ⟨gb111, 2, none⟩ = some (.slice A0_2 l0_2.length c0_2) := (blk_cell BK111.out 2).trans rfl; have hfz10_0 := blk_frozen BK111.out 0; have hfz10_1 := blk_frozen BK111.out 1; have hfz10_2 := blk_frozen BK111.out 2; have hcz11_0 : w7.cell? ⟨gb113, 0, none⟩ = some (.int .i64 0) := (blk_cell BK113.out 0).trans rfl; have hcz11_1 : w7.cell? ⟨gb113, 1, none⟩ = some (.slice none 0 0) := (blk_cell BK113.out 1).trans rfl; have hcz11_2 : w7.cell? ⟨gb113, 2, none⟩ = some (.slice none 0 0) := (blk_cell BK113.out 2).trans rfl; have hfz11_0 := blk_frozen BK113.out 0; have hfz11_1 := blk_frozen BK113.out 1; have hfz11_2 := blk_frozen BK113.out 2) | ((with_reducible refine gate_callee (f := 28) rfl ?_); refine goesL_ (some 12) rfl rfl Tryz.func28 kf rfl #[.slice A0_1 l0_1.length c0_1, .bool false] rfl sm ?_; (with_reducible refine (toIntS_padE _ _ l0_1 t114 _ ?side1 ?side2 A3.out).mono ?_); (case side1 => exact Kd.C_below HR0_1.out (bz3 GE111 GE112 GE113)); (case side2 => exact HC0_1.out); rintro e w12 ⟨g13, rfl, ho0, hb⟩; refine ⟨_, rfl, ?_⟩; have n0_ := Aside0.mk (Kd.R_lower ho0 (below_size (bz3 GE111 GE112 GE113))); have n1_ := bs BK111 (Nat.ne_of_lt (Nat.lt_trans LT111_112.out LT112_113.out)) hb; have n2_ := bs BK112 (Nat.ne_of_lt LT112_113.out) hb; have n3_ := Aside0.mk (blk_below (g := gb113) (o := .cells #[.int .i64 a0_0, .slice none 0 0, .slice none 0 0] 36 (0, 0)) (by (with_reducible repeat (first | refine blk_drewN ?_ _ | refine blk_drew ?_ | refine blk_alloc ?_ _)); refine blk_put (cs := #[.int .i64 0, .slice none 0 0, .slice none 0 0]) ?_ 0 _ rfl; (with_reducible repeat (first | refine blk_drewN ?_ _ | refine blk_drew ?_ | refine blk_alloc ?_ _)); exact BK113.out) hb); have n4_ := Aside0.mk (below_step (bz3 GE111 GE112 GE113) hb); clear BK111; clear BK112; clear BK113; clear HB; have HO116 := n0_; have BK111 := n1_; have BK112 := n2_; have BK113 := n3_; have HB := n4_; clear n0_ n1_ n2_ n3_ n4_; (try clear hb); (try clear hb2); (try clear hk); (try clear hi); (try clear ho0); have hcz14_0 : w12.cell? ⟨gb113, 0, none⟩ = some (.int .i64 a0_0) := (blk_cell BK113.out 0).trans rfl; have hcz14_1 : w12.cell? ⟨gb113, 1, none⟩ = some (.slice none 0 0) := (blk_cell BK113.out 1).trans rfl; have hcz14_2 : w12.cell? ⟨gb113, 2, none⟩ = some (.slice none 0 0) := (blk_cell BK113.out 2).trans rfl; have hfz14_0 := blk_frozen BK113.out 0; have hfz14_1 := blk_frozen BK113.out 1; have hfz14_2 := blk_frozen BK113.out 2; have hcz15_0 : w12.cell? ⟨gb111, 0, none⟩ = some (.int .i64 a0_0) := (blk_cell BK111.out 0).trans rfl; have hcz15_1 : w12.cell? ⟨gb111, 1, none⟩ = some (.slice A0_1 l0_1.length c0_1) := (blk_cell BK111.out 1).trans rfl; have hcz15_2 : w12.cell? ⟨gb111, 2, none⟩ = some (.slice A0_2 l0_2.length c0_2) := (blk_cell BK111.out 2).trans rfl; have hfz15_0 := blk_frozen BK111.out 0; have hfz15_1 := blk_frozen BK111.out 1; have hfz15_2 := blk_frozen BK111.out 2) | ((with_reducible refine gate_callee (f := 28) rfl ?_); refine goesL_ (some 17) rfl rfl Tryz.func28 kf rfl #[.slice A0_2 l0_2.length c0_2, .bool false] rfl sm ?_; (with_reducible refine (toIntS_padE _ _ l0_2 t117 _ ?side1 ?side2 A4.out).mono ?_); (case side1 => exact Kd.C_below HR0_2.out (bz3 GE111 GE112 GE113)); (case side2 => exact HC0_2.out); rintro e w16 ⟨g17, rfl, ho0, hb⟩; refine ⟨_, rfl, ?_⟩; have n0_ := Aside0.mk (Kd.R_elder' (by (with_reducible repeat (first | apply Kd.R_alloc | apply Kd.R_drewN | apply Kd.R_drew)); exact (Kd.R_mono (Kd.R_far (p := ⟨gb113, 1, none⟩) (Kd.R_types HO116.out BK113.out (by decide)) (fun _ hk => hk.2) (.slice (some ⟨g13, 0, none⟩) l0_1.length t114.length)) (fun _ h_ => h_.1))) (Kd.R_base ho0) hb); have n1_ := Aside0.mk (Kd.R_lower (Kd.R_new' ho0 (Kd.R_lt (by (with_reducible repeat (first | apply Kd.R_alloc | apply Kd.R_drewN | apply Kd.R_drew)); exact (Kd.R_mono (Kd.R_far (p := ⟨gb113, 1, none⟩) (Kd.R_types HO116.out BK113.out (by decide)) (fun _ hk => hk.2) (.slice (some ⟨g13, 0, none⟩) l0_1.length t114.length)) (fun _ h_ => h_.1))))) (below_size (bz3 GE111 GE112 GE113))); have n2_ := bs BK111 (Nat.ne_of_lt (Nat.lt_trans LT111_112.out LT112_113.out)) hb; have n3_ := bs BK112 (Nat.ne_of_lt LT112_113.out) hb; have n4_ := Aside0.mk (blk_below (g := gb113) (o := .cells #[.int .i64 a0_0, .slice (some ⟨g13, 0, none⟩) l0_1.length t114.length, .slice none 0 0] 36 (0, 0)) (by (with_reducible repeat (first | refine blk_drewN ?_ _ | refine blk_drew ?_ | refine blk_alloc ?_ _)); refine blk_put (cs := #[.int .i64 a0_0, .slice none 0 0, .slice none 0 0]) ?_ 1 _ rfl; (with_reducible repeat (first | refine blk_drewN ?_ _ | refine blk_drew ?_ | refine blk_alloc ?_ _)); exact BK113.out) hb); have n5_ := Aside0.mk (below_step (bz3 GE111 GE112 GE113) hb); clear HO116; clear BK111; clear BK112; clear BK113; clear HB; have HO116 := n0_; have HO119 := n1_; have BK111 := n2_; have BK112 := n3_; have BK113 := n4_; have HB := n5_; clear n0_ n1_ n2_ n3_ n4_ n5_; (try clear hb); (try clear hb2); (try clear hk); (try clear hi); (try clear ho0); have hcz18_0 : w16.cell? ⟨gb113, 0, none⟩ = some (.int .i64 a0_0) := (blk_cell BK113.out 0).trans rfl; have hcz18_1 : w16.cell? ⟨gb113, 1, none⟩ = some (.slice (some ⟨g13, 0, none⟩) l0_1.length t114.length) := (blk_cell BK113.out 1).trans rfl; have hcz18_2 : w16.cell? ⟨gb113, 2, none⟩ = some (.slice none 0 0) := (blk_cell BK113.out 2).trans rfl; have hfz18_0 := blk_frozen BK113.out 0; have hfz18_1 := blk_frozen BK113.out 1; have hfz18_2 := blk_frozen BK113.out 2; have hcz19_0 : w16.cell? ⟨gb112, 0, none⟩ = some (.int .i64 0) := (blk_cell BK112.out 0).trans rfl; have hcz19_1 : w16.cell? ⟨gb112, 1, none⟩ = some (.slice none 0 0) := (blk_cell BK112.out 1).trans rfl; have hcz19_2 : w16.cell? ⟨gb112, 2, none⟩ = some (.slice none 0 0) := (blk_cell BK112.out 2).trans rfl; have hfz19_0 := blk_frozen BK112.out 0; have hfz19_1 := blk_frozen BK112.out 1; have hfz19_2 := blk_frozen BK112.out 2))
 refine bodyPost_ret (results_cell_row rfl _ _ gb112 36 #[.int .i64 a0_0, .slice (some ⟨g13, 0, none⟩) l0_1.length t114.length, .slice (some ⟨g17, 0, none⟩) l0_2.length t117.length] (0, 0) _ rfl (by (with_reducible repeat (first | refine blk_drewN ?_ _ | refine blk_drew ?_ | refine blk_alloc ?_ _)); refine blk_put (cs := #[.int .i64 a0_0, .slice (some ⟨g13, 0, none⟩) l0_1.length t114.length, .slice none 0 0]) ?_ 2 _ rfl; (with_reducible repeat (first | refine blk_drewN ?_ _ | refine blk_drew ?_ | refine blk_alloc ?_ _)); refine blk_put (cs := #[.int .i64 a0_0, .slice none 0 0, .slice none 0 0]) ?_ 1 _ rfl; (with_reducible repeat (first | refine blk_drewN ?_ _ | refine blk_drew ?_ | refine blk_alloc ?_ _)); refine blk_put (cs := #[.int .i64 0, .slice none 0 0, .slice none 0 0]) ?_ 0 _ rfl; (with_reducible repeat (first | refine blk_drewN ?_ _ | refine blk_drew ?_ | refine blk_alloc ?_ _)); refine blk_far ?_ (Nat.ne_of_lt LT112_113.out) _; (with_reducible repeat (first | refine blk_drewN ?_ _ | refine blk_drew ?_ | refine blk_alloc ?_ _)); exact BK112.out) Tryz.underlying36 rfl kf) rfl ?_
 exact ⟨_, _, er, by (with_reducible repeat (first | apply Kd.R_alloc | apply Kd.R_drewN | apply Kd.R_drew)); exact Kd.R_mono (Kd.R_far (p := ⟨gb112, 2, none⟩) (Kd.R_far (p := ⟨gb112, 1, none⟩) (Kd.R_far (p := ⟨gb112, 0, none⟩) (Kd.R_far (p := ⟨gb113, 2, none⟩) (Kd.R_types (Kd.R_types HO116.out BK113.out (by decide)) BK112.out (by decide)) (fun _ hk => hk.1.2) (.slice (some ⟨g17, 0, none⟩) l0_2.length t117.length)) (fun _ hk => hk.2) (.int .i64 a0_0)) (fun _ hk => hk.2) (.slice (some ⟨g13, 0, none⟩) l0_1.length t114.length)) (fun _ hk => hk.2) (.slice (some ⟨g17, 0, none⟩) l0_2.length t117.length)) (fun _ hk => by have h_ := hk.1.1.2; intro e_; exact h_ (by rw [e_]; rfl)), by (with_reducible repeat (first | apply Kd.R_alloc | apply Kd.R_drewN | apply Kd.R_drew)); exact Kd.R_mono (Kd.R_far (p := ⟨gb112, 2, none⟩) (Kd.R_far (p := ⟨gb112, 1, none⟩) (Kd.R_far (p := ⟨gb112, 0, none⟩) (Kd.R_far (p := ⟨gb113, 2, none⟩) (Kd.R_types (Kd.R_types HO119.out BK113.out (by decide)) BK112.out (by decide)) (fun _ hk => hk.1.2) (.slice (some ⟨g17, 0, none⟩) l0_2.length t117.length)) (fun _ hk => hk.2) (.int .i64 a0_0)) (fun _ hk => hk.2) (.slice (some ⟨g13, 0, none⟩) l0_1.length t114.length)) (fun _ hk => hk.2) (.slice (some ⟨g17, 0, none⟩) l0_2.length t117.length)) (fun _ hk => by have h_ := hk.1.1.2; intro e_; exact h_ (by rw [e_]; rfl)), bz3 GE111 GE112 GE113⟩
theorem toIntS_up {k : Nat} {l r : List Int} {b : Bool} (h : laws_toIntS.f k l b = some r) (d : Nat) : laws_toIntS.f (k + d) l b = some r := by
 induction d with
 | zero => exact h
 | succ d ih => exact laws_toIntS.mono _ _ _ _ ih
theorem toBox_bare (a : Int) (l1 l2 : List Int) (h1 : l1.length ≤ 1000000) (h2 : l2.length ≤ 1000000) : ∃ k, laws_toBox.f k a l1 l2 true = some (a, l1, l2) := by
 obtain ⟨k1, e1⟩ := toIntS_bare l1 h1
 obtain ⟨k2, e2⟩ := toIntS_bare l2 h2
 refine ⟨k1 + k2, ?_⟩
 unfold laws_toBox.f
 rw [toIntS_up e1 k2, Nat.add_comm k1 k2, toIntS_up e2 k1]
 rfl
set_option maxHeartbeats 4000000 in
set_option maxRecDepth 100000 in
theorem intactIntS_padC (g1 g2 : Nat) (l : List Int) (w : World) (hl : l.length ≤ 1000000)
 (h1 : Kd.C (Kd.int .i64) w (some ⟨g1, 0, none⟩) (pad l).length (pad l))
 (h2 : Kd.C (Kd.int .i64) w (some ⟨g2, 0, none⟩) (pad l).length (pad l)) :
 Calls Tryz.prog 34 #[.slice (some ⟨g1, 0, none⟩) l.length (pad l).length, .slice (some ⟨g2, 0, none⟩) l.length (pad l).length] w fun e w' => e = .returned (.bool true) ∧ Drawn0 w w' := by
 have H1 := Aside0.mk h1
 have H2 := Aside0.mk h2
 have hm := Aside0.mk (roomBehind_eq l.length)
 have hmb := room_le l.length
 have HE := Aside0.mk (eqIntS_self (pad l) (by rw [pad_length]; omega))
 obtain ⟨p, hp⟩ : ∃ p, pad l = p := ⟨_, rfl⟩
 have hpl := pad_length l
 obtain ⟨m, hmm⟩ : ∃ m, room l.length = m := ⟨_, rfl⟩
 rw [hp] at H1 H2 HE hpl ⊢
 rw [hmm] at hm hmb hpl
 have hFw : (IntKind.i64.wrap ((l.length : Int) + (m : Int))) = (p.length : Int) := by rw [i64_w]; unfold wrap64; omega
 have HL := Aside0.mk hpl
 clear h1 h2 hp hpl hmm hmb
 obtain ⟨i0, hi0, _, hsz, _⟩ := info_parts info3
 have hc1 := cut_room (P := Tryz.prog) 23 3 .i64 Tryz.underlying23 hi0 (some ⟨g1, 0, none⟩) l.length p.length (p.length : Int) (by omega) (Int.le_refl _)
 have hc2 := cut_room (P := Tryz.prog) 23 3 .i64 Tryz.underlying23 hi0 (some ⟨g2, 0, none⟩) l.length p.length (p.length : Int) (by omega) (Int.le_refl _)
 simp only [Int.toNat_natCast] at hc1 hc2
 clear hi0 hsz
 go_enter Tryz.func34, Tryz.ntmps34
 go_wp2_with (first | ((with_reducible refine gate_callee (f := 25) rfl ?_); refine goesL_ (some 10) rfl rfl Tryz.func25 kf rfl #[.int .i64 (l.length : Int)] rfl (by (try simp only [List.map_toArray, List.map_cons, List.map_nil]); first | done | rfl) ?_; (with_reducible refine (laws_roomBehind.calls (l.length : Int) (m : Int) _ hm.out).mono ?_); rintro e w' ⟨rfl, ⟨nd, rfl⟩⟩; refine ⟨_, rfl, ?_⟩) | (go_at_call 59; (with_reducible refine (laws_eqIntS.calls (p.length + 1) _ _ p _ _ p true _ ?side1 ?side2 ?side3 ?side4 HE.out).mono ?_); (case side1 => exact cc H1); (case side2 => exact Nat.le_refl _); (case side3 => exact cc H2); (case side4 => exact Nat.le_refl _); rintro e w' ⟨rfl, ⟨nd, rfl⟩⟩))
 have hbb : ((l.length : Int) == (l.length : Int)) = true := by simp
 go_quiet ((go_at_call 59; (with_reducible refine (laws_eqIntS.calls (p.length + 1) _ _ p _ _ p true _ ?side1 ?side2 ?side3 ?side4 HE.out).mono ?_); (case side1 => exact cc H1); (case side2 => exact Nat.le_refl _); (case side3 => exact cc H2); (case side4 => exact Nat.le_refl _); rintro e w' ⟨rfl, ⟨nd, rfl⟩⟩; (try first | exact ⟨rfl, _, World.drewN_drewN _ _ _⟩ | exact ⟨rfl, _, Eq.trans (World.drewN_drewN _ _ _) (congrArg (World.drewN _) (Nat.add_assoc _ _ _))⟩)))
 go_wp2
 go_ret
 exact ⟨by first | rfl | (simp; done), dz⟩
theorem intactIntS_E (g1 g2 : Nat) (l p : List Int) (w : World) (h1 : Kd.C (Kd.int .i64) w (some ⟨g1, 0, none⟩) p.length p) (_ : l.length ≤ p.length) (h2 : Kd.C (Kd.int .i64) w (some ⟨g2, 0, none⟩) p.length p) (_ : l.length ≤ p.length) (h : l.length ≤ 1000000 ∧ pad l = p) :
 Calls Tryz.prog 34 #[.slice (some ⟨g1, 0, none⟩) l.length p.length, .slice (some ⟨g2, 0, none⟩) l.length p.length] w fun e w' => e = .returned (.bool true) ∧ Drawn0 w w' := by
 obtain ⟨hn, rfl⟩ := h
 exact intactIntS_padC g1 g2 l w hn h1 h2
set_option maxHeartbeats 8000000 in
set_option maxRecDepth 100000 in
theorem intactBox_pad (a0_0 : Int) (g1 g2 g3 g4 : Nat) (l0_1 l0_2 : List Int) (w : World) (hn1 : l0_1.length ≤ 1000000) (hn2 : l0_2.length ≤ 1000000) (h1 : ∃ b ok, Kd.R (Kd.int .i64) 3 w b ok (.slice (some ⟨g1, 0, none⟩) (pad l0_1).length (pad l0_1).length) (pad l0_1)) (h3 : ∃ b ok, Kd.R (Kd.int .i64) 3 w b ok (.slice (some ⟨g3, 0, none⟩) (pad l0_1).length (pad l0_1).length) (pad l0_1)) (h2 : ∃ b ok, Kd.R (Kd.int .i64) 3 w b ok (.slice (some ⟨g2, 0, none⟩) (pad l0_2).length (pad l0_2).length) (pad l0_2)) (h4 : ∃ b ok, Kd.R (Kd.int .i64) 3 w b ok (.slice (some ⟨g4, 0, none⟩) (pad l0_2).length (pad l0_2).length) (pad l0_2)) :
 Calls Tryz.prog 13 #[.agg #[.int .i64 a0_0, .slice (some ⟨g1, 0, none⟩) l0_1.length (pad l0_1).length, .slice (some ⟨g2, 0, none⟩) l0_2.length (pad l0_2).length], .agg #[.int .i64 a0_0, .slice (some ⟨g3, 0, none⟩) l0_1.length (pad l0_1).length, .slice (some ⟨g4, 0, none⟩) l0_2.length (pad l0_2).length]] w fun e w' => e = .returned (.bool true) ∧ Below w.heap.size w w' := by
 obtain ⟨_, _, h1⟩ := h1
 obtain ⟨_, _, h2⟩ := h2
 obtain ⟨_, _, h3⟩ := h3
 obtain ⟨_, _, h4⟩ := h4
 have HR0_1 := Aside0.mk (Kd.R_reads' h1).2.2
 have HR0_2 := Aside0.mk (Kd.R_reads' h2).2.2
 have HR1_1 := Aside0.mk (Kd.R_reads' h3).2.2
 have HR1_2 := Aside0.mk (Kd.R_reads' h4).2.2
 have HC0_1 := Aside0.mk (pad_le l0_1)
 have HC0_2 := Aside0.mk (pad_le l0_2)
 obtain ⟨p1, hp1⟩ : ∃ p, pad l0_1 = p := ⟨_, rfl⟩
 obtain ⟨p2, hp2⟩ : ∃ p, pad l0_2 = p := ⟨_, rfl⟩
 rw [hp1] at HR0_1 HR1_1 HC0_1 ⊢
 rw [hp2] at HR0_2 HR1_2 HC0_2 ⊢
 have A4 := Aside0.mk (⟨hn1, hp1⟩ : l0_1.length ≤ 1000000 ∧ pad l0_1 = p1)
 have A6 := Aside0.mk (⟨hn2, hp2⟩ : l0_2.length ≤ 1000000 ∧ pad l0_2 = p2)
 clear h1 h2 h3 h4 hn1 hn2 hp1 hp2
 have HC1_1 := HC0_1
 have HC1_2 := HC0_2
 have c3b0 : (a0_0 == a0_0) = true := beq_iff_eq.mpr rfl
 have c3b1 : (a0_0 != a0_0) = false := bne_eq_false_iff_eq.mpr rfl
 have hu36 := Tryz.underlying36
 have HB := Aside0.mk (Below.refl w.heap.size w)
 go_enter Tryz.func13, Tryz.ntmps13
 go_wp2_with (first | ((with_reducible refine gate_dst (N := 2) rfl ?_); refine bv (N := 2) (cs := #[.int .i64 a0_0, .slice (some ⟨g1, 0, none⟩) l0_1.length p1.length, .slice (some ⟨g2, 0, none⟩) l0_2.length p2.length]) (t := 36) ?_; intro gb117 hg w8 hbox hb; have n0_ := Aside0.mk (below_step bz hb); have n1_ := Aside0.mk (hbox); have n2_ := (gz hg : Aside0 (w.heap.size ≤ _)); have n3_ := (gz hg : Aside0 (w.heap.size ≤ _)); clear HB; have HB := n0_; have BK117 := n1_; have GW117 := n2_; have GE117 := n3_; clear n0_ n1_ n2_ n3_; clear hb hbox hg) | ((with_reducible refine gate_dst (N := 3) rfl ?_); refine bv (N := 3) (cs := #[.int .i64 a0_0, .slice (some ⟨g3, 0, none⟩) l0_1.length p1.length, .slice (some ⟨g4, 0, none⟩) l0_2.length p2.length]) (t := 36) ?_; intro gb118 hg w9 hbox hb; have n0_ := bb BK117 hb; have n1_ := Aside0.mk (below_step (bz1 GE117) hb); have n2_ := Aside0.mk (hbox); have n3_ := Aside0.mk ((by rw [hg]; exact (below_size (bz1 GE117)) : w.heap.size ≤ gb118)); have n4_ := Aside0.mk ((by rw [hg]; exact (below_size (bz1 GE117)) : w.heap.size ≤ gb118)); have n5_ := Aside0.mk ((by rw [hg]; exact blk_lt (g := gb117) (o := .cells #[.int .i64 a0_0, .slice (some ⟨g1, 0, none⟩) l0_1.length p1.length, .slice (some ⟨g2, 0, none⟩) l0_2.length p2.length] 36 (0, 0)) (bk BK117) : gb117 < gb118)); clear BK117; clear HB; have BK117 := n0_; have HB := n1_; have BK118 := n2_; have GW118 := n3_; have GE118 := n4_; have LT117_118 := n5_; clear n0_ n1_ n2_ n3_ n4_ n5_; clear hb hbox hg; have hlt10 := LT117_118.out; have hcz11_0 : w9.cell? ⟨gb117, 0, none⟩ = some (.int .i64 a0_0) := (blk_cell BK117.out 0).trans rfl; have hcz11_1 : w9.cell? ⟨gb117, 1, none⟩ = some (.slice (some ⟨g1, 0, none⟩) l0_1.length p1.length) := (blk_cell BK117.out 1).trans rfl; have hcz11_2 : w9.cell? ⟨gb117, 2, none⟩ = some (.slice (some ⟨g2, 0, none⟩) l0_2.length p2.length) := (blk_cell BK117.out 2).trans rfl; have hfz11_0 := blk_frozen BK117.out 0; have hfz11_1 := blk_frozen BK117.out 1; have hfz11_2 := blk_frozen BK117.out 2; have hcz12_0 : w9.cell? ⟨gb118, 0, none⟩ = some (.int .i64 a0_0) := (blk_cell BK118.out 0).trans rfl; have hcz12_1 : w9.cell? ⟨gb118, 1, none⟩ = some (.slice (some ⟨g3, 0, none⟩) l0_1.length p1.length) := (blk_cell BK118.out 1).trans rfl; have hcz12_2 : w9.cell? ⟨gb118, 2, none⟩ = some (.slice (some ⟨g4, 0, none⟩) l0_2.length p2.length) := (blk_cell BK118.out 2).trans rfl; have hfz12_0 := blk_frozen BK118.out 0; have hfz12_1 := blk_frozen BK118.out 1; have hfz12_2 := blk_frozen BK118.out 2) | ((with_reducible refine gate_callee (f := 34) rfl ?_); refine goesL_ (some 14) rfl rfl Tryz.func34 kf rfl #[.slice (some ⟨g1, 0, none⟩) l0_1.length p1.length, .slice (some ⟨g3, 0, none⟩) l0_1.length p1.length] rfl sm ?_; (with_reducible refine (intactIntS_E _ _ l0_1 p1 _ ?side1 ?side2 ?side3 ?side4 A4.out).mono ?_); (case side1 => exact cb HR0_1); (case side2 => exact HC0_1.out); (case side3 => exact cb HR1_1); (case side4 => exact HC1_1.out); rintro e w' ⟨rfl, ⟨nd, rfl⟩⟩; refine ⟨_, rfl, ?_⟩) | ((with_reducible refine gate_callee (f := 34) rfl ?_); refine goesL_ (some 20) rfl rfl Tryz.func34 kf rfl #[.slice (some ⟨g2, 0, none⟩) l0_2.length p2.length, .slice (some ⟨g4, 0, none⟩) l0_2.length p2.length] rfl sm ?_; (with_reducible refine (intactIntS_E _ _ l0_2 p2 _ ?side1 ?side2 ?side3 ?side4 A6.out).mono ?_); (case side1 => repeat (first | exact (Kd.C_below HR0_2.out (bz2 GE117 GE118)) | (with_reducible refine Kd.C_alloc ?_ _) | (with_reducible refine Kd.C_drewN ?_ _) | (with_reducible refine Kd.C_drew ?_))); (case side2 => exact HC0_2.out); (case side3 => repeat (first | exact (Kd.C_below HR1_2.out (bz2 GE117 GE118)) | (with_reducible refine Kd.C_alloc ?_ _) | (with_reducible refine Kd.C_drewN ?_ _) | (with_reducible refine Kd.C_drew ?_))); (case side4 => exact HC1_2.out); rintro e w' ⟨rfl, ⟨nd, rfl⟩⟩; refine ⟨_, rfl, ?_⟩))
 go_ret
 exact ⟨er, bz2 GE117 GE118⟩
def law.T8 : Bool × List (List Nat × List Nat) := (true, [([], []), ([0], [0]), ([], []), ([2, 1], [2]), ([1, 3, 3], [1, 3]), ([4], [4]), ([5], [5]), ([5], [5]), ([], []), ([8, 6, 4, 0, 1, 2, 3, 4, 5, 6, 8], [6, 8]), ([7, 9, 0, 1, 2, 3, 4, 5, 6, 7, 8, 9], [7])])
def law.B8 : List Nat := [0, 1, 0, 7, 15, 31, 63, 63, 0, 383, 1023]
theorem law.tab8 : rtab .any (opsOf Tryz.f3 8) = law.T8 := by kernel_rfl
theorem law.bits8 : waitsOk law.T8.2 law.B8 = true := by kernel_rfl
def law.T18 : Bool × List (List Nat × List Nat) := (true, [([], []), ([0], [0]), ([], []), ([2, 1], [2]), ([1, 3, 3], [1, 3]), ([4], [4]), ([5], [5]), ([5], [5]), ([], []), ([8, 6, 4, 0, 1, 2, 3, 4, 5, 6, 8], [6, 8]), ([7, 9, 0, 1, 2, 3, 4, 5, 6, 7, 8, 9], [7])])
def law.B18 : List Nat := [0, 1, 0, 7, 15, 31, 63, 63, 0, 383, 1023]
theorem law.tab18 : rtab .any (opsOf Tryz.f3 18) = law.T18 := by kernel_rfl
theorem law.bits18 : waitsOk law.T18.2 law.B18 = true := by kernel_rfl
end Go.Proofs.YtalcohajbcijlaaGreat.QVov
