import Derived.Test.YtalcohajbcijlaaZHasPointSq
import Derived.Test.YtalcohajbcijlaaZHasPointQHpsx
namespace Go.Proofs.Ytalcohajbcijlaa.QHps
open Go.RowKit Go.Proofs.YtalcohajbcijlaaW.PrintWords Go.Proofs.YtalcohajbcijlaaW.PrintLast Go.Proofs.YtalcohajbcijlaaW.PrintMore
set_option linter.unusedVariables false
set_option linter.unusedSimpArgs false
section
variable {P : Program} {ops : Array Oper} {rest : List Oper} {o : Oper} {a : Act} {Q : Exit → Act → World → Prop} {α : Type}
theorem lit_whole (d : Kd α) {w0 W : World} (base e : Nat) (hgd : o.guard = none) {N : Tmp} (hd : o.dst = some N) {xs : List α} {inner : List Value} {ok okp : Nat → Prop}
 (hrun : (execOp a.eval o).run P W = .ok (.value (.slice (some ⟨W.heap.size, 0, none⟩) xs.length xs.length)) (W.alloc (.cells inner.toArray e)))
 (hrep : Reps (d.M W base okp) d.sz xs inner) (hok : ∀ k, okp k → ok k) (hfresh : ok W.heap.size) (HB : Below base w0 W) (hbase : base ≤ W.heap.size) (hm : xs.length ≤ 9223372036854775807)
 (h : ∀ g w1, d.R e w1 base ok (.slice (some ⟨g, 0, none⟩) xs.length xs.length) xs → Below base w0 w1 → W.grownBy w1 none → base ≤ g → wpList P ops Q rest (a.put o.dst (.slice (some ⟨g, 0, none⟩) xs.length xs.length)) w1) : wpList P ops Q (o :: rest) a W := by
 refine Kd.event_run hgd hrun (h _ _ ⟨fun k hk => ?_, inner, ?_, ?_⟩ (HB.alloc hbase _) (World.grownBy_alloc W _ none) hbase)
 ·have : W.heap.size = k := by simpa [Value.ownBlock] using hk
  subst this
  exact hfresh
 ·have h2 := World.ownsRow_lit (base := base) (e := e) (size := d.sz) W inner.toArray xs.length hbase (by simpa [maxLen] using hm) (by simpa using hrep.1)
  simpa using h2
 ·refine hrep.imp_ (fun p c hp => d.M_mono (fun k hk => ⟨hok k hk.1, fun he => ?_⟩) (Kd.M_below (d.M_bound hp) (below_alloc (Below.refl _ _) _)))
  have h3 : k = W.heap.size := by simpa [Value.ownBlock] using he
  have := hk.2.2.1
  omega
theorem make_whole (d : Kd α) {w0 W : World} (base e : Nat) (hgd : o.guard = none) {N : Tmp} (hd : o.dst = some N) (t : TypeId) (x y : Operand) (ho : o.op = .makeSlice t x y) (n : Int) (hx : a.eval x = .int .i64 n) (hy : a.eval y = .int .i64 n)
 (ht : P.underlying t = some (.slice e)) (z : Value) (bytes : Nat) (hinfo : (P.info? e).map (fun i => (i.zero, i.size, i.bytes)) = some (some z, d.sz, bytes)) (hz : z.cells.size = d.sz) (hs0 : 0 < d.sz) (hb0 : 0 < bytes)
 (z0 : α) {ok okp : Nat → Prop} (hzero : d.M W base okp z0 z.cells.toList) (hok : ∀ k, okp k → ok k) (hfresh : ok W.heap.size) (h0 : 0 ≤ n) (hl : n.toNat * bytes ≤ 281474976710656) (HB : Below base w0 W) (hbase : base ≤ W.heap.size)
 (h : ∀ g w1, d.R e w1 base ok (.slice (some ⟨g, 0, none⟩) n.toNat n.toNat) (List.replicate n.toNat z0) → Below base w0 w1 → W.grownBy w1 none → base ≤ g → wpList P ops Q rest (a.put o.dst (.slice (some ⟨g, 0, none⟩) n.toNat n.toNat)) w1) : wpList P ops Q (o :: rest) a W := by
 obtain ⟨m, rfl⟩ := Int.eq_ofNat_of_zero_le h0
 simp only [Int.toNat_natCast] at hl h
 obtain ⟨i0, hi, hzz⟩ := Option.map_eq_some_iff.1 hinfo
 simp only [Prod.mk.injEq] at hzz
 obtain ⟨hz0, hz1, hz2⟩ := hzz
 have hm : m ≤ 281474976710656 := Nat.le_trans (Nat.le_mul_of_pos_right _ hb0) hl
 have hr := run_make (P := P) W t e i0 z ht hi hz0 .i64 .i64 (m : Int) (m : Int) (by omega) (by omega)
  (by
   have h3 : ((i0.bytes * m : Nat) : Int) ≤ 281474976710656 := by rw [hz2, Nat.mul_comm]; omega
   rwa [Int.natCast_mul] at h3) (by omega)
 simp only [Int.toNat_natCast] at hr
 rw [hz1] at hr
 refine lit_whole d base e hgd hd (xs := List.replicate m z0) (inner := (madeCells z.cells (m * d.sz)).toList) (okp := okp) (ok := ok) ?_ (Kd.reps_made hz hs0 hzero m) hok hfresh HB hbase (by simp; omega) (by simpa using h)
 simp [execOp, ho, hx, hy, hr]
end
theorem cut_room {P : Program} (t e : TypeId) (kh : IntKind) {i : TypeInfo} (ht : P.underlying t = some (.slice e)) (hi : P.info? e = some i) (A : Option Addr) (n c : Nat) (j : Int) (h0 : 0 ≤ j) (hc : j ≤ c) :
 ∀ W : World, (Instr.slice t (.slice A n c) none (some (.int kh j)) none).run P W = .ok (.slice A j.toNat c) W := by
 intro W
 have hel : P.elem t = e := by simp [Program.elem, ht]
 have hu : P.underlying t = some (.slice (P.elem t)) := by rw [hel]; exact ht
 have ha : (A.map fun x => x.add 0) = A := by cases A <;> simp [Addr.add]
 rw [run_slice_h W t A n c hu kh j h0 hc, hel]
 simp [sizeOf, typeInfo, hi, sliced, Result.andThen, ha]
section
variable {α : Type} {d : Kd α}
theorem C_begin {w : World} {A : Option Addr} {n : Nat} {xs ys : List α} (h : d.C w A n (xs ++ ys)) : d.C w A xs.length xs := by
 obtain ⟨h1, h2, h3⟩ := h
 simp only [List.length_append] at h1
 refine ⟨rfl, by omega, fun hp => ?_⟩
 obtain ⟨ad, e, hc⟩ := h3 (by omega)
 refine ⟨ad, e, fun j p hj => hc j p ?_⟩
 rw [List.getElem?_append_left (List.getElem?_eq_some_iff.1 hj).1]
 exact hj
end
theorem made {α : Type} {d : Kd α} {e : Nat} {v : Value} {xs : List α} {w W W' : World} {bp : Nat} (hp : bp ≤ W.heap.size) (hB : Below w.heap.size w W) (hb : Below W.heap.size W W') (ho : d.R e W' W.heap.size (fun _ => True) v xs) :
 ∃ a b, (bp ≤ a ∧ a ≤ b) ∧ b ≤ W'.heap.size ∧ d.R e W' w.heap.size (fun k => a ≤ k ∧ k < b) v xs ∧ Below w.heap.size w W' :=
 ⟨W.heap.size, W'.heap.size, ⟨hp, hb.size⟩, Nat.le_refl _, Kd.R_lower (Kd.R_mono (Kd.R_bound ho) (fun k hk => ⟨hk.2.1, hk.2.2.1⟩)) hB.size, below_step hB hb⟩
theorem made2 {α β : Type} {d : Kd α} {d2 : Kd β} {e e2 : Nat} {v v2 : Value} {xs : List α} {ys : List β} {w W W' : World} {bp : Nat} (hp : bp ≤ W.heap.size) (hB : Below w.heap.size w W) (hb : Below W.heap.size W W') (ho : d.R e W' W.heap.size (fun _ => True) v xs) (ho2 : d2.R e2 W' W.heap.size (fun _ => True) v2 ys) :
 ∃ a b, (bp ≤ a ∧ a ≤ b) ∧ b ≤ W'.heap.size ∧ d.R e W' w.heap.size (fun k => a ≤ k ∧ k < b) v xs ∧ d2.R e2 W' w.heap.size (fun k => a ≤ k ∧ k < b) v2 ys ∧ Below w.heap.size w W' :=
 ⟨W.heap.size, W'.heap.size, ⟨hp, hb.size⟩, Nat.le_refl _, Kd.R_lower (Kd.R_mono (Kd.R_bound ho) (fun k hk => ⟨hk.2.1, hk.2.2.1⟩)) hB.size, Kd.R_lower (Kd.R_mono (Kd.R_bound ho2) (fun k hk => ⟨hk.2.1, hk.2.2.1⟩)) hB.size, below_step hB hb⟩
theorem still {w W W' : World} {bp : Nat} (hp : bp ≤ W.heap.size) (hB : Below w.heap.size w W) (hb : Below W.heap.size W W') : bp ≤ W'.heap.size ∧ Below w.heap.size w W' := ⟨Nat.le_trans hp hb.size, below_step hB hb⟩
def room (n : Nat) : Nat := if n % 6 = 5 then 0 else if n % 3 = 0 then 1 else n
theorem room_le (n : Nat) : room n ≤ n + 1 := by unfold room; split <;> (try split) <;> omega
theorem roomBehind_eq (n : Nat) : laws_roomBehind.f (n : Int) = some (room n : Int) := by
 have h6 : Int.tmod (n : Int) 6 = ((n % 6 : Nat) : Int) := by rw [Int.tmod_eq_emod_of_nonneg (by omega)]; rfl
 have h3 : Int.tmod (n : Int) 3 = ((n % 3 : Nat) : Int) := by rw [Int.tmod_eq_emod_of_nonneg (by omega)]; rfl
 unfold laws_roomBehind.f room
 rw [h6, h3]
 by_cases a : n % 6 = 5
 ·rw [if_pos (by omega), if_pos a]; rfl
 ·rw [if_neg (by omega), if_neg a]
  by_cases b : n % 3 = 0
  ·rw [if_pos (by omega), if_pos b]; rfl
  ·rw [if_neg (by omega), if_neg b]
def pad (l : List Int) : List Int := l ++ List.replicate (room l.length) (-7000000000000000101)
theorem pad_length (l : List Int) : (pad l).length = l.length + room l.length := by simp [pad]
theorem set_fill (l : List Int) (F i : Nat) (h : i < l.length) (hF : l.length ≤ F) : (l.take i ++ List.replicate (F - i) 0).set i (rd l i) = l.take (i + 1) ++ List.replicate (F - (i + 1)) 0 := by
 have h1 : F - i = (F - (i + 1)) + 1 := by omega
 rw [h1, List.replicate_succ, List.set_append_right _ _ (by simp; omega)]
 have h2 : i - (l.take i).length = 0 := by simp; omega
 rw [h2, List.set_cons_zero]
 have h3 : l.take (i + 1) = l.take i ++ [rd l i] := by
  rw [List.take_add_one, List.getElem?_eq_getElem h]
  simp [rd, h]
 rw [h3, List.append_assoc]
 rfl
theorem set_fill2 (l : List Int) (F i : Nat) (h : l.length ≤ i) (hF : i < F) : (l ++ (List.replicate (i - l.length) (-7000000000000000101) ++ List.replicate (F - i) 0)).set i (-7000000000000000101) = l ++ (List.replicate (i + 1 - l.length) (-7000000000000000101) ++ List.replicate (F - (i + 1)) 0) := by
 have h1 : F - i = (F - (i + 1)) + 1 := by omega
 rw [List.set_append_right _ _ h, List.set_append_right _ _ (by simp), h1, List.replicate_succ]
 have h2 : i - l.length - (List.replicate (i - l.length) (-7000000000000000101 : Int)).length = 0 := by simp
 rw [h2, List.set_cons_zero]
 have h3 : i + 1 - l.length = (i - l.length) + 1 := by omega
 rw [h3, List.replicate_succ', List.append_assoc]
 rfl
set_option maxHeartbeats 4000000 in
set_option maxRecDepth 100000 in
theorem toIntS_pad (A0 : Option Addr) (c0 : Nat) (l0 : List Int) (w : World) (hr0 : Kd.C (Kd.int .i64) w A0 l0.length l0) (hc0 : l0.length ≤ c0) (hn : l0.length ≤ 1000000) :
 Calls Try.prog 63 #[.slice A0 l0.length c0, .bool false] w fun e w' => ∃ g, e = .returned (.slice (some ⟨g, 0, none⟩) l0.length (pad l0).length) ∧ Kd.R (Kd.int .i64) 3 w' w.heap.size (fun _ => True) (.slice (some ⟨g, 0, none⟩) (pad l0).length (pad l0).length) (pad l0) ∧ Below w.heap.size w w' := by
 have HR0 := Aside0.mk hr0
 have HC0 := Aside0.mk hc0
 have HN := Aside0.mk hn
 have hm := Aside0.mk (roomBehind_eq l0.length)
 have hmb := room_le l0.length
 obtain ⟨m, hmm⟩ : ∃ m, room l0.length = m := ⟨_, rfl⟩
 obtain ⟨F, hF⟩ : ∃ F, (pad l0).length = F := ⟨_, rfl⟩
 rw [hmm] at hm hmb
 have hFm : F = l0.length + m := by rw [← hF, pad_length, hmm]
 have hFw : (IntKind.i64.wrap ((l0.length : Int) + (m : Int))) = (F : Int) := by rw [i64_w]; unfold wrap64; omega
 have hFF := Aside0.mk hF
 have MM := Aside0.mk hmm
 have HFM := Aside0.mk hFm
 have HMB := Aside0.mk hmb
 rw [hF]
 clear hr0 hc0 hF hmm hFm hn hmb
 have hp0 : decide (0 ≤ (F : Int)) = true := by simp
 have HB := Aside0.mk (Below.refl w.heap.size w)
 go_enter Try.func63, Try.ntmps63
 go_wp2_with (first | ((with_reducible refine gate_callee (f := 55) rfl ?_); refine goesL_ (some 18) rfl rfl Try.func55 kf rfl #[.int .i64 (l0.length : Int)] rfl (by (try simp only [List.map_toArray, List.map_cons, List.map_nil]); first | done | rfl) ?_; (with_reducible refine (laws_roomBehind.calls (l0.length : Int) (m : Int) _ hm.out).mono ?_); rintro e w' ⟨rfl, ⟨nd, rfl⟩⟩; refine ⟨_, rfl, ?_⟩) | ((with_reducible refine gate_dst (N := 20) rfl ?_); (try (refine gate_guard (by rfl) ?_; dsimp only)); refine make_whole (Kd.int .i64) _ 3 rfl (N := 20) rfl 29 _ _ rfl (F : Int) rfl rfl Try.underlying29 (.int .i64 0) 8 info3 rfl (by decide) (by omega) 0 (ok := fun _ => True) (okp := fun _ => True) rfl (fun _ hk => hk) trivial (by omega) (by have := HFM.out; have := HMB.out; have := HN.out; omega) (Below.refl _ _) (Nat.le_refl _) ?_; intro g w10 ho11 hb hg_ hgb; clear hg_; have n0_ := Aside0.mk (Kd.R_lower ho11 (below_size bz)); have n1_ := Aside0.mk (below_step bz hb); clear HB; have HO109 := n0_; have HB := n1_; clear n0_ n1_ hb ho11))
 go_loopg [6] l0.length (fun kq v6 w' => ∃ x : Int, v6 = .int .i64 x ∧ Aside0 (0 ≤ x ∧ x + kq = l0.length) ∧ Aside0 (Kd.R (Kd.int .i64) 3 w' w.heap.size (fun _ => True) (.slice (some ⟨g, 0, none⟩) F F) (l0.take x.toNat ++ List.replicate (F - x.toNat) 0)) ∧ Aside0 (Below w.heap.size w w'))
 case atStart => exact ⟨0, rfl, ⟨by omega⟩, ⟨by have h := HO109.out; simp only [Int.toNat_natCast] at h; simpa using h⟩, HB⟩
 case round =>
  clear HO109 HB
  obtain ⟨x, rfl, HI, HO, HB⟩ := hrel
  by_cases hlt : x < (l0.length : Int)
  ·have c1 : decide (x < (l0.length : Int)) = true := decide_eq_true hlt
   have c2 : decide (0 ≤ x) = true := decide_eq_true HI.out.1
   have c3 : decide (x < (F : Int)) = true := decide_eq_true (by have := HFM.out; omega)
   obtain ⟨ad, e1, hx1⟩ := Kd.at_int HR0.out x HI.out.1 hlt
   cases e1
   replace hx1 := (HB.out.cell (World.block_lt_of_cell? w _ hx1)).trans hx1
   have hl : (l0.take x.toNat ++ List.replicate (F - x.toNat) 0).length = F := by have := HI.out; have := HFM.out; simp only [List.length_append, List.length_take, List.length_replicate]; omega
   obtain ⟨hx2, hf2⟩ := Kd.R_celln 0 HO.out x HI.out.1 (by have := HFM.out; omega)
   have HP := Kd.R_putg HO.out x (rd l0 x)
   obtain ⟨y, hy⟩ : ∃ y, y = (l0.take x.toNat ++ List.replicate (F - x.toNat) 0).set x.toNat (rd l0 x) := ⟨_, rfl⟩
   have hy2 : y = l0.take (x + 1).toNat ++ List.replicate (F - (x + 1).toNat) 0 := by
    rw [hy]
    have h0 := HI.out
    have h1 := HFM.out
    obtain ⟨i, rfl⟩ := Int.eq_ofNat_of_zero_le h0.1
    have e : ((i : Int) + 1).toNat = i + 1 := by omega
    rw [e]
    simp only [Int.toNat_natCast]
    exact set_fill l0 F i (by omega) (by omega)
   rw [← hy] at HP
   have HY := Aside0.mk hy2
   have GB := Aside0.mk (Kd.R_base HO.out g (by simp [Value.ownBlock]))
   clear hy hy2 hl
   replace hlt := eq_true hlt
   have p2 := eq_true HI.out.1
   have p3 := eq_true (of_decide_eq_true c3)
   go_wp2_with (first | ((with_reducible refine gate_store (t := 3) (p := 33) rfl ?_); refine store_event (t := 3) (p := 33) (v := ?vo_w17) (w1 := (wr.setCell ⟨g, x.toNat, none⟩ (.int .i64 (rd l0 x)))) ?hg ?ho ?hn ?hr ?_; (case ho => rfl); (case hg => rfl); (case hn => rfl); (case hr => first | (go_simp; done) | (go_simp; rfl)); intro w17 hw; have n0_ := Aside0.mk (by rw [hw]; exact HP.1 : Kd.R (Kd.int .i64) 3 w17 w.heap.size (fun _ => True) (.slice (some ⟨g, 0, none⟩) F F) y); have n1_ := Aside0.mk (by rw [hw]; exact below_set HB.out GB.out : Below w.heap.size w w17); clear HO HB HP; have HO := n0_; have HB := n1_; clear n0_ n1_ hw))
   cases gk with
   | zero => exact absurd HI.out.2 (by have := of_eq_true hlt; omega)
   | succ k1 =>
    go_roundg k1
    case measure => omega
    case rel => exact ⟨x + 1, by have := HI.out; have := HN.out; rw [show wrap64 (x + 1) = x + 1 by unfold wrap64; omega], ⟨by have := HI.out; omega⟩, ⟨by rw [← HY.out]; exact HO.out⟩, HB⟩
  ·have c1 : decide (x < (l0.length : Int)) = false := decide_eq_false hlt
   have hx : x = (l0.length : Int) := by have := HI.out; omega
   subst hx
   have HO' : Aside0 (Kd.R (Kd.int .i64) 3 wr w.heap.size (fun _ => True) (.slice (some ⟨g, 0, none⟩) F F) (l0 ++ List.replicate (F - l0.length) 0)) := ⟨by have h := HO.out; simpa using h⟩
   clear HO HI hlt
   go_wp2
   go_loopg [7] (F - l0.length) (fun kq v6 w' => ∃ x : Int, v6 = .int .i64 x ∧ Aside0 ((l0.length : Int) ≤ x ∧ x + kq = F) ∧ Aside0 (Kd.R (Kd.int .i64) 3 w' w.heap.size (fun _ => True) (.slice (some ⟨g, 0, none⟩) F F) (l0 ++ (List.replicate (x.toNat - l0.length) (-7000000000000000101) ++ List.replicate (F - x.toNat) 0))) ∧ Aside0 (Below w.heap.size w w'))
   case atStart => exact ⟨l0.length, rfl, ⟨by have := HFM.out; omega⟩, ⟨by have h := HO'.out; simpa using h⟩, HB⟩
   case round =>
    clear HO' HB c1
    obtain ⟨x, rfl, HI, HO, HB⟩ := hrel
    by_cases hlt : x < (F : Int)
    ·have c1 : decide (x < (F : Int)) = true := decide_eq_true hlt
     have c2 : decide (0 ≤ x) = true := decide_eq_true (by have := HI.out; omega)
     obtain ⟨hx2, hf2⟩ := Kd.R_celln 0 HO.out x (by have := HI.out; omega) hlt
     have HP := Kd.R_putg HO.out x (-7000000000000000101)
     obtain ⟨y, hy⟩ : ∃ y, y = (l0 ++ (List.replicate (x.toNat - l0.length) (-7000000000000000101) ++ List.replicate (F - x.toNat) 0)).set x.toNat (-7000000000000000101) := ⟨_, rfl⟩
     have hy2 : y = l0 ++ (List.replicate ((x + 1).toNat - l0.length) (-7000000000000000101) ++ List.replicate (F - (x + 1).toNat) 0) := by
      rw [hy]
      have h0 := HI.out
      obtain ⟨i, rfl⟩ := Int.eq_ofNat_of_zero_le (show 0 ≤ x by omega)
      have e : ((i : Int) + 1).toNat = i + 1 := by omega
      rw [e]
      simp only [Int.toNat_natCast]
      exact set_fill2 l0 F i (by omega) (by omega)
     rw [← hy] at HP
     have HY := Aside0.mk hy2
     have GB := Aside0.mk (Kd.R_base HO.out g (by simp [Value.ownBlock]))
     clear hy hy2
     have p2 := eq_true (of_decide_eq_true c2)
     have p3 := eq_true hlt
     go_wp2
     cases gk with
     | zero => exact absurd HI.out.2 (by have := of_decide_eq_true c1; omega)
     | succ k1 =>
      go_roundg k1
      case measure => omega
      case rel => exact ⟨x + 1, by have := HI.out; have := HN.out; have := HFM.out; have := HMB.out; rw [show wrap64 (x + 1) = x + 1 by unfold wrap64; omega], ⟨by have := HI.out; omega⟩, ⟨by rw [← HY.out]; exact HP.1⟩, ⟨below_set HB.out GB.out⟩⟩
    ·have c1 : decide (x < (F : Int)) = false := decide_eq_false hlt
     have hx : x = (F : Int) := by have := HI.out; omega
     subst hx
     have HO' : Aside0 (Kd.R (Kd.int .i64) 3 wr w.heap.size (fun _ => True) (.slice (some ⟨g, 0, none⟩) F F) (pad l0)) := ⟨by have h := HO.out; have e : F - l0.length = room l0.length := (by rw [MM.out]; have := HFM.out; omega); simpa [pad, e] using h⟩
     clear HO HI hlt
     obtain ⟨i027, hi027, _, hsz27, _⟩ := info_parts info3
     have hcut27 := cut_to (P := Try.prog) 29 3 .i64 Try.underlying29 hi027 (some ⟨g, 0, none⟩) F F (l0.length : Int) (by omega) (by have := HFM.out; omega) (Nat.le_refl _)
     go_wp2
     go_ret
     exact ⟨g, by simp, HO'.out, HB.out⟩
theorem eqIntS_loop (l : List Int) (hn : l.length ≤ 9223372036854775807) (d : Nat) : ∀ (k : Nat) (x : Int), 0 ≤ x → (l.length : Int) - x = d → d < k → laws_eqIntS.l0 k l l x = some true := by
 induction d with
 | zero =>
  intro k x h0 hd hk
  obtain ⟨k, rfl⟩ : ∃ m, k = m + 1 := ⟨k - 1, by omega⟩
  simp only [laws_eqIntS.l0]; rw [if_neg (by omega)]
 | succ d ih =>
  intro k x h0 hd hk
  obtain ⟨k, rfl⟩ : ∃ m, k = m + 1 := ⟨k - 1, by omega⟩
  simp only [laws_eqIntS.l0]; rw [if_pos (by omega), if_pos h0, if_pos (by omega), if_pos trivial, show wrap64 (x + 1) = x + 1 by unfold wrap64; omega]
  exact ih k (x + 1) (by omega) (by omega) (by omega)
theorem eqIntS_self (l : List Int) (hn : l.length ≤ 9223372036854775807) : laws_eqIntS.f (l.length + 1) l l = some true := by
 unfold laws_eqIntS.f
 rw [if_pos rfl]
 exact eqIntS_loop l hn l.length (l.length + 1) 0 (by omega) (by omega) (by omega)
theorem toIntS_l1 (l : List Int) (F : Nat) (hF : F ≤ 3000000) (d : Nat) : ∀ (k i : Nat), l.length ≤ i → i ≤ F → F - i = d → d < k → laws_toIntS.l1 k l (l ++ (List.replicate (i - l.length) (-7000000000000000101) ++ List.replicate (F - i) 0)) (i : Int) = some l := by
 induction d with
 | zero =>
  intro k i h0 h1 hd hk
  obtain ⟨k, rfl⟩ : ∃ m, k = m + 1 := ⟨k - 1, by omega⟩
  simp only [laws_toIntS.l1]; rw [if_neg (by simp only [List.length_append, List.length_replicate]; omega), if_pos (by omega), if_pos (by simp only [List.length_append, List.length_replicate]; omega)]
  simp
 | succ d ih =>
  intro k i h0 h1 hd hk
  obtain ⟨k, rfl⟩ : ∃ m, k = m + 1 := ⟨k - 1, by omega⟩
  simp only [laws_toIntS.l1]; rw [if_pos (by simp only [List.length_append, List.length_replicate]; omega), if_pos (by omega), show wrap64 ((i : Int) + 1) = ((i + 1 : Nat) : Int) by unfold wrap64; omega, Int.toNat_natCast, set_fill2 l F i h0 (by omega)]
  exact ih k (i + 1) (by omega) (by omega) (by omega) (by omega)
theorem toIntS_l0 (l : List Int) (F : Nat) (hF : F ≤ 3000000) (hl : l.length ≤ F) (d : Nat) : ∀ (k i : Nat), i ≤ l.length → l.length - i = d → d + F + 2 < k → laws_toIntS.l0 k l (l.take i ++ List.replicate (F - i) 0) (i : Int) = some l := by
 induction d with
 | zero =>
  intro k i h1 hd hk
  obtain ⟨k, rfl⟩ : ∃ m, k = m + 1 := ⟨k - 1, by omega⟩
  have e : i = l.length := by omega
  subst e
  simp only [laws_toIntS.l0]; rw [if_neg (by omega)]
  have h := toIntS_l1 l F hF (F - l.length) k l.length (Nat.le_refl _) hl rfl (by omega)
  simpa using h
 | succ d ih =>
  intro k i h1 hd hk
  obtain ⟨k, rfl⟩ : ∃ m, k = m + 1 := ⟨k - 1, by omega⟩
  simp only [laws_toIntS.l0]; rw [if_pos (by omega), if_pos (by omega), if_pos (by simp only [List.length_append, List.length_take, List.length_replicate]; omega), show wrap64 ((i : Int) + 1) = ((i + 1 : Nat) : Int) by unfold wrap64; omega, Int.toNat_natCast, set_fill l F i (by omega) hl]
  exact ih k (i + 1) (by omega) (by omega) (by omega)
theorem toIntS_j0 (l : List Int) (hn : l.length ≤ 1000000) (F : Nat) (hF : l.length + room l.length = F) (k : Nat) (hk : l.length + F + 2 < k) : laws_toIntS.j0 (k + 1) l false = some l := by
 have hr := room_le l.length
 have hw : wrap64 ((l.length : Int) + (room l.length : Int)) = (F : Int) := by unfold wrap64; omega
 have hb : F ≤ 35184372088832 := by omega
 have h := toIntS_l0 l F (by omega) (by omega) l.length k 0 (by omega) (by omega) hk
 simp only [laws_toIntS.j0]
 rw [if_neg (by decide), roomBehind_eq, Option.bind_some, hw, if_pos (by omega), Int.toNat_natCast, if_pos hb]
 simpa using h
theorem toIntS_bare (l : List Int) (hn : l.length ≤ 1000000) : ∃ k, laws_toIntS.f k l true = some l := by
 refine ⟨(l.length + (l.length + room l.length) + 3) + 1, ?_⟩
 unfold laws_toIntS.f
 rw [if_pos rfl]
 by_cases h : l = []
 ·subst h
  rfl
 ·have e : ((l.length : Int) == 0) = false := by
   have : 0 < l.length := List.length_pos_iff.2 h
   simp only [beq_eq_false_iff_ne]; omega
  rw [e]
  exact toIntS_j0 l hn _ rfl _ (by omega)
theorem pad_reads {w : World} {b : Nat} {ok : Nat → Prop} {A : Option Addr} {l : List Int} (h : Kd.R (Kd.int .i64) 3 w b ok (.slice A (pad l).length (pad l).length) (pad l)) : Kd.C (Kd.int .i64) w A l.length l := C_begin (Kd.R_reads' h).2.2
theorem pad_le (l : List Int) : l.length ≤ (pad l).length := by rw [pad_length]; omega
theorem padr {α : Type} {d : Kd α} {e : Nat} {w : World} {b : Nat} {ok : Nat → Prop} {A : Option Addr} {c : Nat} {q P : List α} (hp : ∃ f, P = q ++ f) (h : d.R e w b ok (.slice A P.length c) P) : d.C w A q.length q := by
 obtain ⟨f, rfl⟩ := hp
 exact C_begin (Kd.R_reads' h).2.2
theorem padl {α : Type} {q P : List α} {c : Nat} (hp : ∃ f, P = q ++ f) (h : P.length ≤ c) : q.length ≤ c := by
 obtain ⟨f, rfl⟩ := hp
 simp at h; omega
mutual
def laws_toDyadicSW.j0 : Nat → List (S82) → Bool → Option ((List (S44)))
 | 0, _, _ => none
 | k + 1, x0, x13 => if x13 = true then (none) else ((laws_roomBehind.f (x0.length : Int)).bind fun t260 => (if 0 ≤ (wrap64 ((x0.length : Int) + t260)) then (if (wrap64 ((x0.length : Int) + t260) : Int).toNat ≤ 17592186044416 then (laws_toDyadicSW.l0 k x0 (List.replicate (wrap64 ((x0.length : Int) + t260) : Int).toNat z44) 0) else (none)) else (none)))
def laws_toDyadicSW.l0 : Nat → List (S82) → List (S44) → Int → Option ((List (S44)))
 | 0, _, _, _ => none
 | k + 1, x0, x5, x6 => if x6 < (x0.length : Int) then (if 0 ≤ x6 then ((laws_toDyadic.f ((rd_T82 x0 x6).f0) ((rd_T82 x0 x6).f1)).bind fun bt265 => (if x6 < (x5.length : Int) then (laws_toDyadicSW.l0 k x0 (x5.set (x6 : Int).toNat (⟨bt265.1, bt265.2⟩ : S44)) (wrap64 (x6 + 1))) else (none))) else (none)) else (laws_toDyadicSW.l1 k x0 x5 (x0.length : Int))
def laws_toDyadicSW.l1 : Nat → List (S82) → List (S44) → Int → Option ((List (S44)))
 | 0, _, _, _ => none
 | k + 1, x0, x5, x7 => if x7 < (x5.length : Int) then ((laws_fillerDyadic.f).bind fun bt268 => (if 0 ≤ x7 then (laws_toDyadicSW.l1 k x0 (x5.set (x7 : Int).toNat (⟨bt268.1, bt268.2⟩ : S44)) (wrap64 (x7 + 1))) else (none))) else (if 0 ≤ (x0.length : Int) then (if (x0.length : Int) ≤ (x5.length : Int) then (some x5) else (none)) else (none))
end
def laws_toDyadicSW.f (k : Nat) (l0 : List (S82)) (a1 : Bool) : Option ((List (S44))) := if a1 = true then (laws_toDyadicSW.j0 k l0 ((l0.length : Int) == 0)) else (laws_toDyadicSW.j0 k l0 false)
set_option maxHeartbeats 8000000 in
set_option maxRecDepth 100000 in
theorem laws_toDyadicSW.calls (k : Nat) (A0 : Option Addr) (c0 : Nat) (l0 : List (S82)) (a1 : Bool) (r : List (S44)) (w : World) (hr0 : Kd.C k82 w A0 l0.length l0) (hc0 : l0.length ≤ c0) (h : laws_toDyadicSW.f k l0 a1 = some r) :
 Calls Try.prog 13 #[.slice A0 l0.length c0, .bool a1] w fun e w' => ∃ (Ac_ : Option Addr) (cc_ : Nat), e = .returned (.slice Ac_ l0.length cc_) ∧ Kd.R k44 44 w' w.heap.size (fun _ => True) (.slice Ac_ r.length cc_) r ∧ Below w.heap.size w w' := by
 have hu82 := Try.underlying82
 have hu44 := Try.underlying44
 have HR0 := Aside0.mk hr0
 have HC0 := Aside0.mk hc0
 clear hr0 hc0
 have HB := Aside0.mk (Below.refl w.heap.size w)
 have H : (if a1 = true then (laws_toDyadicSW.j0 k l0 ((l0.length : Int) == 0)) else (laws_toDyadicSW.j0 k l0 false)) = some r := h
 clear h
 have HC3 := Aside0.mk H
 clear H
 go_enter Try.func13, Try.ntmps13
 go_upto_region 1 with (fail)
 go_cut [13] (fun v13 wc => ∃ (kq : Nat) (x13_2 : Bool), v13 = .bool x13_2 ∧ Aside0 (laws_toDyadicSW.j0 kq l0 x13_2 = some r) ∧ Aside0 (kq ≤ k) ∧ Aside0 (Below w.heap.size w wc))
 case first =>
  have H := HC3.out
  clear HC3
  by_cases c4 : a1 = true
  ·subst c4
   rw [if_pos rfl] at H
   have H' := Aside0.mk H
   clear H
   go_wp2
   go_meet
   case rel => exact ⟨_, (((l0.length : Int) == 0)), sr, H', ⟨by first | omega | exact Nat.le_refl _⟩, ⟨bz⟩⟩
  ·replace c4 := Bool.eq_false_iff.mpr c4
   subst c4
   rw [if_neg (show ¬ (false = true) by decide)] at H
   have H' := Aside0.mk H
   clear H
   go_wp2
   go_meet
   case rel => exact ⟨_, (false), sr, H', ⟨by first | omega | exact Nat.le_refl _⟩, ⟨bz⟩⟩
 case rest =>
  clear HC3
  try clear c1; try clear p2; try clear c4
  obtain ⟨kq, x13_2, rfl, HA, HJ2, HB⟩ := hcut
  cases kq with
  | zero => exact absurd HA.out (by simp [laws_toDyadicSW.j0])
  | succ kj2 =>
   have H := HA.out
   clear HA
   simp only [laws_toDyadicSW.j0] at H
   by_cases c5 : x13_2 = true
   ·subst c5
    have H1 : none = some r := by rw [if_pos rfl] at H; exact H
    exact absurd H1 (by simp)
   ·replace c5 := Bool.eq_false_iff.mpr c5
    subst c5
    rw [if_neg (show ¬ (false = true) by decide)] at H
    obtain ⟨t260, A6, H⟩ := bi H
    obtain ⟨ji7, hji7⟩ : ∃ j_ : Int, (wrap64 ((l0.length : Int) + t260)) = j_ := ⟨_, rfl⟩
    first | rw [hji7] at H | simp only [hji7] at H
    (try rw [hji7] at A6)
    have hji7w : (IntKind.i64.wrap ((l0.length : Int) + t260)) = ji7 := (i64_w _).trans hji7
    by_cases c8 : 0 ≤ (ji7)
    ·rw [if_pos c8] at H
     have c8b0 := eq_true c8
     have c8b1 : decide (0 ≤ (ji7)) = true := decide_eq_true c8
     clear c8
     by_cases c9 : (ji7 : Int).toNat ≤ 17592186044416
     ·rw [if_pos c9] at H
      have c9b0 := eq_true c9
      have c9b1 : decide ((ji7 : Int).toNat ≤ 17592186044416) = true := decide_eq_true c9
      clear c9
      obtain ⟨y261, hy261⟩ : ∃ y_ : List (S44), y_ = (List.replicate (ji7 : Int).toNat z44) := ⟨_, rfl⟩
      replace H : (laws_toDyadicSW.l0 kj2 l0 y261 0) = some r := by first | (rw [hy261]; with_reducible exact H) | (have H2_ := (Option.bind_some _ _).symm.trans H; rw [hy261]; with_reducible exact H2_) | (have H2_ := (Option.bind_some _ _).symm.trans H; with_reducible exact H2_) | with_reducible exact H | (rw [hy261]; exact H) | exact H
      have Ny261 := Aside0.mk hy261
      clear hy261
      have H' := Aside0.mk H
      clear H
      go_wp2_with (first | ((with_reducible refine gate_callee (f := 55) rfl ?_); refine goesL_ (some 18) rfl rfl Try.func55 kf rfl #[.int .i64 (l0.length : Int)] rfl sm ?_; (with_reducible refine (laws_roomBehind.calls (l0.length : Int) t260 _ A6.out).mono ?_); rintro e w' ⟨rfl, ⟨nd, rfl⟩⟩; refine ⟨_, rfl, ?_⟩) | ((with_reducible refine gate_dst (N := 20) rfl ?_); (try (refine gate_guard (by rfl) ?_; dsimp only)); refine Kd.R_make k44 _ 44 rfl (N := 20) rfl 25 _ _ rfl ji7 rfl rfl Try.underlying25 (.agg #[(.int .i64 0), (.int .i64 0)]) 16 info44 rfl (by decide) (by omega) z44 (ok := fun _ => True) (okp := fun _ => True) (k44_mkM _ _ _ z44 ) (fun _ hk => hk) trivial (of_decide_eq_true am) (Nat.le_trans (Nat.mul_le_mul_right _ (of_decide_eq_true am : ji7.toNat ≤ 17592186044416)) (by omega)) (Below.refl _ _) (Nat.le_refl _) ?_; intro v262 w10 ho11 hb hg_ hnew_; clear hg_ hnew_; (first | rw [← Ny261.out] at ho11 | (simp only [Int.reduceToNat] at ho11; rw [← Ny261.out] at ho11)); have n0_ := Aside0.mk (Kd.R_lower ho11 (below_size bz)); have n1_ := Aside0.mk (below_step bz hb); clear HB; have HO263 := n0_; have HB := n1_; clear n0_ n1_; clear hb ho11))
      go_loopg [6] kj2 (fun kq v6 w' => ∃ (x5_2 : List (S44)) (x6_2 : Int), v6 = .int .i64 x6_2 ∧ Aside0 (laws_toDyadicSW.l0 kq l0 x5_2 x6_2 = some r) ∧ Aside0 (kq ≤ kj2) ∧ Aside0 (Kd.R k44 44 w' w.heap.size (fun _ => True) v262 x5_2) ∧ Aside0 (Below w.heap.size w w'))
      case atStart => exact ⟨(y261), (0), sr, H', ⟨Nat.le_refl _⟩, ⟨kr HO263⟩, ⟨bz⟩⟩
      case round =>
       clear H'
       try clear c1; try clear p2; try clear c4; try clear c5; try clear p6; try clear c8; try clear c8b0; try clear c8b1; try clear c9; try clear c9b0; try clear c9b1; try clear p2
       obtain ⟨x5_2, x6_2, rfl, HA, HK2, HO_5, HB⟩ := hrel
       cases gk with
       | zero => exact absurd HA.out (by simp [laws_toDyadicSW.l0])
       | succ k2 =>
        have H := HA.out
        clear HA
        simp only [laws_toDyadicSW.l0] at H
        by_cases c12 : x6_2 < (l0.length : Int)
        ·rw [if_pos c12] at H
         have c12b0 : decide (x6_2 < (l0.length : Int)) = true := decide_eq_true c12
         clear c12
         by_cases c13 : 0 ≤ x6_2
         ·rw [if_pos c13] at H
          have c13b0 : decide (0 ≤ x6_2) = true := decide_eq_true c13
          clear c13
          obtain ⟨⟨t265, t266⟩, A14, H⟩ := bi H
          try dsimp only at H
          by_cases c15 : x6_2 < (x5_2.length : Int)
          ·rw [if_pos c15] at H
           have c15b0 : decide (x6_2 < (x5_2.length : Int)) = true := decide_eq_true c15
           clear c15
           obtain ⟨y267, hy267⟩ : ∃ y_ : List (S44), y_ = (x5_2.set (x6_2 : Int).toNat (⟨t265, t266⟩ : S44)) := ⟨_, rfl⟩
           replace H : (laws_toDyadicSW.l0 k2 l0 y267 (wrap64 (x6_2 + 1))) = some r := by first | (rw [hy267]; with_reducible exact H) | (have H2_ := (Option.bind_some _ _).symm.trans H; rw [hy267]; with_reducible exact H2_) | (have H2_ := (Option.bind_some _ _).symm.trans H; with_reducible exact H2_) | with_reducible exact H | (rw [hy267]; exact H) | exact H
           have Ny267 := Aside0.mk hy267
           clear hy267
           have H' := Aside0.mk H
           clear H
           have p264 : 0 ≤ (x6_2 : Int) := of_decide_eq_true am
           have q264 : x6_2 < (l0.length : Int) := of_decide_eq_true am
           obtain ⟨ad264, e264, hx264_0, hx264_1⟩ := at_T82 HR0.out x6_2 p264 q264
           cases e264
           replace hx264_0 := (HB.out.cell (World.block_lt_of_cell? w _ hx264_0)).trans hx264_0
           replace hx264_1 := (HB.out.cell (World.block_lt_of_cell? w _ hx264_1)).trans hx264_1
           replace p264 := eq_true p264
           replace q264 := eq_true q264
           go_wp2_with (first | ((with_reducible refine gate_callee (f := 56) rfl ?_); refine goesL_ (some 33) rfl rfl Try.func56 kf rfl #[.agg #[.int .i64 ((rd_T82 l0 x6_2).f0), .int .i64 ((rd_T82 l0 x6_2).f1)]] rfl sm ?_; (with_reducible refine (laws_toDyadic.calls ((rd_T82 l0 x6_2).f0) ((rd_T82 l0 x6_2).f1) t265 t266 _ A14.out).mono ?_); rintro e w17 ⟨rfl, hb⟩; refine ⟨_, rfl, ?_⟩; have n0_ := Aside0.mk (Kd.R_below (kr HO_5) hb); have n1_ := Aside0.mk (below_step bz hb); clear HO_5; clear HB; have HO_5 := n0_; have HB := n1_; clear n0_ n1_; (try clear hb); (try clear hb2); (try clear hk); (try clear hi); have p16 : 0 ≤ (x6_2 : Int) := of_decide_eq_true am; have q16 : (x6_2 : Int) < ((x5_2.length : Int) : Int) := of_decide_eq_true am; obtain ⟨go16, co16, eo16, gb16, gl16, cl16, HG16⟩ := Kd.R_form HO_5.out (by omega); (first | cases eo16 | (injection eo16 with ea_ en_ ec_; (first | subst ea_ | (injection ea_ with ea_; subst ea_)); subst ec_; clear en_)); have GB16 := Aside0.mk gb16; have GG16 := Aside0.mk HG16; clear gb16 gl16 HG16; obtain ⟨ce16, hcl16, hM16, hcc16, hfr16⟩ := Kd.R_elem HO_5.out z44 (x6_2 : Int) p16 q16; obtain rfl := k44_openM hM16; have hx16_0 : w17.cell? ⟨go16, (x6_2 : Int).toNat * 2, none⟩ = some (.int .i64 ((rd_T44 x5_2 x6_2).f0)) := hcc16 0 _ rfl; have hx16_1 : w17.cell? ⟨go16, (x6_2 : Int).toNat * 2 + 1, none⟩ = some (.int .i64 ((rd_T44 x5_2 x6_2).f1)) := hcc16 1 _ rfl; have hf16_0 : w17.frozen? ⟨go16, (x6_2 : Int).toNat * 2, none⟩ = false := hfr16 0; have hf16_1 : w17.frozen? ⟨go16, (x6_2 : Int).toNat * 2 + 1, none⟩ = false := hfr16 1; clear hcl16 hcc16 hfr16; (try clear hM16); replace p16 := eq_true p16; replace q16 := eq_true q16; have HX18 := Aside0.mk (show Kd.R k44 44 w17 w.heap.size (fun _ => True) (.slice (some ⟨go16, 0, none⟩) x5_2.length co16) x5_2 from (kr HO_5)); obtain ⟨ce18, hcl18, hM18, hcc18, hfr18⟩ := Kd.R_elem HX18.out z44 (x6_2 : Int) (of_decide_eq_true am) (by have h_ : (x6_2 : Int) < ((x5_2.length : Int) : Int) := of_decide_eq_true am; first | exact h_ | (have e_ := (Kd.R_reads' HO_5.out).1; omega) | simpa using h_); obtain rfl := k44_openM hM18; have HP18 := Kd.R_seg HX18.out (x6_2 : Int) (of_decide_eq_true am) (by have h_ : (x6_2 : Int) < ((x5_2.length : Int) : Int) := of_decide_eq_true am; first | exact h_ | (have e_ := (Kd.R_reads' HO_5.out).1; omega) | simpa using h_) (seg := [.int .i64 t265, .int .i64 t266]) (j := 0) hcl18 hcc18 (show 2 ≤ 2 from by decide) (x' := (⟨t265, t266⟩ : S44)) (k44_mkM _ _ _ (⟨t265, t266⟩ : S44) ) (fun _ hk => hk); have hx18_0 := hcc18 0 _ rfl; (try simp only [show (k44).sz = 2 from rfl, Nat.mul_one, Nat.add_zero] at hx18_0); have hf18_0 := hfr18 0; (try simp only [show (k44).sz = 2 from rfl, Nat.mul_one, Nat.add_zero] at hf18_0); have hx18_1 := hcc18 1 _ rfl; (try simp only [show (k44).sz = 2 from rfl, Nat.mul_one, Nat.add_zero] at hx18_1); have hf18_1 := hfr18 1; (try simp only [show (k44).sz = 2 from rfl, Nat.mul_one, Nat.add_zero] at hf18_1); clear hcl18 hcc18 hfr18 hM18) | ((with_reducible refine gate_store (t := 44) (p := 34) rfl ?_); refine store_event (t := 44) (p := 34) (v := ?vo_w19) (w1 := ((w17.setCell ⟨go16, (x6_2 : Int).toNat * 2, none⟩ (.int .i64 t265)).setCell ⟨go16, (x6_2 : Int).toNat * 2 + 1, none⟩ (.int .i64 t266))) ?hg ?ho ?hn ?hr ?_; (case ho => rfl); (case hg => rfl); (case hn => rfl); (case hr => first | (go_simp; done) | (go_simp; rfl)); intro w19 hw; have hg : w17.grownBy w19 (some go16) := (by rw [hw]; exact HP18.2); have hp_ : Kd.R k44 44 w19 w.heap.size (fun _ => True) (.slice (some ⟨go16, 0, none⟩) x5_2.length co16) y267 := (by rw [hw, Ny267.out]; exact HP18.1); clear HP18; have n0_ := Aside0.mk (hp_); have n1_ := Aside0.mk ((by rw [hw]; exact below_set (below_set (HB.out) GB16.out) GB16.out : Below w.heap.size w w19)); clear HO_5; clear HB; have HO_5 := n0_; have HB := n1_; clear n0_ n1_; clear hg hw hp_))
           go_roundg k2
           case measure => have := HJ2.out; have := HK2.out; omega
           case rel => exact ⟨(y267), (wrap64 (x6_2 + 1)), sr, H', ⟨by have := HJ2.out; have := HK2.out; omega⟩, ⟨kr HO_5⟩, ⟨bz⟩⟩
          ·rw [if_neg c15] at H
           exact absurd H (by simp)
         ·rw [if_neg c13] at H
          exact absurd H (by simp)
        ·rw [if_neg c12] at H
         have c12b0 : decide (x6_2 < (l0.length : Int)) = false := decide_eq_false c12
         clear c12
         have H' := Aside0.mk H
         clear H
         go_wp2
         go_loopg [7] k2 (fun kq v7 w' => ∃ (x5_3 : List (S44)) (x7_3 : Int), v7 = .int .i64 x7_3 ∧ Aside0 (laws_toDyadicSW.l1 kq l0 x5_3 x7_3 = some r) ∧ Aside0 (kq ≤ k2) ∧ Aside0 (Kd.R k44 44 w' w.heap.size (fun _ => True) v262 x5_3) ∧ Aside0 (Below w.heap.size w w'))
         case atStart => exact ⟨(x5_2), ((l0.length : Int)), sr, H', ⟨Nat.le_refl _⟩, ⟨kr HO_5⟩, ⟨bz⟩⟩
         case round =>
          clear H'
          try clear c1; try clear p1; try clear q1; try clear hx1; try clear p2; try clear q2; try clear hx2; try clear c4; try clear c5; try clear p6; try clear c8; try clear c8b0; try clear c8b1; try clear c9; try clear c9b0; try clear c9b1; try clear c12; try clear c12b0; try clear c13; try clear c13b0; try clear c15; try clear c15b0; try clear c16; try clear p16; try clear q16; try clear hx16; try clear hf16; try clear c18; try clear hx18; try clear hf18; try clear hx16_0; try clear hx16_1; try clear hx18_0; try clear hx18_1; try clear hx264_0; try clear hx264_1; try clear p16; try clear p2; try clear p264; try clear p6; try clear q16; try clear q264
          obtain ⟨x5_3, x7_3, rfl, HA, HK3, HO_5, HB⟩ := hrel
          cases gk with
          | zero => exact absurd HA.out (by simp [laws_toDyadicSW.l1])
          | succ k3 =>
           have H := HA.out
           clear HA
           simp only [laws_toDyadicSW.l1] at H
           by_cases c20 : x7_3 < (x5_3.length : Int)
           ·rw [if_pos c20] at H
            have c20b0 : decide (x7_3 < (x5_3.length : Int)) = true := decide_eq_true c20
            clear c20
            obtain ⟨⟨t268, t269⟩, A21, H⟩ := bi H
            try dsimp only at H
            by_cases c22 : 0 ≤ x7_3
            ·rw [if_pos c22] at H
             have c22b0 : decide (0 ≤ x7_3) = true := decide_eq_true c22
             clear c22
             obtain ⟨y270, hy270⟩ : ∃ y_ : List (S44), y_ = (x5_3.set (x7_3 : Int).toNat (⟨t268, t269⟩ : S44)) := ⟨_, rfl⟩
             replace H : (laws_toDyadicSW.l1 k3 l0 y270 (wrap64 (x7_3 + 1))) = some r := by first | (rw [hy270]; with_reducible exact H) | (have H2_ := (Option.bind_some _ _).symm.trans H; rw [hy270]; with_reducible exact H2_) | (have H2_ := (Option.bind_some _ _).symm.trans H; with_reducible exact H2_) | with_reducible exact H | (rw [hy270]; exact H) | exact H
             have Ny270 := Aside0.mk hy270
             clear hy270
             have H' := Aside0.mk H
             clear H
             obtain ⟨Ao24, co24, eo24⟩ := Kd.R_slice HO_5.out
             subst eo24
             go_wp2_with (first | ((with_reducible refine gate_callee (f := 57) rfl ?_); refine goesL_ (some 45) rfl rfl Try.func57 kf rfl #[] rfl sm ?_; (with_reducible refine (laws_fillerDyadic.calls  t268 t269 _ A21.out).mono ?_); rintro e w25 ⟨rfl, hb⟩; refine ⟨_, rfl, ?_⟩; have n0_ := Aside0.mk (Kd.R_below (kr HO_5) hb); have n1_ := Aside0.mk (below_step bz hb); clear HO_5; clear HB; have HO_5 := n0_; have HB := n1_; clear n0_ n1_; (try clear hb); (try clear hb2); (try clear hk); (try clear hi); have p23 : 0 ≤ (x7_3 : Int) := of_decide_eq_true am; have q23 : (x7_3 : Int) < ((x5_3.length : Int) : Int) := of_decide_eq_true am; obtain ⟨go23, co23, eo23, gb23, gl23, cl23, HG23⟩ := Kd.R_form HO_5.out (by omega); (first | cases eo23 | (injection eo23 with ea_ en_ ec_; (first | subst ea_ | (injection ea_ with ea_; subst ea_)); subst ec_; clear en_)); have GB23 := Aside0.mk gb23; have GG23 := Aside0.mk HG23; clear gb23 gl23 HG23; obtain ⟨ce23, hcl23, hM23, hcc23, hfr23⟩ := Kd.R_elem HO_5.out z44 (x7_3 : Int) p23 q23; obtain rfl := k44_openM hM23; have hx23_0 : w25.cell? ⟨go23, (x7_3 : Int).toNat * 2, none⟩ = some (.int .i64 ((rd_T44 x5_3 x7_3).f0)) := hcc23 0 _ rfl; have hx23_1 : w25.cell? ⟨go23, (x7_3 : Int).toNat * 2 + 1, none⟩ = some (.int .i64 ((rd_T44 x5_3 x7_3).f1)) := hcc23 1 _ rfl; have hf23_0 : w25.frozen? ⟨go23, (x7_3 : Int).toNat * 2, none⟩ = false := hfr23 0; have hf23_1 : w25.frozen? ⟨go23, (x7_3 : Int).toNat * 2 + 1, none⟩ = false := hfr23 1; clear hcl23 hcc23 hfr23; (try clear hM23); replace p23 := eq_true p23; replace q23 := eq_true q23; have HX26 := Aside0.mk (show Kd.R k44 44 w25 w.heap.size (fun _ => True) (.slice (some ⟨go23, 0, none⟩) x5_3.length co24) x5_3 from (kr HO_5)); obtain ⟨ce26, hcl26, hM26, hcc26, hfr26⟩ := Kd.R_elem HX26.out z44 (x7_3 : Int) (of_decide_eq_true am) (by have h_ : (x7_3 : Int) < ((x5_3.length : Int) : Int) := of_decide_eq_true am; first | exact h_ | (have e_ := (Kd.R_reads' HO_5.out).1; omega) | simpa using h_); obtain rfl := k44_openM hM26; have HP26 := Kd.R_seg HX26.out (x7_3 : Int) (of_decide_eq_true am) (by have h_ : (x7_3 : Int) < ((x5_3.length : Int) : Int) := of_decide_eq_true am; first | exact h_ | (have e_ := (Kd.R_reads' HO_5.out).1; omega) | simpa using h_) (seg := [.int .i64 t268, .int .i64 t269]) (j := 0) hcl26 hcc26 (show 2 ≤ 2 from by decide) (x' := (⟨t268, t269⟩ : S44)) (k44_mkM _ _ _ (⟨t268, t269⟩ : S44) ) (fun _ hk => hk); have hx26_0 := hcc26 0 _ rfl; (try simp only [show (k44).sz = 2 from rfl, Nat.mul_one, Nat.add_zero] at hx26_0); have hf26_0 := hfr26 0; (try simp only [show (k44).sz = 2 from rfl, Nat.mul_one, Nat.add_zero] at hf26_0); have hx26_1 := hcc26 1 _ rfl; (try simp only [show (k44).sz = 2 from rfl, Nat.mul_one, Nat.add_zero] at hx26_1); have hf26_1 := hfr26 1; (try simp only [show (k44).sz = 2 from rfl, Nat.mul_one, Nat.add_zero] at hf26_1); clear hcl26 hcc26 hfr26 hM26) | ((with_reducible refine gate_store (t := 44) (p := 46) rfl ?_); refine store_event (t := 44) (p := 46) (v := ?vo_w27) (w1 := ((w25.setCell ⟨go23, (x7_3 : Int).toNat * 2, none⟩ (.int .i64 t268)).setCell ⟨go23, (x7_3 : Int).toNat * 2 + 1, none⟩ (.int .i64 t269))) ?hg ?ho ?hn ?hr ?_; (case ho => rfl); (case hg => rfl); (case hn => rfl); (case hr => first | (go_simp; done) | (go_simp; rfl)); intro w27 hw; have hg : w25.grownBy w27 (some go23) := (by rw [hw]; exact HP26.2); have hp_ : Kd.R k44 44 w27 w.heap.size (fun _ => True) (.slice (some ⟨go23, 0, none⟩) x5_3.length co24) y270 := (by rw [hw, Ny270.out]; exact HP26.1); clear HP26; have n0_ := Aside0.mk (hp_); have n1_ := Aside0.mk ((by rw [hw]; exact below_set (below_set (HB.out) GB23.out) GB23.out : Below w.heap.size w w27)); clear HO_5; clear HB; have HO_5 := n0_; have HB := n1_; clear n0_ n1_; clear hg hw hp_))
             go_roundg k3
             case measure => have := HJ2.out; have := HK2.out; have := HK3.out; omega
             case rel => exact ⟨(y270), (wrap64 (x7_3 + 1)), sr, H', ⟨by have := HJ2.out; have := HK2.out; have := HK3.out; omega⟩, ⟨kr HO_5⟩, ⟨bz⟩⟩
            ·rw [if_neg c22] at H
             exact absurd H (by simp)
           ·rw [if_neg c20] at H
            have c20b0 : decide (x7_3 < (x5_3.length : Int)) = false := decide_eq_false c20
            clear c20
            by_cases c28 : 0 ≤ (l0.length : Int)
            ·rw [if_pos c28] at H
             have c28b0 := eq_true c28
             have c28b1 : decide (0 ≤ (l0.length : Int)) = true := decide_eq_true c28
             clear c28
             by_cases c29 : (l0.length : Int) ≤ (x5_3.length : Int)
             ·rw [if_pos c29] at H
              have c29b0 := eq_true c29
              have c29b1 : decide ((l0.length : Int) ≤ (x5_3.length : Int)) = true := decide_eq_true c29
              clear c29
              obtain ⟨y271, hy271⟩ : ∃ y_ : List (S44), y_ = (x5_3.take ((l0.length : Int) : Int).toNat) := ⟨_, rfl⟩
              have Ny271 := Aside0.mk hy271
              clear hy271
              have HR_ := Aside0.mk (Option.some.inj H)
              obtain ⟨Ao30, co30, eo30⟩ := Kd.R_slice HO_5.out
              subst eo30
              have q31 : ((l0.length : Int) : Int) ≤ ((x5_3.length : Int) : Int) := of_decide_eq_true am
              obtain ⟨i031, hi031, _, hsz31, _⟩ := info_parts info44
              have hcut31 := cut_to (P := Try.prog) 25 44 .i64 Try.underlying25 hi031 Ao30 x5_3.length co30 (l0.length : Int) (of_decide_eq_true am) q31 (Kd.R_reads' HO_5.out).2.1
              have hr31 := Kd.R_take (m := ((l0.length : Int) : Int).toNat) HO_5.out (by omega)
              have hy31 : y271.length = ((l0.length : Int) : Int).toNat := (by rw [Ny271.out, List.length_take]; omega)
              rw [← Ny271.out] at hr31
              rw [← hy31] at hr31 hcut31
              have HY_ : Aside0 (y271.length = l0.length) := ⟨by rw [hy31]; simp⟩
              clear hy31 hi031 hsz31
              have HO273 := Aside0.mk hr31
              clear hr31
              replace q31 := eq_true q31
              go_wp2
              go_ret
              exact ⟨Ao30, co30, by first | rfl | (rw [HY_.out]; done) | (simp [HY_.out]; done), by rw [← HR_.out]; (with_reducible repeat (first | apply Kd.R_alloc | apply Kd.R_drewN | apply Kd.R_drew)); first | exact HO_5.out | exact Kd.R_mono HO_5.out (fun _ _ => trivial), bz⟩
             ·rw [if_neg c29] at H
              exact absurd H (by simp)
            ·rw [if_neg c28] at H
             exact absurd H (by simp)
     ·rw [if_neg c9] at H
      exact absurd H (by simp)
    ·rw [if_neg c8] at H
     exact absurd H (by simp)
def cvDyadicS (x : S82) : S44 := ⟨x.f0, x.f1⟩
def fillDyadicS : S44 := ⟨-7000000000000000101, -7000000000000000101⟩
def padDyadicS (l : List S82) : List S44 := l.map cvDyadicS ++ List.replicate (room l.length) fillDyadicS
theorem padDyadicS_length (l : List S82) : (padDyadicS l).length = l.length + room l.length := by simp [padDyadicS]
theorem set_fillDyadicS (Q : List S44) (F i : Nat) (h : i < Q.length) (hF : Q.length ≤ F) : (Q.take i ++ List.replicate (F - i) z44).set i Q[i] = Q.take (i + 1) ++ List.replicate (F - (i + 1)) z44 := by
 have h1 : F - i = (F - (i + 1)) + 1 := by omega
 rw [h1, List.replicate_succ, List.set_append_right _ _ (by simp; omega)]
 have h2 : i - (Q.take i).length = 0 := by simp; omega
 rw [h2, List.set_cons_zero, List.take_succ_eq_append_getElem h, List.append_assoc]
 rfl
theorem set_fill2DyadicS (Q : List S44) (F i : Nat) (h : Q.length ≤ i) (hF : i < F) : (Q ++ (List.replicate (i - Q.length) fillDyadicS ++ List.replicate (F - i) z44)).set i fillDyadicS = Q ++ (List.replicate (i + 1 - Q.length) fillDyadicS ++ List.replicate (F - (i + 1)) z44) := by
 have h1 : F - i = (F - (i + 1)) + 1 := by omega
 rw [List.set_append_right _ _ h, List.set_append_right _ _ (by simp), h1, List.replicate_succ]
 have h2 : i - Q.length - (List.replicate (i - Q.length) fillDyadicS).length = 0 := by simp
 rw [h2, List.set_cons_zero]
 have h3 : i + 1 - Q.length = (i - Q.length) + 1 := by omega
 rw [h3, List.replicate_succ', List.append_assoc]
 rfl
theorem laws_toDyadicS_l1 (l : List S82) (F : Nat) (hF : F ≤ 3000000) (hlF : l.length ≤ F) (d : Nat) : ∀ (k i : Nat), l.length ≤ i → i ≤ F → F - i = d → d < k → laws_toDyadicS.l1 k l (l.map cvDyadicS ++ (List.replicate (i - l.length) fillDyadicS ++ List.replicate (F - i) z44)) (i : Int) = some (l.map cvDyadicS) := by
 induction d with
 | zero =>
  intro k i h0 h1 hd hk
  obtain ⟨k, rfl⟩ : ∃ m, k = m + 1 := ⟨k - 1, by omega⟩
  have e : i = F := by omega
  subst e
  simp only [laws_toDyadicS.l1]; rw [if_neg (by simp only [List.length_append, List.length_replicate, List.length_map]; omega), if_pos (by omega), if_pos (by simp only [List.length_append, List.length_replicate, List.length_map]; omega)]
  simp
 | succ d ih =>
  intro k i h0 h1 hd hk
  obtain ⟨k, rfl⟩ : ∃ m, k = m + 1 := ⟨k - 1, by omega⟩
  have hs := set_fill2DyadicS (l.map cvDyadicS) F i (by simpa using h0) (by omega)
  simp only [List.length_map] at hs
  simp only [laws_toDyadicS.l1]; rw [if_pos (by simp only [List.length_append, List.length_replicate, List.length_map]; omega), show laws_fillerDyadic.f = some ((-7000000000000000101), (-7000000000000000101)) from rfl, Option.bind_some, if_pos (by omega), show wrap64 ((i : Int) + 1) = ((i + 1 : Nat) : Int) by unfold wrap64; omega, Int.toNat_natCast]
  change laws_toDyadicS.l1 k l ((l.map cvDyadicS ++ (List.replicate (i - l.length) fillDyadicS ++ List.replicate (F - i) z44)).set i fillDyadicS) _ = _
  rw [hs]
  exact ih k (i + 1) (by omega) (by omega) (by omega) (by omega)
theorem laws_toDyadicS_l0 (l : List S82) (F : Nat) (hF : F ≤ 3000000) (hlF : l.length ≤ F) (d : Nat) : ∀ (k i : Nat), i ≤ l.length → l.length - i = d → d + F + 2 < k → laws_toDyadicS.l0 k l ((l.map cvDyadicS).take i ++ List.replicate (F - i) z44) (i : Int) = some (l.map cvDyadicS) := by
 induction d with
 | zero =>
  intro k i h1 hd hk
  obtain ⟨k, rfl⟩ : ∃ m, k = m + 1 := ⟨k - 1, by omega⟩
  have e : i = l.length := by omega
  subst e
  simp only [laws_toDyadicS.l0]; rw [if_neg (by omega)]
  have h := laws_toDyadicS_l1 l F hF hlF (F - l.length) k l.length (Nat.le_refl _) hlF rfl (by omega)
  simp only [Nat.sub_self, List.replicate_zero, List.nil_append] at h
  rw [List.take_of_length_le (by simp)]
  exact h
 | succ d ih =>
  intro k i h1 hd hk
  obtain ⟨k, rfl⟩ : ∃ m, k = m + 1 := ⟨k - 1, by omega⟩
  have hi : i < l.length := by omega
  have hs := set_fillDyadicS (l.map cvDyadicS) F i (by simpa using hi) (by simpa using hlF)
  have hr : rd_T82 l (i : Int) = l[i] := by simp [rd_T82, hi]
  simp only [laws_toDyadicS.l0]; rw [if_pos (by omega), if_pos (by omega), hr, show laws_toDyadic.f l[i].f0 l[i].f1 = some (l[i].f0, l[i].f1) from rfl, Option.bind_some, if_pos (by simp only [List.length_append, List.length_take, List.length_replicate, List.length_map]; omega), show wrap64 ((i : Int) + 1) = ((i + 1 : Nat) : Int) by unfold wrap64; omega, Int.toNat_natCast]
  have hc : (⟨l[i].f0, l[i].f1⟩ : S44) = (l.map cvDyadicS)[i]'(by simpa using hi) := by simp [cvDyadicS]
  change laws_toDyadicS.l0 k l (((l.map cvDyadicS).take i ++ List.replicate (F - i) z44).set i (⟨l[i].f0, l[i].f1⟩ : S44)) _ = _
  rw [hc, hs]
  exact ih k (i + 1) (by omega) (by omega) (by omega)
theorem laws_toDyadicS_j0 (l : List S82) (hn : l.length ≤ 1000000) (F : Nat) (hF : l.length + room l.length = F) (k : Nat) (hk : l.length + F + 2 < k) : laws_toDyadicS.j0 (k + 1) l false = some (l.map cvDyadicS) := by
 have hr := room_le l.length
 have hw : wrap64 ((l.length : Int) + (room l.length : Int)) = (F : Int) := by unfold wrap64; omega
 have h := laws_toDyadicS_l0 l F (by omega) (by omega) l.length k 0 (by omega) (by omega) hk
 simp only [laws_toDyadicS.j0]
 rw [if_neg (by decide), roomBehind_eq, Option.bind_some, hw, if_pos (by omega), Int.toNat_natCast, if_pos (by omega)]
 simpa using h
theorem laws_toDyadicSW_l1 (l : List S82) (F : Nat) (hF : F ≤ 3000000) (hlF : l.length ≤ F) (d : Nat) : ∀ (k i : Nat), l.length ≤ i → i ≤ F → F - i = d → d < k → laws_toDyadicSW.l1 k l (l.map cvDyadicS ++ (List.replicate (i - l.length) fillDyadicS ++ List.replicate (F - i) z44)) (i : Int) = some (l.map cvDyadicS ++ List.replicate (F - l.length) fillDyadicS) := by
 induction d with
 | zero =>
  intro k i h0 h1 hd hk
  obtain ⟨k, rfl⟩ : ∃ m, k = m + 1 := ⟨k - 1, by omega⟩
  have e : i = F := by omega
  subst e
  simp only [laws_toDyadicSW.l1]; rw [if_neg (by simp only [List.length_append, List.length_replicate, List.length_map]; omega), if_pos (by omega), if_pos (by simp only [List.length_append, List.length_replicate, List.length_map]; omega)]
  simp
 | succ d ih =>
  intro k i h0 h1 hd hk
  obtain ⟨k, rfl⟩ : ∃ m, k = m + 1 := ⟨k - 1, by omega⟩
  have hs := set_fill2DyadicS (l.map cvDyadicS) F i (by simpa using h0) (by omega)
  simp only [List.length_map] at hs
  simp only [laws_toDyadicSW.l1]; rw [if_pos (by simp only [List.length_append, List.length_replicate, List.length_map]; omega), show laws_fillerDyadic.f = some ((-7000000000000000101), (-7000000000000000101)) from rfl, Option.bind_some, if_pos (by omega), show wrap64 ((i : Int) + 1) = ((i + 1 : Nat) : Int) by unfold wrap64; omega, Int.toNat_natCast]
  change laws_toDyadicSW.l1 k l ((l.map cvDyadicS ++ (List.replicate (i - l.length) fillDyadicS ++ List.replicate (F - i) z44)).set i fillDyadicS) _ = _
  rw [hs]
  exact ih k (i + 1) (by omega) (by omega) (by omega) (by omega)
theorem laws_toDyadicSW_l0 (l : List S82) (F : Nat) (hF : F ≤ 3000000) (hlF : l.length ≤ F) (d : Nat) : ∀ (k i : Nat), i ≤ l.length → l.length - i = d → d + F + 2 < k → laws_toDyadicSW.l0 k l ((l.map cvDyadicS).take i ++ List.replicate (F - i) z44) (i : Int) = some (l.map cvDyadicS ++ List.replicate (F - l.length) fillDyadicS) := by
 induction d with
 | zero =>
  intro k i h1 hd hk
  obtain ⟨k, rfl⟩ : ∃ m, k = m + 1 := ⟨k - 1, by omega⟩
  have e : i = l.length := by omega
  subst e
  simp only [laws_toDyadicSW.l0]; rw [if_neg (by omega)]
  have h := laws_toDyadicSW_l1 l F hF hlF (F - l.length) k l.length (Nat.le_refl _) hlF rfl (by omega)
  simp only [Nat.sub_self, List.replicate_zero, List.nil_append] at h
  rw [List.take_of_length_le (by simp)]
  exact h
 | succ d ih =>
  intro k i h1 hd hk
  obtain ⟨k, rfl⟩ : ∃ m, k = m + 1 := ⟨k - 1, by omega⟩
  have hi : i < l.length := by omega
  have hs := set_fillDyadicS (l.map cvDyadicS) F i (by simpa using hi) (by simpa using hlF)
  have hr : rd_T82 l (i : Int) = l[i] := by simp [rd_T82, hi]
  simp only [laws_toDyadicSW.l0]; rw [if_pos (by omega), if_pos (by omega), hr, show laws_toDyadic.f l[i].f0 l[i].f1 = some (l[i].f0, l[i].f1) from rfl, Option.bind_some, if_pos (by simp only [List.length_append, List.length_take, List.length_replicate, List.length_map]; omega), show wrap64 ((i : Int) + 1) = ((i + 1 : Nat) : Int) by unfold wrap64; omega, Int.toNat_natCast]
  have hc : (⟨l[i].f0, l[i].f1⟩ : S44) = (l.map cvDyadicS)[i]'(by simpa using hi) := by simp [cvDyadicS]
  change laws_toDyadicSW.l0 k l (((l.map cvDyadicS).take i ++ List.replicate (F - i) z44).set i (⟨l[i].f0, l[i].f1⟩ : S44)) _ = _
  rw [hc, hs]
  exact ih k (i + 1) (by omega) (by omega) (by omega)
theorem laws_toDyadicSW_j0 (l : List S82) (hn : l.length ≤ 1000000) (F : Nat) (hF : l.length + room l.length = F) (k : Nat) (hk : l.length + F + 2 < k) : laws_toDyadicSW.j0 (k + 1) l false = some (l.map cvDyadicS ++ List.replicate (F - l.length) fillDyadicS) := by
 have hr := room_le l.length
 have hw : wrap64 ((l.length : Int) + (room l.length : Int)) = (F : Int) := by unfold wrap64; omega
 have h := laws_toDyadicSW_l0 l F (by omega) (by omega) l.length k 0 (by omega) (by omega) hk
 simp only [laws_toDyadicSW.j0]
 rw [if_neg (by decide), roomBehind_eq, Option.bind_some, hw, if_pos (by omega), Int.toNat_natCast, if_pos (by omega)]
 simpa using h
theorem toDyadicS_whole (l : List S82) (hn : l.length ≤ 1000000) : ∃ k, laws_toDyadicSW.f k l false = some (padDyadicS l) := by
 refine ⟨(l.length + (l.length + room l.length) + 3) + 1, ?_⟩
 unfold laws_toDyadicSW.f
 rw [if_neg (by decide), laws_toDyadicSW_j0 l hn _ rfl _ (by omega)]
 unfold padDyadicS
 rw [show l.length + room l.length - l.length = room l.length by omega]
theorem toDyadicS_bare (l : List S82) (hn : l.length ≤ 1000000) : ∃ k, laws_toDyadicS.f k l true = some (l.map cvDyadicS) := by
 refine ⟨(l.length + (l.length + room l.length) + 3) + 1, ?_⟩
 unfold laws_toDyadicS.f
 rw [if_pos rfl]
 by_cases h : l = []
 ·subst h
  rfl
 ·have e : ((l.length : Int) == 0) = false := by
   have : 0 < l.length := List.length_pos_iff.2 h
   simp only [beq_eq_false_iff_ne]; omega
  rw [e]
  exact laws_toDyadicS_j0 l hn _ rfl _ (by omega)
theorem eqDyadic_self (a0 : Int) (a1 : Int) : laws_eqDyadic.f a0 a1 a0 a1 = some true := by unfold laws_eqDyadic.f; simp
theorem eqDyadicS_loop (l : List S44) (hn : l.length ≤ 1000000000) (d : Nat) : ∀ (k : Nat) (i : Nat), i ≤ l.length → l.length - i = d → d < k → laws_eqDyadicS.l0 k l l (i : Int) = some true := by
 induction d with
 | zero =>
  intro k i h0 hd hk
  obtain ⟨k, rfl⟩ : ∃ m, k = m + 1 := ⟨k - 1, by omega⟩
  simp only [laws_eqDyadicS.l0]; rw [if_neg (by omega)]
 | succ d ih =>
  intro k i h0 hd hk
  obtain ⟨k, rfl⟩ : ∃ m, k = m + 1 := ⟨k - 1, by omega⟩
  simp only [laws_eqDyadicS.l0]; rw [if_pos (by omega), if_pos (by omega), if_pos (by omega), eqDyadic_self, Option.bind_some, if_pos rfl, show wrap64 ((i : Int) + 1) = ((i + 1 : Nat) : Int) by unfold wrap64; omega]
  exact ih k (i + 1) (by omega) (by omega) (by omega)
theorem eqDyadicS_self (l : List S44) (hn : l.length ≤ 1000000000) : laws_eqDyadicS.f (l.length + 1) l l = some true := by
 unfold laws_eqDyadicS.f
 rw [if_pos rfl]
 exact eqDyadicS_loop l hn l.length (l.length + 1) 0 (by omega) (by omega) (by omega)
def laws_intactDyadicS.T2 : Bool × List (List Nat × List Nat) := (true, [([], []), ([0], [0]), ([], []), ([2], [2]), ([1, 3], [1, 3]), ([4], [4]), ([5], [5]), ([5], [5]), ([6, 7, 5], [5, 6, 7]), ([5], [5]), ([5], [5]), ([9, 10, 5], [5, 9, 10]), ([8, 11, 5, 5], [5, 8, 11]), ([5, 12], [5, 12]), ([13, 12, 0, 1, 2, 3, 4, 5, 6, 7, 8, 9, 10, 11, 12, 13], [13])])
def laws_intactDyadicS.B2 : List Nat := [0, 1, 0, 4, 15, 31, 63, 63, 255, 63, 63, 1599, 4095, 8191, 16383]
theorem laws_intactDyadicS.tab2 : rtab .any (opsOf Try.f15 2) = laws_intactDyadicS.T2 := by kernel_rfl
theorem laws_intactDyadicS.bits2 : waitsOk laws_intactDyadicS.T2.2 laws_intactDyadicS.B2 = true := by kernel_rfl
set_option maxHeartbeats 8000000 in
set_option maxRecDepth 100000 in
theorem laws_intactDyadicS.pad (k : Nat) (A0 A1 : Option Addr) (c0 c1 n : Nat) (p : List S44) (w : World) (hr0 : Kd.C k44 w A0 p.length p) (hc0 : p.length ≤ c0) (hr1 : Kd.C k44 w A1 p.length p) (hc1 : p.length ≤ c1) (hp : p.length = n + room n) (hn : n ≤ 1000000) (he : laws_eqDyadicS.f k p p = some true) :
 Calls Try.prog 15 #[.slice A0 n c0, .slice A1 n c1] w fun e w' => e = .returned (.bool true) ∧ Below w.heap.size w w' := by
 have hmb := room_le n
 have HR173 := Aside0.mk hr0
 have HC173 := Aside0.mk hc0
 have HR177 := Aside0.mk hr1
 have HC177 := Aside0.mk hc1
 have HB := Aside0.mk (Below.refl w.heap.size w)
 have A3 := Aside0.mk (roomBehind_eq n)
 have A10 := Aside0.mk he
 obtain ⟨ji5, hji5⟩ : ∃ j_ : Int, (wrap64 ((n : Int) + (room n : Int))) = j_ := ⟨_, rfl⟩
 have hje : ji5 = (p.length : Int) := by rw [← hji5, hp]; unfold wrap64; omega
 have hji5w : (IntKind.i64.wrap ((n : Int) + (room n : Int))) = ji5 := (i64_w _).trans hji5
 have c4b0 : ((n : Int) == (n : Int)) = true := by simp
 have c4b1 : ((n : Int) != (n : Int)) = false := by simp
 have c4b2 : (n == n) = true := by simp
 have c6b0 : (0 ≤ ji5) = True := eq_true (by omega)
 have c6b1 : decide (0 ≤ ji5) = true := decide_eq_true (by omega)
 obtain ⟨i0_, hi0_, _, hsz0_, _⟩ := info_parts info44
 have hcut12 := cut_room (P := Try.prog) 25 44 .i64 Try.underlying25 hi0_ A0 n c0 ji5 (by omega) (by omega)
 have hcut13 := cut_room (P := Try.prog) 25 44 .i64 Try.underlying25 hi0_ A1 n c1 ji5 (by omega) (by omega)
 rw [show ji5.toNat = p.length by omega] at hcut12 hcut13
 clear hmb hje hr0 hc0 hr1 hc1 he hp hi0_ hsz0_ hn
 go_enter Try.func15, Try.ntmps15
 try go_wp2_with (first | ((with_reducible refine gate_callee (f := 55) rfl ?_); refine goesL_ (some 10) rfl rfl Try.func55 kf rfl #[.int .i64 (n : Int)] rfl sm ?_; (with_reducible refine (laws_roomBehind.calls (n : Int) (room n : Int) _ A3.out).mono ?_); rintro e w' ⟨rfl, ⟨nd, rfl⟩⟩; refine ⟨_, rfl, ?_⟩))
 refine start_ (n := 15) (S := fun w' => True) (ds := []) #[fF, fF, fF, fF, fF, fF, fF, fF, fF, fF, fF, fF, fF, fF, fF] kf rfl rfl trivial (fun hHeld => ?_); refine with_tabW laws_intactDyadicS.tab2 laws_intactDyadicS.bits2 (fun HT_ HW_ => ?_)
 generalize hq_ : World.drew _ = w11 at hHeld ⊢
 have nHR173_ : Aside0 (Kd.C k44 w11 A0 p.length p) := ⟨by rw [← hq_]; exact (by repeat (first | exact HR173.out | (with_reducible refine Kd.C_alloc ?_ _) | (with_reducible refine Kd.C_drewN ?_ _) | (with_reducible refine Kd.C_drew ?_)))⟩
 have nHR177_ : Aside0 (Kd.C k44 w11 A1 p.length p) := ⟨by rw [← hq_]; exact (by repeat (first | exact HR177.out | (with_reducible refine Kd.C_alloc ?_ _) | (with_reducible refine Kd.C_drewN ?_ _) | (with_reducible refine Kd.C_drew ?_)))⟩
 have nHB_ : Aside0 (Below w.heap.size w w11) := ⟨by rw [← hq_]; exact bz⟩
 clear hq_ HR173 HR177 HB
 have HR173 := nHR173_
 have HR177 := nHR177_
 have HB := nHB_
 clear nHR173_ nHR177_ nHB_
 refine pq (i := 0) (N := some 12) #[tT, fF, fF, fF, fF, fF, fF, fF, fF, fF, fF, fF, fF, fF, fF] rfl rfl HT_.out ?_
 refine pq (i := 1) (N := some 13) #[tT, tT, fF, fF, fF, fF, fF, fF, fF, fF, fF, fF, fF, fF, fF] rfl rfl HT_.out ?_
 refine pq (i := 2) (N := some 14) #[tT, tT, tT, fF, fF, fF, fF, fF, fF, fF, fF, fF, fF, fF, fF] rfl rfl HT_.out ?_
 refine pq (i := 3) (N := some 15) #[tT, tT, tT, tT, fF, fF, fF, fF, fF, fF, fF, fF, fF, fF, fF] rfl rfl HT_.out ?_
 refine pq (i := 4) (N := some 16) #[tT, tT, tT, tT, tT, fF, fF, fF, fF, fF, fF, fF, fF, fF, fF] rfl rfl HT_.out ?_
 refine pq (i := 5) (N := some 17) #[tT, tT, tT, tT, tT, tT, fF, fF, fF, fF, fF, fF, fF, fF, fF] rfl rfl HT_.out ?_
 refine pq (i := 6) (N := some 18) #[tT, tT, tT, tT, tT, tT, tT, fF, fF, fF, fF, fF, fF, fF, fF] rfl rfl HT_.out ?_
 refine pq (i := 7) (N := some 19) #[tT, tT, tT, tT, tT, tT, tT, tT, fF, fF, fF, fF, fF, fF, fF] rfl rfl HT_.out ?_
 refine pq (i := 8) (N := some 20) #[tT, tT, tT, tT, tT, tT, tT, tT, tT, fF, fF, fF, fF, fF, fF] rfl rfl HT_.out ?_
 refine pq (i := 9) (N := some 21) #[tT, tT, tT, tT, tT, tT, tT, tT, tT, tT, fF, fF, fF, fF, fF] rfl rfl HT_.out ?_
 refine pq (i := 10) (N := some 22) #[tT, tT, tT, tT, tT, tT, tT, tT, tT, tT, tT, fF, fF, fF, fF] rfl rfl HT_.out ?_
 refine pq (i := 11) (N := some 23) #[tT, tT, tT, tT, tT, tT, tT, tT, tT, tT, tT, tT, fF, fF, fF] rfl rfl HT_.out ?_
 refine one_ (i := 12) (N := some 24) #[tT, tT, tT, tT, tT, tT, tT, tT, tT, tT, tT, tT, tT, fF, fF] rfl rfl (one_of HT_.out kf) (by decide) (fun K hK => ?_)
 refine goes_ Try.func59 kf rfl #[.slice A0 p.length c0, .slice A1 p.length c1] (by rfl) rfl rfl sm ?_
 with_reducible refine (laws_eqDyadicS.calls k _ _ p _ _ p true _ ?side1 ?side2 ?side3 ?side4 A10.out).mono ?_
 (case side1 => repeat (first | exact HR173.out | exact (Kd.C_below HR173.out HB.out) | (with_reducible refine Kd.C_alloc ?_ _) | (with_reducible refine Kd.C_drewN ?_ _) | (with_reducible refine Kd.C_drew ?_)))
 (case side2 => exact HC173.out)
 (case side3 => repeat (first | exact HR177.out | exact (Kd.C_below HR177.out HB.out) | (with_reducible refine Kd.C_alloc ?_ _) | (with_reducible refine Kd.C_drewN ?_ _) | (with_reducible refine Kd.C_drew ?_)))
 (case side4 => exact HC177.out)
 rintro e w14 ⟨rfl, hb⟩
 refine ⟨_, rfl, ?_⟩
 have n0_ := Aside0.mk (below_step bz hb)
 clear HB
 have HB := n0_
 clear n0_
 (try clear hb)
 (try clear hb2)
 (try clear hk)
 (try clear hi)
 refine hK.out _ _ trivial (fun hHeld => ?_)
 clear hK K
 refine norm_ (a' := ?_) ?_ ?_
 rotate_left
 ·show Act.put _ (some 24) _ = _
  simp only [Act.put, List.setIfInBounds_toArray, List.set_cons_zero, List.set_cons_succ, i64_w, i32_w]
  rfl
 refine pq (i := 13) (N := some 25) #[tT, tT, tT, tT, tT, tT, tT, tT, tT, tT, tT, tT, tT, tT, fF] rfl rfl HT_.out ?_
 refine pq (i := 14) (N := some 4) #[tT, tT, tT, tT, tT, tT, tT, tT, tT, tT, tT, tT, tT, tT, tT] rfl rfl HT_.out ?_
 refine done_ (done_of HT_.out kf) ?_
 try go_wp2
 go_ret
 exact ⟨by first | rfl | (simp [errW_none, errW_some] <;> rfl) | (simp only [← hji5]; first | rfl | (simp [errW_none, errW_some] <;> rfl)) | (simp [*, errW_none, errW_some] <;> rfl), bz⟩
theorem toDyadicS_pad (kw : Nat) (A0 : Option Addr) (c0 : Nat) (l : List S82) (q P : List S44) (w : World) (hr : Kd.C k82 w A0 l.length l) (hc : l.length ≤ c0) (hw : laws_toDyadicSW.f kw l false = some P) (hq : q.length = l.length) :
 Calls Try.prog 13 #[.slice A0 l.length c0, .bool false] w fun e w' => ∃ (A : Option Addr) (c : Nat), e = .returned (.slice A q.length c) ∧ Kd.R k44 44 w' w.heap.size (fun _ => True) (.slice A P.length c) P ∧ Below w.heap.size w w' := by
 refine (laws_toDyadicSW.calls kw A0 c0 l false P w hr hc hw).mono ?_
 rintro e w' ⟨A, c, he, h1, h2⟩
 exact ⟨A, c, by rw [hq]; exact he, h1, h2⟩
theorem toIntS_padE (A0 : Option Addr) (c0 : Nat) (l0 t : List Int) (w : World) (hr0 : Kd.C (Kd.int .i64) w A0 l0.length l0) (hc0 : l0.length ≤ c0) (h : l0.length ≤ 1000000 ∧ pad l0 = t) :
 Calls Try.prog 63 #[.slice A0 l0.length c0, .bool false] w fun e w' => ∃ g, e = .returned (.slice (some ⟨g, 0, none⟩) l0.length t.length) ∧ Kd.R (Kd.int .i64) 3 w' w.heap.size (fun _ => True) (.slice (some ⟨g, 0, none⟩) t.length t.length) t ∧ Below w.heap.size w w' := by
 obtain ⟨hn, rfl⟩ := h
 exact toIntS_pad A0 c0 l0 w hr0 hc0 hn
set_option maxHeartbeats 8000000 in
set_option maxRecDepth 100000 in
theorem toBox_pad (a0_0 : Int) (A0_1 : Option Addr) (c0_1 : Nat) (l0_1 : List Int) (A0_2 : Option Addr) (c0_2 : Nat) (l0_2 : List Int) (w : World) (hr0_1 : Kd.C (Kd.int .i64) w A0_1 l0_1.length l0_1) (hc0_1 : l0_1.length ≤ c0_1) (hr0_2 : Kd.C (Kd.int .i64) w A0_2 l0_2.length l0_2) (hc0_2 : l0_2.length ≤ c0_2) (hn1 : l0_1.length ≤ 1000000) (hn2 : l0_2.length ≤ 1000000) :
 Calls Try.prog 18 #[.agg #[.int .i64 a0_0, .slice A0_1 l0_1.length c0_1, .slice A0_2 l0_2.length c0_2], .bool false] w fun e w' => ∃ g1 g2, e = .returned (.agg #[.int .i64 a0_0, .slice (some ⟨g1, 0, none⟩) l0_1.length (pad l0_1).length, .slice (some ⟨g2, 0, none⟩) l0_2.length (pad l0_2).length]) ∧ Kd.R (Kd.int .i64) 3 w' w.heap.size (fun k_ => k_ ≠ g2) (.slice (some ⟨g1, 0, none⟩) (pad l0_1).length (pad l0_1).length) (pad l0_1) ∧ Kd.R (Kd.int .i64) 3 w' w.heap.size (fun k_ => k_ ≠ g1) (.slice (some ⟨g2, 0, none⟩) (pad l0_2).length (pad l0_2).length) (pad l0_2) ∧ Below w.heap.size w w' := by
 have hu31 := Try.underlying31
 have hu36 := Try.underlying36
 have HR0_1 := Aside0.mk hr0_1
 have HC0_1 := Aside0.mk hc0_1
 clear hr0_1 hc0_1
 have HR0_2 := Aside0.mk hr0_2
 have HC0_2 := Aside0.mk hc0_2
 clear hr0_2 hc0_2
 have HB := Aside0.mk (Below.refl w.heap.size w)
 obtain ⟨t250, ht1⟩ : ∃ t, pad l0_1 = t := ⟨_, rfl⟩
 obtain ⟨t253, ht2⟩ : ∃ t, pad l0_2 = t := ⟨_, rfl⟩
 rw [ht1, ht2]
 have A3 := Aside0.mk (⟨hn1, ht1⟩ : l0_1.length ≤ 1000000 ∧ pad l0_1 = t250)
 have A4 := Aside0.mk (⟨hn2, ht2⟩ : l0_2.length ≤ 1000000 ∧ pad l0_2 = t253)
 clear hn1 hn2 ht1 ht2
 go_enter Try.func18, Try.ntmps18
 go_wp2_with (first | ((with_reducible refine gate_dst (N := 2) rfl ?_); refine bv (N := 2) (cs := #[.int .i64 a0_0, .slice A0_1 l0_1.length c0_1, .slice A0_2 l0_2.length c0_2]) (t := 31) ?_; intro gb247 hg w5 hbox hb; have n0_ := Aside0.mk (below_step bz hb); have n1_ := Aside0.mk (hbox); have n2_ := (gz hg : Aside0 (w.heap.size ≤ _)); have n3_ := (gz hg : Aside0 (w.heap.size ≤ _)); clear HB; have HB := n0_; have BK247 := n1_; have GW247 := n2_; have GE247 := n3_; clear n0_ n1_ n2_ n3_; clear hb hbox hg) | ((with_reducible refine gate_dst (N := 4) rfl ?_); refine bv (N := 4) (cs := #[.int .i64 0, .slice none 0 0, .slice none 0 0]) (t := 36) ?_; intro gb248 hg w6 hbox hb; have n0_ := bb BK247 hb; have n1_ := Aside0.mk (below_step (bz1 GE247) hb); have n2_ := Aside0.mk (hbox); have n3_ := Aside0.mk ((by rw [hg]; exact (below_size (bz1 GE247)) : w.heap.size ≤ gb248)); have n4_ := Aside0.mk ((by rw [hg]; exact (below_size (bz1 GE247)) : w.heap.size ≤ gb248)); have n5_ := Aside0.mk ((by rw [hg]; exact Nat.ne_of_lt (blk_lt (g := gb247) (o := .cells #[.int .i64 a0_0, .slice A0_1 l0_1.length c0_1, .slice A0_2 l0_2.length c0_2] 31 (0, 0)) (bk BK247)) : gb247 ≠ gb248)); have n6_ := Aside0.mk ((by rw [hg]; exact Nat.ne_of_gt (blk_lt (g := gb247) (o := .cells #[.int .i64 a0_0, .slice A0_1 l0_1.length c0_1, .slice A0_2 l0_2.length c0_2] 31 (0, 0)) (bk BK247)) : gb248 ≠ gb247)); clear BK247; clear HB; have BK247 := n0_; have HB := n1_; have BK248 := n2_; have GW248 := n3_; have GE248 := n4_; have NB247_248 := n5_; have NB248_247 := n6_; clear n0_ n1_ n2_ n3_ n4_ n5_ n6_; clear hb hbox hg) | ((with_reducible refine gate_dst (N := 5) rfl ?_); refine bv (N := 5) (cs := #[.int .i64 0, .slice none 0 0, .slice none 0 0]) (t := 36) ?_; intro gb249 hg w7 hbox hb; have n0_ := bb BK247 hb; have n1_ := bb BK248 hb; have n2_ := Aside0.mk (below_step (bz2 GE247 GE248) hb); have n3_ := Aside0.mk (hbox); have n4_ := Aside0.mk ((by rw [hg]; exact (below_size (bz2 GE247 GE248)) : w.heap.size ≤ gb249)); have n5_ := Aside0.mk ((by rw [hg]; exact (below_size (bz2 GE247 GE248)) : w.heap.size ≤ gb249)); have n6_ := Aside0.mk ((by rw [hg]; exact Nat.ne_of_lt (blk_lt (g := gb247) (o := .cells #[.int .i64 a0_0, .slice A0_1 l0_1.length c0_1, .slice A0_2 l0_2.length c0_2] 31 (0, 0)) (bk BK247)) : gb247 ≠ gb249)); have n7_ := Aside0.mk ((by rw [hg]; exact Nat.ne_of_gt (blk_lt (g := gb247) (o := .cells #[.int .i64 a0_0, .slice A0_1 l0_1.length c0_1, .slice A0_2 l0_2.length c0_2] 31 (0, 0)) (bk BK247)) : gb249 ≠ gb247)); have n8_ := Aside0.mk ((by rw [hg]; exact Nat.ne_of_lt (blk_lt (g := gb248) (o := .cells #[.int .i64 0, .slice none 0 0, .slice none 0 0] 36 (0, 0)) (bk BK248)) : gb248 ≠ gb249)); have n9_ := Aside0.mk ((by rw [hg]; exact Nat.ne_of_gt (blk_lt (g := gb248) (o := .cells #[.int .i64 0, .slice none 0 0, .slice none 0 0] 36 (0, 0)) (bk BK248)) : gb249 ≠ gb248)); clear BK247; clear BK248; clear HB; have BK247 := n0_; have BK248 := n1_; have HB := n2_; have BK249 := n3_; have GW249 := n4_; have GE249 := n5_; have NB247_249 := n6_; have NB249_247 := n7_; have NB248_249 := n8_; have NB249_248 := n9_; clear n0_ n1_ n2_ n3_ n4_ n5_ n6_ n7_ n8_ n9_; clear hb hbox hg; have hnb8 := NB247_248.out; have hnc8 := NB248_247.out; have hnb9 := NB247_249.out; have hnc9 := NB249_247.out; have hcz10_0 : w7.cell? ⟨gb247, 0, none⟩ = some (.int .i64 a0_0) := (blk_cell BK247.out 0).trans rfl; have hcz10_1 : w7.cell? ⟨gb247, 1, none⟩ = some (.slice A0_1 l0_1.length c0_1) := (blk_cell BK247.out 1).trans rfl; have hcz10_2 : w7.cell? ⟨gb247, 2, none⟩ = some (.slice A0_2 l0_2.length c0_2) := (blk_cell BK247.out 2).trans rfl; have hfz10_0 := blk_frozen BK247.out 0; have hfz10_1 := blk_frozen BK247.out 1; have hfz10_2 := blk_frozen BK247.out 2; have hnb11 := NB249_248.out; have hnc11 := NB248_249.out; have hcz12_0 : w7.cell? ⟨gb249, 0, none⟩ = some (.int .i64 0) := (blk_cell BK249.out 0).trans rfl; have hcz12_1 : w7.cell? ⟨gb249, 1, none⟩ = some (.slice none 0 0) := (blk_cell BK249.out 1).trans rfl; have hcz12_2 : w7.cell? ⟨gb249, 2, none⟩ = some (.slice none 0 0) := (blk_cell BK249.out 2).trans rfl; have hfz12_0 := blk_frozen BK249.out 0; have hfz12_1 := blk_frozen BK249.out 1; have hfz12_2 := blk_frozen BK249.out 2) | ((with_reducible refine gate_callee (f := 63) rfl ?_); refine goesL_ (some 12) rfl rfl Try.func63 kf rfl #[.slice A0_1 l0_1.length c0_1, .bool false] rfl sm ?_; (with_reducible refine (toIntS_padE _ _ l0_1 t250 _ ?side1 ?side2 A3.out).mono ?_); (case side1 => exact Kd.C_below HR0_1.out (bz3 GE247 GE248 GE249)); (case side2 => exact HC0_1.out); rintro e w13 ⟨g14, rfl, ho0, hb⟩; refine ⟨_, rfl, ?_⟩; have n0_ := Aside0.mk (Kd.R_lower ho0 (below_size (bz3 GE247 GE248 GE249))); have n1_ := Aside0.mk (blk_below (g := gb247) (o := .cells #[.int .i64 a0_0, .slice A0_1 l0_1.length c0_1, .slice A0_2 l0_2.length c0_2] 31 (0, 0)) (by (with_reducible repeat (first | refine blk_drewN ?_ _ | refine blk_drew ?_ | refine blk_alloc ?_ _)); refine blk_far ?_ NB247_249.out _; (with_reducible repeat (first | refine blk_drewN ?_ _ | refine blk_drew ?_ | refine blk_alloc ?_ _)); exact BK247.out) hb); have n2_ := Aside0.mk (blk_below (g := gb248) (o := .cells #[.int .i64 0, .slice none 0 0, .slice none 0 0] 36 (0, 0)) (by (with_reducible repeat (first | refine blk_drewN ?_ _ | refine blk_drew ?_ | refine blk_alloc ?_ _)); refine blk_far ?_ NB248_249.out _; (with_reducible repeat (first | refine blk_drewN ?_ _ | refine blk_drew ?_ | refine blk_alloc ?_ _)); exact BK248.out) hb); have n3_ := Aside0.mk (blk_below (g := gb249) (o := .cells #[.int .i64 a0_0, .slice none 0 0, .slice none 0 0] 36 (0, 0)) (by (with_reducible repeat (first | refine blk_drewN ?_ _ | refine blk_drew ?_ | refine blk_alloc ?_ _)); refine blk_put (cs := #[.int .i64 0, .slice none 0 0, .slice none 0 0]) ?_ 0 _ rfl; (with_reducible repeat (first | refine blk_drewN ?_ _ | refine blk_drew ?_ | refine blk_alloc ?_ _)); exact BK249.out) hb); have n4_ := Aside0.mk (below_step (bz3 GE247 GE248 GE249) hb); clear BK247; clear BK248; clear BK249; clear HB; have HO252 := n0_; have BK247 := n1_; have BK248 := n2_; have BK249 := n3_; have HB := n4_; clear n0_ n1_ n2_ n3_ n4_; (try clear hb); (try clear hb2); (try clear hk); (try clear hi); (try clear ho0); have hcz15_0 : w13.cell? ⟨gb249, 0, none⟩ = some (.int .i64 a0_0) := (blk_cell BK249.out 0).trans rfl; have hcz15_1 : w13.cell? ⟨gb249, 1, none⟩ = some (.slice none 0 0) := (blk_cell BK249.out 1).trans rfl; have hcz15_2 : w13.cell? ⟨gb249, 2, none⟩ = some (.slice none 0 0) := (blk_cell BK249.out 2).trans rfl; have hfz15_0 := blk_frozen BK249.out 0; have hfz15_1 := blk_frozen BK249.out 1; have hfz15_2 := blk_frozen BK249.out 2; have hcz16_0 : w13.cell? ⟨gb247, 0, none⟩ = some (.int .i64 a0_0) := (blk_cell BK247.out 0).trans rfl; have hcz16_1 : w13.cell? ⟨gb247, 1, none⟩ = some (.slice A0_1 l0_1.length c0_1) := (blk_cell BK247.out 1).trans rfl; have hcz16_2 : w13.cell? ⟨gb247, 2, none⟩ = some (.slice A0_2 l0_2.length c0_2) := (blk_cell BK247.out 2).trans rfl; have hfz16_0 := blk_frozen BK247.out 0; have hfz16_1 := blk_frozen BK247.out 1; have hfz16_2 := blk_frozen BK247.out 2) | ((with_reducible refine gate_callee (f := 63) rfl ?_); refine goesL_ (some 17) rfl rfl Try.func63 kf rfl #[.slice A0_2 l0_2.length c0_2, .bool false] rfl sm ?_; (with_reducible refine (toIntS_padE _ _ l0_2 t253 _ ?side1 ?side2 A4.out).mono ?_); (case side1 => exact Kd.C_below HR0_2.out (bz3 GE247 GE248 GE249)); (case side2 => exact HC0_2.out); rintro e w17 ⟨g18, rfl, ho0, hb⟩; refine ⟨_, rfl, ?_⟩; have n0_ := Aside0.mk (Kd.R_elder' (by (with_reducible repeat (first | apply Kd.R_alloc | apply Kd.R_drewN | apply Kd.R_drew)); exact (Kd.R_mono (Kd.R_far (p := ⟨gb249, 1, none⟩) (Kd.R_types HO252.out BK249.out (by decide)) (fun _ hk => hk.2) (.slice (some ⟨g14, 0, none⟩) l0_1.length t250.length)) (fun _ h_ => h_.1))) (Kd.R_base ho0) hb); have n1_ := Aside0.mk (Kd.R_lower (Kd.R_new' ho0 (Kd.R_lt (by (with_reducible repeat (first | apply Kd.R_alloc | apply Kd.R_drewN | apply Kd.R_drew)); exact (Kd.R_mono (Kd.R_far (p := ⟨gb249, 1, none⟩) (Kd.R_types HO252.out BK249.out (by decide)) (fun _ hk => hk.2) (.slice (some ⟨g14, 0, none⟩) l0_1.length t250.length)) (fun _ h_ => h_.1))))) (below_size (bz3 GE247 GE248 GE249))); have n2_ := Aside0.mk (blk_below (g := gb247) (o := .cells #[.int .i64 a0_0, .slice A0_1 l0_1.length c0_1, .slice A0_2 l0_2.length c0_2] 31 (0, 0)) (by (with_reducible repeat (first | refine blk_drewN ?_ _ | refine blk_drew ?_ | refine blk_alloc ?_ _)); refine blk_far ?_ NB247_249.out _; (with_reducible repeat (first | refine blk_drewN ?_ _ | refine blk_drew ?_ | refine blk_alloc ?_ _)); exact BK247.out) hb); have n3_ := Aside0.mk (blk_below (g := gb248) (o := .cells #[.int .i64 0, .slice none 0 0, .slice none 0 0] 36 (0, 0)) (by (with_reducible repeat (first | refine blk_drewN ?_ _ | refine blk_drew ?_ | refine blk_alloc ?_ _)); refine blk_far ?_ NB248_249.out _; (with_reducible repeat (first | refine blk_drewN ?_ _ | refine blk_drew ?_ | refine blk_alloc ?_ _)); exact BK248.out) hb); have n4_ := Aside0.mk (blk_below (g := gb249) (o := .cells #[.int .i64 a0_0, .slice (some ⟨g14, 0, none⟩) l0_1.length t250.length, .slice none 0 0] 36 (0, 0)) (by (with_reducible repeat (first | refine blk_drewN ?_ _ | refine blk_drew ?_ | refine blk_alloc ?_ _)); refine blk_put (cs := #[.int .i64 a0_0, .slice none 0 0, .slice none 0 0]) ?_ 1 _ rfl; (with_reducible repeat (first | refine blk_drewN ?_ _ | refine blk_drew ?_ | refine blk_alloc ?_ _)); exact BK249.out) hb); have n5_ := Aside0.mk (below_step (bz3 GE247 GE248 GE249) hb); clear HO252; clear BK247; clear BK248; clear BK249; clear HB; have HO252 := n0_; have HO255 := n1_; have BK247 := n2_; have BK248 := n3_; have BK249 := n4_; have HB := n5_; clear n0_ n1_ n2_ n3_ n4_ n5_; (try clear hb); (try clear hb2); (try clear hk); (try clear hi); (try clear ho0); have hcz19_0 : w17.cell? ⟨gb249, 0, none⟩ = some (.int .i64 a0_0) := (blk_cell BK249.out 0).trans rfl; have hcz19_1 : w17.cell? ⟨gb249, 1, none⟩ = some (.slice (some ⟨g14, 0, none⟩) l0_1.length t250.length) := (blk_cell BK249.out 1).trans rfl; have hcz19_2 : w17.cell? ⟨gb249, 2, none⟩ = some (.slice none 0 0) := (blk_cell BK249.out 2).trans rfl; have hfz19_0 := blk_frozen BK249.out 0; have hfz19_1 := blk_frozen BK249.out 1; have hfz19_2 := blk_frozen BK249.out 2; have hcz20_0 : w17.cell? ⟨gb248, 0, none⟩ = some (.int .i64 0) := (blk_cell BK248.out 0).trans rfl; have hcz20_1 : w17.cell? ⟨gb248, 1, none⟩ = some (.slice none 0 0) := (blk_cell BK248.out 1).trans rfl; have hcz20_2 : w17.cell? ⟨gb248, 2, none⟩ = some (.slice none 0 0) := (blk_cell BK248.out 2).trans rfl; have hfz20_0 := blk_frozen BK248.out 0; have hfz20_1 := blk_frozen BK248.out 1; have hfz20_2 := blk_frozen BK248.out 2))
 refine bodyPost_ret (results_cell_row rfl _ _ gb248 36 #[.int .i64 a0_0, .slice (some ⟨g14, 0, none⟩) l0_1.length t250.length, .slice (some ⟨g18, 0, none⟩) l0_2.length t253.length] (0, 0) _ rfl (by (with_reducible repeat (first | refine blk_drewN ?_ _ | refine blk_drew ?_ | refine blk_alloc ?_ _)); refine blk_put (cs := #[.int .i64 a0_0, .slice (some ⟨g14, 0, none⟩) l0_1.length t250.length, .slice none 0 0]) ?_ 2 _ rfl; (with_reducible repeat (first | refine blk_drewN ?_ _ | refine blk_drew ?_ | refine blk_alloc ?_ _)); refine blk_put (cs := #[.int .i64 a0_0, .slice none 0 0, .slice none 0 0]) ?_ 1 _ rfl; (with_reducible repeat (first | refine blk_drewN ?_ _ | refine blk_drew ?_ | refine blk_alloc ?_ _)); refine blk_put (cs := #[.int .i64 0, .slice none 0 0, .slice none 0 0]) ?_ 0 _ rfl; (with_reducible repeat (first | refine blk_drewN ?_ _ | refine blk_drew ?_ | refine blk_alloc ?_ _)); refine blk_far ?_ NB248_249.out _; (with_reducible repeat (first | refine blk_drewN ?_ _ | refine blk_drew ?_ | refine blk_alloc ?_ _)); exact BK248.out) Try.underlying36 rfl kf) rfl ?_
 exact ⟨_, _, er, by (with_reducible repeat (first | apply Kd.R_alloc | apply Kd.R_drewN | apply Kd.R_drew)); exact Kd.R_mono (Kd.R_far (p := ⟨gb248, 2, none⟩) (Kd.R_far (p := ⟨gb248, 1, none⟩) (Kd.R_far (p := ⟨gb248, 0, none⟩) (Kd.R_far (p := ⟨gb249, 2, none⟩) (Kd.R_types (Kd.R_types HO252.out BK249.out (by decide)) BK248.out (by decide)) (fun _ hk => hk.1.2) (.slice (some ⟨g18, 0, none⟩) l0_2.length t253.length)) (fun _ hk => hk.2) (.int .i64 a0_0)) (fun _ hk => hk.2) (.slice (some ⟨g14, 0, none⟩) l0_1.length t250.length)) (fun _ hk => hk.2) (.slice (some ⟨g18, 0, none⟩) l0_2.length t253.length)) (fun _ hk => by have h_ := hk.1.1.2; intro e_; exact h_ (by rw [e_]; rfl)), by (with_reducible repeat (first | apply Kd.R_alloc | apply Kd.R_drewN | apply Kd.R_drew)); exact Kd.R_mono (Kd.R_far (p := ⟨gb248, 2, none⟩) (Kd.R_far (p := ⟨gb248, 1, none⟩) (Kd.R_far (p := ⟨gb248, 0, none⟩) (Kd.R_far (p := ⟨gb249, 2, none⟩) (Kd.R_types (Kd.R_types HO255.out BK249.out (by decide)) BK248.out (by decide)) (fun _ hk => hk.1.2) (.slice (some ⟨g18, 0, none⟩) l0_2.length t253.length)) (fun _ hk => hk.2) (.int .i64 a0_0)) (fun _ hk => hk.2) (.slice (some ⟨g14, 0, none⟩) l0_1.length t250.length)) (fun _ hk => hk.2) (.slice (some ⟨g18, 0, none⟩) l0_2.length t253.length)) (fun _ hk => by have h_ := hk.1.1.2; intro e_; exact h_ (by rw [e_]; rfl)), bz3 GE247 GE248 GE249⟩
theorem toIntS_up {k : Nat} {l r : List Int} {b : Bool} (h : laws_toIntS.f k l b = some r) (d : Nat) : laws_toIntS.f (k + d) l b = some r := by
 induction d with
 | zero => exact h
 | succ d ih => exact laws_toIntS.mono _ _ _ _ ih
theorem toBox_bare (a : Int) (l1 l2 : List Int) (h1 : l1.length ≤ 1000000) (h2 : l2.length ≤ 1000000) : ∃ k, laws_toBox.f k a l1 l2 true = some (a, l1, l2) := by
 obtain ⟨k1, e1⟩ := toIntS_bare l1 h1
 obtain ⟨k2, e2⟩ := toIntS_bare l2 h2
 refine ⟨k1 + k2, ?_⟩
 unfold laws_toBox.f
 rw [toIntS_up e1 k2, Nat.add_comm k1 k2, toIntS_up e2 k1]
 rfl
set_option maxHeartbeats 4000000 in
set_option maxRecDepth 100000 in
theorem intactIntS_padC (g1 g2 : Nat) (l : List Int) (w : World) (hl : l.length ≤ 1000000)
 (h1 : Kd.C (Kd.int .i64) w (some ⟨g1, 0, none⟩) (pad l).length (pad l))
 (h2 : Kd.C (Kd.int .i64) w (some ⟨g2, 0, none⟩) (pad l).length (pad l)) :
 Calls Try.prog 67 #[.slice (some ⟨g1, 0, none⟩) l.length (pad l).length, .slice (some ⟨g2, 0, none⟩) l.length (pad l).length] w fun e w' => e = .returned (.bool true) ∧ Drawn0 w w' := by
 have H1 := Aside0.mk h1
 have H2 := Aside0.mk h2
 have hm := Aside0.mk (roomBehind_eq l.length)
 have hmb := room_le l.length
 have HE := Aside0.mk (eqIntS_self (pad l) (by rw [pad_length]; omega))
 obtain ⟨p, hp⟩ : ∃ p, pad l = p := ⟨_, rfl⟩
 have hpl := pad_length l
 obtain ⟨m, hmm⟩ : ∃ m, room l.length = m := ⟨_, rfl⟩
 rw [hp] at H1 H2 HE hpl ⊢
 rw [hmm] at hm hmb hpl
 have hFw : (IntKind.i64.wrap ((l.length : Int) + (m : Int))) = (p.length : Int) := by rw [i64_w]; unfold wrap64; omega
 have HL := Aside0.mk hpl
 clear h1 h2 hp hpl hmm hmb
 obtain ⟨i0, hi0, _, hsz, _⟩ := info_parts info3
 have hc1 := cut_room (P := Try.prog) 29 3 .i64 Try.underlying29 hi0 (some ⟨g1, 0, none⟩) l.length p.length (p.length : Int) (by omega) (Int.le_refl _)
 have hc2 := cut_room (P := Try.prog) 29 3 .i64 Try.underlying29 hi0 (some ⟨g2, 0, none⟩) l.length p.length (p.length : Int) (by omega) (Int.le_refl _)
 simp only [Int.toNat_natCast] at hc1 hc2
 clear hi0 hsz
 go_enter Try.func67, Try.ntmps67
 go_wp2_with (first | ((with_reducible refine gate_callee (f := 55) rfl ?_); refine goesL_ (some 10) rfl rfl Try.func55 kf rfl #[.int .i64 (l.length : Int)] rfl (by (try simp only [List.map_toArray, List.map_cons, List.map_nil]); first | done | rfl) ?_; (with_reducible refine (laws_roomBehind.calls (l.length : Int) (m : Int) _ hm.out).mono ?_); rintro e w' ⟨rfl, ⟨nd, rfl⟩⟩; refine ⟨_, rfl, ?_⟩) | (go_at_call 48; (with_reducible refine (laws_eqIntS.calls (p.length + 1) _ _ p _ _ p true _ ?side1 ?side2 ?side3 ?side4 HE.out).mono ?_); (case side1 => exact cc H1); (case side2 => exact Nat.le_refl _); (case side3 => exact cc H2); (case side4 => exact Nat.le_refl _); rintro e w' ⟨rfl, ⟨nd, rfl⟩⟩))
 have hbb : ((l.length : Int) == (l.length : Int)) = true := by simp
 go_quiet ((go_at_call 48; (with_reducible refine (laws_eqIntS.calls (p.length + 1) _ _ p _ _ p true _ ?side1 ?side2 ?side3 ?side4 HE.out).mono ?_); (case side1 => exact cc H1); (case side2 => exact Nat.le_refl _); (case side3 => exact cc H2); (case side4 => exact Nat.le_refl _); rintro e w' ⟨rfl, ⟨nd, rfl⟩⟩; (try first | exact ⟨rfl, _, World.drewN_drewN _ _ _⟩ | exact ⟨rfl, _, Eq.trans (World.drewN_drewN _ _ _) (congrArg (World.drewN _) (Nat.add_assoc _ _ _))⟩)))
 go_wp2
 go_ret
 exact ⟨by first | rfl | (simp; done), dz⟩
theorem intactIntS_E (g1 g2 : Nat) (l p : List Int) (w : World) (h1 : Kd.C (Kd.int .i64) w (some ⟨g1, 0, none⟩) p.length p) (_ : l.length ≤ p.length) (h2 : Kd.C (Kd.int .i64) w (some ⟨g2, 0, none⟩) p.length p) (_ : l.length ≤ p.length) (h : l.length ≤ 1000000 ∧ pad l = p) :
 Calls Try.prog 67 #[.slice (some ⟨g1, 0, none⟩) l.length p.length, .slice (some ⟨g2, 0, none⟩) l.length p.length] w fun e w' => e = .returned (.bool true) ∧ Drawn0 w w' := by
 obtain ⟨hn, rfl⟩ := h
 exact intactIntS_padC g1 g2 l w hn h1 h2
set_option maxHeartbeats 8000000 in
set_option maxRecDepth 100000 in
theorem intactBox_pad (a0_0 : Int) (g1 g2 g3 g4 : Nat) (l0_1 l0_2 : List Int) (w : World) (hn1 : l0_1.length ≤ 1000000) (hn2 : l0_2.length ≤ 1000000) (h1 : ∃ b ok, Kd.R (Kd.int .i64) 3 w b ok (.slice (some ⟨g1, 0, none⟩) (pad l0_1).length (pad l0_1).length) (pad l0_1)) (h3 : ∃ b ok, Kd.R (Kd.int .i64) 3 w b ok (.slice (some ⟨g3, 0, none⟩) (pad l0_1).length (pad l0_1).length) (pad l0_1)) (h2 : ∃ b ok, Kd.R (Kd.int .i64) 3 w b ok (.slice (some ⟨g2, 0, none⟩) (pad l0_2).length (pad l0_2).length) (pad l0_2)) (h4 : ∃ b ok, Kd.R (Kd.int .i64) 3 w b ok (.slice (some ⟨g4, 0, none⟩) (pad l0_2).length (pad l0_2).length) (pad l0_2)) :
 Calls Try.prog 21 #[.agg #[.int .i64 a0_0, .slice (some ⟨g1, 0, none⟩) l0_1.length (pad l0_1).length, .slice (some ⟨g2, 0, none⟩) l0_2.length (pad l0_2).length], .agg #[.int .i64 a0_0, .slice (some ⟨g3, 0, none⟩) l0_1.length (pad l0_1).length, .slice (some ⟨g4, 0, none⟩) l0_2.length (pad l0_2).length]] w fun e w' => e = .returned (.bool true) ∧ Below w.heap.size w w' := by
 obtain ⟨_, _, h1⟩ := h1
 obtain ⟨_, _, h2⟩ := h2
 obtain ⟨_, _, h3⟩ := h3
 obtain ⟨_, _, h4⟩ := h4
 have HR0_1 := Aside0.mk (Kd.R_reads' h1).2.2
 have HR0_2 := Aside0.mk (Kd.R_reads' h2).2.2
 have HR1_1 := Aside0.mk (Kd.R_reads' h3).2.2
 have HR1_2 := Aside0.mk (Kd.R_reads' h4).2.2
 have HC0_1 := Aside0.mk (pad_le l0_1)
 have HC0_2 := Aside0.mk (pad_le l0_2)
 obtain ⟨p1, hp1⟩ : ∃ p, pad l0_1 = p := ⟨_, rfl⟩
 obtain ⟨p2, hp2⟩ : ∃ p, pad l0_2 = p := ⟨_, rfl⟩
 rw [hp1] at HR0_1 HR1_1 HC0_1 ⊢
 rw [hp2] at HR0_2 HR1_2 HC0_2 ⊢
 have A4 := Aside0.mk (⟨hn1, hp1⟩ : l0_1.length ≤ 1000000 ∧ pad l0_1 = p1)
 have A6 := Aside0.mk (⟨hn2, hp2⟩ : l0_2.length ≤ 1000000 ∧ pad l0_2 = p2)
 clear h1 h2 h3 h4 hn1 hn2 hp1 hp2
 have HC1_1 := HC0_1
 have HC1_2 := HC0_2
 have c3b0 : (a0_0 == a0_0) = true := beq_iff_eq.mpr rfl
 have c3b1 : (a0_0 != a0_0) = false := bne_eq_false_iff_eq.mpr rfl
 have hu36 := Try.underlying36
 have HB := Aside0.mk (Below.refl w.heap.size w)
 go_enter Try.func21, Try.ntmps21
 go_wp2_with (first | ((with_reducible refine gate_dst (N := 2) rfl ?_); refine bv (N := 2) (cs := #[.int .i64 a0_0, .slice (some ⟨g1, 0, none⟩) l0_1.length p1.length, .slice (some ⟨g2, 0, none⟩) l0_2.length p2.length]) (t := 36) ?_; intro gb117 hg w8 hbox hb; have n0_ := Aside0.mk (below_step bz hb); have n1_ := Aside0.mk (hbox); have n2_ := (gz hg : Aside0 (w.heap.size ≤ _)); have n3_ := (gz hg : Aside0 (w.heap.size ≤ _)); clear HB; have HB := n0_; have BK117 := n1_; have GW117 := n2_; have GE117 := n3_; clear n0_ n1_ n2_ n3_; clear hb hbox hg) | ((with_reducible refine gate_dst (N := 3) rfl ?_); refine bv (N := 3) (cs := #[.int .i64 a0_0, .slice (some ⟨g3, 0, none⟩) l0_1.length p1.length, .slice (some ⟨g4, 0, none⟩) l0_2.length p2.length]) (t := 36) ?_; intro gb118 hg w9 hbox hb; have n0_ := bb BK117 hb; have n1_ := Aside0.mk (below_step (bz1 GE117) hb); have n2_ := Aside0.mk (hbox); have n3_ := Aside0.mk ((by rw [hg]; exact (below_size (bz1 GE117)) : w.heap.size ≤ gb118)); have n4_ := Aside0.mk ((by rw [hg]; exact (below_size (bz1 GE117)) : w.heap.size ≤ gb118)); have n5_ := Aside0.mk ((by rw [hg]; exact Nat.ne_of_lt (blk_lt (g := gb117) (o := .cells #[.int .i64 a0_0, .slice (some ⟨g1, 0, none⟩) l0_1.length p1.length, .slice (some ⟨g2, 0, none⟩) l0_2.length p2.length] 36 (0, 0)) (bk BK117)) : gb117 ≠ gb118)); have n6_ := Aside0.mk ((by rw [hg]; exact Nat.ne_of_gt (blk_lt (g := gb117) (o := .cells #[.int .i64 a0_0, .slice (some ⟨g1, 0, none⟩) l0_1.length p1.length, .slice (some ⟨g2, 0, none⟩) l0_2.length p2.length] 36 (0, 0)) (bk BK117)) : gb118 ≠ gb117)); clear BK117; clear HB; have BK117 := n0_; have HB := n1_; have BK118 := n2_; have GW118 := n3_; have GE118 := n4_; have NB117_118 := n5_; have NB118_117 := n6_; clear n0_ n1_ n2_ n3_ n4_ n5_ n6_; clear hb hbox hg; have hnb10 := NB117_118.out; have hnc10 := NB118_117.out; have hcz11_0 : w9.cell? ⟨gb117, 0, none⟩ = some (.int .i64 a0_0) := (blk_cell BK117.out 0).trans rfl; have hcz11_1 : w9.cell? ⟨gb117, 1, none⟩ = some (.slice (some ⟨g1, 0, none⟩) l0_1.length p1.length) := (blk_cell BK117.out 1).trans rfl; have hcz11_2 : w9.cell? ⟨gb117, 2, none⟩ = some (.slice (some ⟨g2, 0, none⟩) l0_2.length p2.length) := (blk_cell BK117.out 2).trans rfl; have hfz11_0 := blk_frozen BK117.out 0; have hfz11_1 := blk_frozen BK117.out 1; have hfz11_2 := blk_frozen BK117.out 2; have hcz12_0 : w9.cell? ⟨gb118, 0, none⟩ = some (.int .i64 a0_0) := (blk_cell BK118.out 0).trans rfl; have hcz12_1 : w9.cell? ⟨gb118, 1, none⟩ = some (.slice (some ⟨g3, 0, none⟩) l0_1.length p1.length) := (blk_cell BK118.out 1).trans rfl; have hcz12_2 : w9.cell? ⟨gb118, 2, none⟩ = some (.slice (some ⟨g4, 0, none⟩) l0_2.length p2.length) := (blk_cell BK118.out 2).trans rfl; have hfz12_0 := blk_frozen BK118.out 0; have hfz12_1 := blk_frozen BK118.out 1; have hfz12_2 := blk_frozen BK118.out 2) | ((with_reducible refine gate_callee (f := 67) rfl ?_); refine goesL_ (some 14) rfl rfl Try.func67 kf rfl #[.slice (some ⟨g1, 0, none⟩) l0_1.length p1.length, .slice (some ⟨g3, 0, none⟩) l0_1.length p1.length] rfl sm ?_; (with_reducible refine (intactIntS_E _ _ l0_1 p1 _ ?side1 ?side2 ?side3 ?side4 A4.out).mono ?_); (case side1 => exact cb HR0_1); (case side2 => exact HC0_1.out); (case side3 => exact cb HR1_1); (case side4 => exact HC1_1.out); rintro e w' ⟨rfl, ⟨nd, rfl⟩⟩; refine ⟨_, rfl, ?_⟩) | ((with_reducible refine gate_callee (f := 67) rfl ?_); refine goesL_ (some 20) rfl rfl Try.func67 kf rfl #[.slice (some ⟨g2, 0, none⟩) l0_2.length p2.length, .slice (some ⟨g4, 0, none⟩) l0_2.length p2.length] rfl sm ?_; (with_reducible refine (intactIntS_E _ _ l0_2 p2 _ ?side1 ?side2 ?side3 ?side4 A6.out).mono ?_); (case side1 => repeat (first | exact (Kd.C_below HR0_2.out (bz2 GE117 GE118)) | (with_reducible refine Kd.C_alloc ?_ _) | (with_reducible refine Kd.C_drewN ?_ _) | (with_reducible refine Kd.C_drew ?_))); (case side2 => exact HC0_2.out); (case side3 => repeat (first | exact (Kd.C_below HR1_2.out (bz2 GE117 GE118)) | (with_reducible refine Kd.C_alloc ?_ _) | (with_reducible refine Kd.C_drewN ?_ _) | (with_reducible refine Kd.C_drew ?_))); (case side4 => exact HC1_2.out); rintro e w' ⟨rfl, ⟨nd, rfl⟩⟩; refine ⟨_, rfl, ?_⟩))
 go_ret
 exact ⟨er, bz2 GE117 GE118⟩
set_option maxHeartbeats 8000000 in
set_option maxRecDepth 100000 in
theorem law_walk (a0 : Int) (A0_1 : Option Addr) (c0_1 : Nat) (l0_1 : List Int) (A0_2 : Option Addr) (c0_2 : Nat) (l0_2 : List Int) (A1 : Option Addr) (c1 : Nat) (l1 : List S82) (q1 P1 : List S44) (kw1 kb1 ke1 : Nat)  (kb0 : Nat) (w : World) (hr0_1 : Kd.C (Kd.int .i64) w A0_1 l0_1.length l0_1) (hc0_1 : l0_1.length ≤ c0_1) (hr0_2 : Kd.C (Kd.int .i64) w A0_2 l0_2.length l0_2) (hc0_2 : l0_2.length ≤ c0_2) (hr1 : Kd.C k82 w A1 l1.length l1) (hc1 : l1.length ≤ c1) (hw1 : laws_toDyadicSW.f kw1 l1 false = some P1) (hba1 : laws_toDyadicS.f kb1 l1 true = some q1) (hql1 : q1.length = l1.length) (hp1 : ∃ f, P1 = q1 ++ f) (hpl1 : P1.length = q1.length + room q1.length) (he1 : laws_eqDyadicS.f ke1 P1 P1 = some true)   (hba0 : laws_toBox.f kb0 a0 l0_1 l0_2 true = some (a0, l0_1, l0_2)) (hn : l0_1.length + l0_2.length + l1.length ≤ 1000000) (ks ki : Nat) (r1 : Bool) (r2 : Bool) (hs : spec_HasPoint.f ks a0 l0_1 l0_2 q1 = some (r1, r2)) (hi : impl_HasPoint.f ki a0 l0_1 l0_2 q1 = some (r1, r2)) :
 Calls Try.prog 7 #[.agg #[.int .i64 a0, .slice A0_1 l0_1.length c0_1, .slice A0_2 l0_2.length c0_2], .slice A1 l1.length c1] w fun e w' => e = .returned (.bool true) ∧ Below w.heap.size w w' := by
 have HR0_1 := Aside0.mk hr0_1
 have HC0_1 := Aside0.mk hc0_1
 have hm0_1 := hr0_1.2.1
 have HR0_2 := Aside0.mk hr0_2
 have HC0_2 := Aside0.mk hc0_2
 have hm0_2 := hr0_2.2.1
 have HR1 := Aside0.mk hr1
 have HC1 := Aside0.mk hc1
 have hm1 := hr1.2.1
 have HW1 := Aside0.mk hw1
 have HBA1 := Aside0.mk hba1
 have HQL1 := Aside0.mk hql1
 have HP1 := Aside0.mk hp1
 have HPL1 := Aside0.mk hpl1
 have HQN1 : Aside0 (q1.length ≤ 1000000) := ⟨by omega⟩
 have HE1 := Aside0.mk he1
 have HN0_1 : Aside0 (l0_1.length ≤ 1000000) := ⟨by omega⟩
 have HP0_1 : Aside0 (∃ f, pad l0_1 = l0_1 ++ f) := ⟨_, rfl⟩
 have HN0_2 : Aside0 (l0_2.length ≤ 1000000) := ⟨by omega⟩
 have HP0_2 : Aside0 (∃ f, pad l0_2 = l0_2 ++ f) := ⟨_, rfl⟩
 have HBA0 := Aside0.mk hba0
 obtain ⟨s0, hs0⟩ : ∃ s : Int, s = (1000000 : Int) - (l0_1.length : Int) - (l0_2.length : Int) := ⟨_, rfl⟩
 have hzs0 : laws_szBox.f a0 l0_1 l0_2 1000000 = some s0 := by unfold laws_szBox.f; unfold laws_szIntS.f; (by_cases hA_ : wrap64 (1000000 - (l0_1.length : Int)) < 0 <;> by_cases hB_ : wrap64 (wrap64 (1000000 - (l0_1.length : Int)) - (l0_2.length : Int)) < 0 <;> simp [hA_, hB_] <;> (unfold wrap64 at *; omega))
 have HSZ0 := Aside0.mk hzs0
 have cs0 : decide (s0 < 0) = false := decide_eq_false (by omega)
 obtain ⟨s1, hs1⟩ : ∃ s : Int, s = (s0 : Int) - (l1.length : Int) := ⟨_, rfl⟩
 have hzs1 : laws_szDyadicS.f l1 s0 = some s1 := by unfold laws_szDyadicS.f; rw [if_neg (by unfold wrap64; omega)]; congr 1; unfold wrap64; omega
 have HSZ1 := Aside0.mk hzs1
 have cs1 : decide (s1 < 0) = false := decide_eq_false (by omega)
 have HS := Aside0.mk hs
 have HI := Aside0.mk hi
 have HB := Aside0.mk (Below.refl w.heap.size w)
 have Z := Aside0.mk (Nat.zero_le w.heap.size)
 clear hs hi hr0_1 hc0_1 hr0_2 hc0_2 hr1 hc1 hw1 hba1 hql1 hp1 hpl1 he1 hba0 hs0 hzs0 hs1 hzs1 hn hm0_1 hm0_2 hm1
 go_enter Try.func7, Try.ntmps7
 go_wp2_with (first
  | ((with_reducible refine gate_dst (N := 2) rfl ?_); refine bv (N := 2) (cs := #[.int .i64 a0, .slice A0_1 l0_1.length c0_1, .slice A0_2 l0_2.length c0_2]) (t := 31) ?_; intro gb1_ hg w1_ hbox hb; obtain ⟨z2_, z4_⟩ := still (by exact Z.out) bz hb; have GB1 : Aside0 (0 ≤ gb1_) := ⟨by rw [hg]; exact Z.out⟩; have zb_ : gb1_ + 1 ≤ w1_.heap.size := blk_lt hbox; have BK1 := Aside0.mk hbox; clear HB Z; have HB := Aside0.mk z4_; have Z := Aside0.mk zb_; clear z2_ z4_ zb_ hb hg hbox; have hcz2_BK1_0 : w1_.cell? ⟨gb1_, 0, none⟩ = some (.int .i64 a0) := (blk_cell BK1.out 0).trans rfl; have hfz2_BK1_0 := blk_frozen BK1.out 0; have hcz2_BK1_1 : w1_.cell? ⟨gb1_, 1, none⟩ = some (.slice A0_1 l0_1.length c0_1) := (blk_cell BK1.out 1).trans rfl; have hfz2_BK1_1 := blk_frozen BK1.out 1; have hcz2_BK1_2 : w1_.cell? ⟨gb1_, 2, none⟩ = some (.slice A0_2 l0_2.length c0_2) := (blk_cell BK1.out 2).trans rfl; have hfz2_BK1_2 := blk_frozen BK1.out 2)
  | ((with_reducible refine gate_callee (f := 16) rfl ?_); refine goesL_ (some 16) rfl rfl Try.func16 kf rfl #[.agg #[.int .i64 a0, .slice A0_1 l0_1.length c0_1, .slice A0_2 l0_2.length c0_2], .int .i64 1000000] rfl sm ?_; (with_reducible refine (laws_szBox.calls a0 _ _ l0_1 _ _ l0_2 1000000 s0 _ ?side1 ?side2 ?side3 ?side4 HSZ0.out).mono ?_); (case side1 => repeat (first | exact HR0_1.out | exact (Kd.C_below HR0_1.out bz) | (with_reducible refine Kd.C_alloc ?_ _) | (with_reducible refine Kd.C_drewN ?_ _) | (with_reducible refine Kd.C_drew ?_))); (case side2 => exact HC0_1.out); (case side3 => repeat (first | exact HR0_2.out | exact (Kd.C_below HR0_2.out bz) | (with_reducible refine Kd.C_alloc ?_ _) | (with_reducible refine Kd.C_drewN ?_ _) | (with_reducible refine Kd.C_drew ?_))); (case side4 => exact HC0_2.out); rintro e w3_ ⟨rfl, hb⟩; refine ⟨_, rfl, ?_⟩; obtain ⟨z2_, z4_⟩ := still (by exact Z.out) bz hb; have nBK1_ := bb BK1 hb; clear BK1 HB Z; have BK1 := nBK1_; clear nBK1_; have HB := Aside0.mk z4_; have Z := Aside0.mk z2_; clear z2_ z4_ hb; (try clear hcz2_BK1_0 hfz2_BK1_0 hcz2_BK1_1 hfz2_BK1_1 hcz2_BK1_2 hfz2_BK1_2); have hcz4_BK1_0 : w3_.cell? ⟨gb1_, 0, none⟩ = some (.int .i64 a0) := (blk_cell BK1.out 0).trans rfl; have hfz4_BK1_0 := blk_frozen BK1.out 0; have hcz4_BK1_1 : w3_.cell? ⟨gb1_, 1, none⟩ = some (.slice A0_1 l0_1.length c0_1) := (blk_cell BK1.out 1).trans rfl; have hfz4_BK1_1 := blk_frozen BK1.out 1; have hcz4_BK1_2 : w3_.cell? ⟨gb1_, 2, none⟩ = some (.slice A0_2 l0_2.length c0_2) := (blk_cell BK1.out 2).trans rfl; have hfz4_BK1_2 := blk_frozen BK1.out 2)
  | ((with_reducible refine gate_callee (f := 11) rfl ?_); refine goesL_ (some 21) rfl rfl Try.func11 kf rfl #[.slice A1 l1.length c1, .int .i64 s0] rfl sm ?_; (with_reducible refine (laws_szDyadicS.calls _ _ l1 s0 s1 _ ?side1 ?side2 HSZ1.out).mono ?_); (case side1 => repeat (first | exact HR1.out | exact (Kd.C_below HR1.out bz) | (with_reducible refine Kd.C_alloc ?_ _) | (with_reducible refine Kd.C_drewN ?_ _) | (with_reducible refine Kd.C_drew ?_))); (case side2 => exact HC1.out); rintro e w' ⟨rfl, ⟨nd, rfl⟩⟩; refine ⟨_, rfl, ?_⟩)
  | ((with_reducible refine gate_callee (f := 18) rfl ?_); refine goesL_ (some 26) rfl rfl Try.func18 kf rfl #[.agg #[.int .i64 a0, .slice A0_1 l0_1.length c0_1, .slice A0_2 l0_2.length c0_2], .bool false] rfl sm ?_; (with_reducible refine (toBox_pad a0 _ _ l0_1 _ _ l0_2 _ ?side1 ?side2 ?side3 ?side4 HN0_1.out HN0_2.out).mono ?_); (case side1 => repeat (first | exact HR0_1.out | exact (Kd.C_below HR0_1.out bz) | (with_reducible refine Kd.C_alloc ?_ _) | (with_reducible refine Kd.C_drewN ?_ _) | (with_reducible refine Kd.C_drew ?_))); (case side2 => exact HC0_1.out); (case side3 => repeat (first | exact HR0_2.out | exact (Kd.C_below HR0_2.out bz) | (with_reducible refine Kd.C_alloc ?_ _) | (with_reducible refine Kd.C_drewN ?_ _) | (with_reducible refine Kd.C_drew ?_))); (case side4 => exact HC0_2.out); rintro e w5_ ⟨g5_0_, g5_1_, rfl, ho0, ho1, hb⟩; refine ⟨_, rfl, ?_⟩; replace ho0 := Kd.R_mono ho0 (fun _ _ => True.intro); replace ho1 := Kd.R_mono ho1 (fun _ _ => True.intro); obtain ⟨a5_1_, b5_1_, z1_, z2_, zo0_, zo1_, z4_⟩ := made2 (by exact Z.out) bz hb ho0 ho1; have nBK1_ := bb BK1 hb; clear BK1 HB Z; have BK1 := nBK1_; clear nBK1_; have O5_0 := Aside0.mk zo0_; have O5_1 := Aside0.mk zo1_; have Q5_1 := Aside0.mk z1_; have HB := Aside0.mk z4_; have Z := Aside0.mk z2_; clear z1_ z2_ z4_ hb ho0 zo0_ ho1 zo1_; (try clear hcz4_BK1_0 hfz4_BK1_0 hcz4_BK1_1 hfz4_BK1_1 hcz4_BK1_2 hfz4_BK1_2); have hcz6_BK1_0 : w5_.cell? ⟨gb1_, 0, none⟩ = some (.int .i64 a0) := (blk_cell BK1.out 0).trans rfl; have hfz6_BK1_0 := blk_frozen BK1.out 0; have hcz6_BK1_1 : w5_.cell? ⟨gb1_, 1, none⟩ = some (.slice A0_1 l0_1.length c0_1) := (blk_cell BK1.out 1).trans rfl; have hfz6_BK1_1 := blk_frozen BK1.out 1; have hcz6_BK1_2 : w5_.cell? ⟨gb1_, 2, none⟩ = some (.slice A0_2 l0_2.length c0_2) := (blk_cell BK1.out 2).trans rfl; have hfz6_BK1_2 := blk_frozen BK1.out 2)
  | ((with_reducible refine gate_callee (f := 13) rfl ?_); refine goesL_ (some 28) rfl rfl Try.func13 kf rfl #[.slice A1 l1.length c1, .bool false] rfl sm ?_; (with_reducible refine (toDyadicS_pad kw1 _ _ l1 q1 P1 _ ?side1 ?side2 HW1.out HQL1.out).mono ?_); (case side1 => repeat (first | exact HR1.out | exact (Kd.C_below HR1.out bz) | (with_reducible refine Kd.C_alloc ?_ _) | (with_reducible refine Kd.C_drewN ?_ _) | (with_reducible refine Kd.C_drew ?_))); (case side2 => exact HC1.out); rintro e w7_ ⟨A7_, c7_, rfl, ho0, hb⟩; refine ⟨_, rfl, ?_⟩; obtain ⟨a7_0_, b7_0_, z1_, z2_, zo0_, z4_⟩ := made (by exact Z.out) bz hb ho0; have nO5_0_ := Aside0.mk (Kd.R_below (kr O5_0) hb); have nO5_1_ := Aside0.mk (Kd.R_below (kr O5_1) hb); have nBK1_ := bb BK1 hb; clear O5_0 O5_1 BK1 HB Z; have O5_0 := nO5_0_; have O5_1 := nO5_1_; have BK1 := nBK1_; clear nO5_0_ nO5_1_ nBK1_; have O7_0 := Aside0.mk zo0_; have Q7_0 := Aside0.mk z1_; have HB := Aside0.mk z4_; have Z := Aside0.mk z2_; clear z1_ z2_ z4_ hb ho0 zo0_; (try clear hcz6_BK1_0 hfz6_BK1_0 hcz6_BK1_1 hfz6_BK1_1 hcz6_BK1_2 hfz6_BK1_2); have hcz8_BK1_0 : w7_.cell? ⟨gb1_, 0, none⟩ = some (.int .i64 a0) := (blk_cell BK1.out 0).trans rfl; have hfz8_BK1_0 := blk_frozen BK1.out 0; have hcz8_BK1_1 : w7_.cell? ⟨gb1_, 1, none⟩ = some (.slice A0_1 l0_1.length c0_1) := (blk_cell BK1.out 1).trans rfl; have hfz8_BK1_1 := blk_frozen BK1.out 1; have hcz8_BK1_2 : w7_.cell? ⟨gb1_, 2, none⟩ = some (.slice A0_2 l0_2.length c0_2) := (blk_cell BK1.out 2).trans rfl; have hfz8_BK1_2 := blk_frozen BK1.out 2)
  | ((with_reducible refine gate_callee (f := 35) rfl ?_); refine goesL_ (some 29) rfl rfl Try.func35 kf rfl #[.agg #[.int .i64 a0, .slice (some ⟨g5_0_, 0, none⟩) l0_1.length (pad l0_1).length, .slice (some ⟨g5_1_, 0, none⟩) l0_2.length (pad l0_2).length], .slice A7_ q1.length c7_] rfl sm ?_; (with_reducible refine (spec_HasPoint.calls ks a0 _ _ l0_1 _ _ l0_2 _ _ q1 r1 r2 _ ?side1 ?side2 ?side3 ?side4 ?side5 ?side6 HS.out).mono ?_); (case side1 => repeat (first | exact pad_reads O5_0.out | (with_reducible refine Kd.C_alloc ?_ _) | (with_reducible refine Kd.C_drewN ?_ _) | (with_reducible refine Kd.C_drew ?_))); (case side2 => exact pad_le _); (case side3 => repeat (first | exact pad_reads O5_1.out | (with_reducible refine Kd.C_alloc ?_ _) | (with_reducible refine Kd.C_drewN ?_ _) | (with_reducible refine Kd.C_drew ?_))); (case side4 => exact pad_le _); (case side5 => repeat (first | exact padr HP1.out O7_0.out | (with_reducible refine Kd.C_alloc ?_ _) | (with_reducible refine Kd.C_drewN ?_ _) | (with_reducible refine Kd.C_drew ?_))); (case side6 => exact padl HP1.out (Kd.R_reads' O7_0.out).2.1); rintro e w9_ ⟨rfl, hb⟩; refine ⟨_, rfl, ?_⟩; obtain ⟨z2_, z4_⟩ := still (by exact Z.out) bz hb; have nO5_0_ := Aside0.mk (Kd.R_below (kr O5_0) hb); have nO5_1_ := Aside0.mk (Kd.R_below (kr O5_1) hb); have nO7_0_ := Aside0.mk (Kd.R_below (kr O7_0) hb); have nBK1_ := bb BK1 hb; clear O5_0 O5_1 O7_0 BK1 HB Z; have O5_0 := nO5_0_; have O5_1 := nO5_1_; have O7_0 := nO7_0_; have BK1 := nBK1_; clear nO5_0_ nO5_1_ nO7_0_ nBK1_; have HB := Aside0.mk z4_; have Z := Aside0.mk z2_; clear z2_ z4_ hb; (try clear hcz8_BK1_0 hfz8_BK1_0 hcz8_BK1_1 hfz8_BK1_1 hcz8_BK1_2 hfz8_BK1_2); have hcz10_BK1_0 : w9_.cell? ⟨gb1_, 0, none⟩ = some (.int .i64 a0) := (blk_cell BK1.out 0).trans rfl; have hfz10_BK1_0 := blk_frozen BK1.out 0; have hcz10_BK1_1 : w9_.cell? ⟨gb1_, 1, none⟩ = some (.slice A0_1 l0_1.length c0_1) := (blk_cell BK1.out 1).trans rfl; have hfz10_BK1_1 := blk_frozen BK1.out 1; have hcz10_BK1_2 : w9_.cell? ⟨gb1_, 2, none⟩ = some (.slice A0_2 l0_2.length c0_2) := (blk_cell BK1.out 2).trans rfl; have hfz10_BK1_2 := blk_frozen BK1.out 2)
  | ((with_reducible refine gate_callee (f := 18) rfl ?_); refine goesL_ (some 33) rfl rfl Try.func18 kf rfl #[.agg #[.int .i64 a0, .slice A0_1 l0_1.length c0_1, .slice A0_2 l0_2.length c0_2], .bool false] rfl sm ?_; (with_reducible refine (toBox_pad a0 _ _ l0_1 _ _ l0_2 _ ?side1 ?side2 ?side3 ?side4 HN0_1.out HN0_2.out).mono ?_); (case side1 => repeat (first | exact HR0_1.out | exact (Kd.C_below HR0_1.out bz) | (with_reducible refine Kd.C_alloc ?_ _) | (with_reducible refine Kd.C_drewN ?_ _) | (with_reducible refine Kd.C_drew ?_))); (case side2 => exact HC0_1.out); (case side3 => repeat (first | exact HR0_2.out | exact (Kd.C_below HR0_2.out bz) | (with_reducible refine Kd.C_alloc ?_ _) | (with_reducible refine Kd.C_drewN ?_ _) | (with_reducible refine Kd.C_drew ?_))); (case side4 => exact HC0_2.out); rintro e w11_ ⟨g11_0_, g11_1_, rfl, ho0, ho1, hb⟩; refine ⟨_, rfl, ?_⟩; replace ho0 := Kd.R_mono ho0 (fun _ _ => True.intro); replace ho1 := Kd.R_mono ho1 (fun _ _ => True.intro); obtain ⟨a11_1_, b11_1_, z1_, z2_, zo0_, zo1_, z4_⟩ := made2 (by exact Z.out) bz hb ho0 ho1; have nO5_0_ := Aside0.mk (Kd.R_below (kr O5_0) hb); have nO5_1_ := Aside0.mk (Kd.R_below (kr O5_1) hb); have nO7_0_ := Aside0.mk (Kd.R_below (kr O7_0) hb); have nBK1_ := bb BK1 hb; clear O5_0 O5_1 O7_0 BK1 HB Z; have O5_0 := nO5_0_; have O5_1 := nO5_1_; have O7_0 := nO7_0_; have BK1 := nBK1_; clear nO5_0_ nO5_1_ nO7_0_ nBK1_; have O11_0 := Aside0.mk zo0_; have O11_1 := Aside0.mk zo1_; have Q11_1 := Aside0.mk z1_; have HB := Aside0.mk z4_; have Z := Aside0.mk z2_; clear z1_ z2_ z4_ hb ho0 zo0_ ho1 zo1_; (try clear hcz10_BK1_0 hfz10_BK1_0 hcz10_BK1_1 hfz10_BK1_1 hcz10_BK1_2 hfz10_BK1_2); have hcz12_BK1_0 : w11_.cell? ⟨gb1_, 0, none⟩ = some (.int .i64 a0) := (blk_cell BK1.out 0).trans rfl; have hfz12_BK1_0 := blk_frozen BK1.out 0; have hcz12_BK1_1 : w11_.cell? ⟨gb1_, 1, none⟩ = some (.slice A0_1 l0_1.length c0_1) := (blk_cell BK1.out 1).trans rfl; have hfz12_BK1_1 := blk_frozen BK1.out 1; have hcz12_BK1_2 : w11_.cell? ⟨gb1_, 2, none⟩ = some (.slice A0_2 l0_2.length c0_2) := (blk_cell BK1.out 2).trans rfl; have hfz12_BK1_2 := blk_frozen BK1.out 2)
  | ((with_reducible refine gate_dst (N := 8) rfl ?_); refine bv (N := 8) (cs := #[.int .i64 0, .slice none 0 0, .slice none 0 0]) (t := 36) ?_; intro gb13_ hg w13_ hbox hb; obtain ⟨z2_, z4_⟩ := still (by exact Z.out) bz hb; have GB13 : Aside0 (b11_1_ ≤ gb13_) := ⟨by rw [hg]; exact Z.out⟩; have GE13 : Aside0 (w.heap.size ≤ gb13_) := ⟨by rw [hg]; exact (below_size bz)⟩; have NBBK1_13 : Aside0 (gb1_ ≠ gb13_) := ⟨by rw [hg]; exact Nat.ne_of_lt (blk_lt (w := _) (o := .cells #[.int .i64 a0, .slice A0_1 l0_1.length c0_1, .slice A0_2 l0_2.length c0_2] 31 (0, 0)) (bk BK1))⟩; have nO5_0_ := Aside0.mk (Kd.R_below (kr O5_0) hb); have nO5_1_ := Aside0.mk (Kd.R_below (kr O5_1) hb); have nO7_0_ := Aside0.mk (Kd.R_below (kr O7_0) hb); have nO11_0_ := Aside0.mk (Kd.R_below (kr O11_0) hb); have nO11_1_ := Aside0.mk (Kd.R_below (kr O11_1) hb); have nBK1_ := bb BK1 hb; have BK13 := Aside0.mk hbox; clear O5_0 O5_1 O7_0 O11_0 O11_1 BK1 HB Z; have O5_0 := nO5_0_; have O5_1 := nO5_1_; have O7_0 := nO7_0_; have O11_0 := nO11_0_; have O11_1 := nO11_1_; have BK1 := nBK1_; clear nO5_0_ nO5_1_ nO7_0_ nO11_0_ nO11_1_ nBK1_; have HB := Aside0.mk z4_; have Z := Aside0.mk z2_; clear z2_ z4_ hb hg hbox; (try clear hcz12_BK1_0 hfz12_BK1_0 hcz12_BK1_1 hfz12_BK1_1 hcz12_BK1_2 hfz12_BK1_2); have hcz14_BK1_0 : w13_.cell? ⟨gb1_, 0, none⟩ = some (.int .i64 a0) := (blk_cell BK1.out 0).trans rfl; have hfz14_BK1_0 := blk_frozen BK1.out 0; have hcz14_BK1_1 : w13_.cell? ⟨gb1_, 1, none⟩ = some (.slice A0_1 l0_1.length c0_1) := (blk_cell BK1.out 1).trans rfl; have hfz14_BK1_1 := blk_frozen BK1.out 1; have hcz14_BK1_2 : w13_.cell? ⟨gb1_, 2, none⟩ = some (.slice A0_2 l0_2.length c0_2) := (blk_cell BK1.out 2).trans rfl; have hfz14_BK1_2 := blk_frozen BK1.out 2; have hcz14_BK13_0 : w13_.cell? ⟨gb13_, 0, none⟩ = some (.int .i64 0) := (blk_cell BK13.out 0).trans rfl; have hfz14_BK13_0 := blk_frozen BK13.out 0; have hcz14_BK13_1 : w13_.cell? ⟨gb13_, 1, none⟩ = some (.slice none 0 0) := (blk_cell BK13.out 1).trans rfl; have hfz14_BK13_1 := blk_frozen BK13.out 1; have hcz14_BK13_2 : w13_.cell? ⟨gb13_, 2, none⟩ = some (.slice none 0 0) := (blk_cell BK13.out 2).trans rfl; have hfz14_BK13_2 := blk_frozen BK13.out 2)
  | ((with_reducible refine gate_store (t := 36) (p := 8) rfl ?_); refine store_event (t := 36) (p := 8) (v := ?vo_w15_) (w1 := (((w13_.setCell ⟨gb13_, 0, none⟩ (.int .i64 a0)).setCell ⟨gb13_, 1, none⟩ (.slice (some ⟨g11_0_, 0, none⟩) l0_1.length (pad l0_1).length)).setCell ⟨gb13_, 2, none⟩ (.slice (some ⟨g11_1_, 0, none⟩) l0_2.length (pad l0_2).length))) ?hg ?ho ?hn ?hr ?_; (case ho => rfl); (case hg => rfl); (case hn => rfl); (case hr => first | (go_simp; done) | (go_simp; rfl)); intro w15_ hw; have hk := (((Kept.refl w13_ (fun k_ => k_ = gb13_)).setCell (p := ⟨gb13_, 0, none⟩) (.inl rfl) (.int .i64 a0)).setCell (p := ⟨gb13_, 1, none⟩) (.inl rfl) (.slice (some ⟨g11_0_, 0, none⟩) l0_1.length (pad l0_1).length)).setCell (p := ⟨gb13_, 2, none⟩) (.inl rfl) (.slice (some ⟨g11_1_, 0, none⟩) l0_2.length (pad l0_2).length); rw [← hw] at hk; have nO5_0_ := Aside0.mk (Kd.R_kept (kr O5_0) hk (fun k_ h1_ h2_ => by have := GB13.out; have := GB1.out; have := Q5_1.out; have := Q7_0.out; have := Q11_1.out; omega)); have nO5_1_ := Aside0.mk (Kd.R_kept (kr O5_1) hk (fun k_ h1_ h2_ => by have := GB13.out; have := GB1.out; have := Q5_1.out; have := Q7_0.out; have := Q11_1.out; omega)); have nO7_0_ := Aside0.mk (Kd.R_kept (kr O7_0) hk (fun k_ h1_ h2_ => by have := GB13.out; have := GB1.out; have := Q5_1.out; have := Q7_0.out; have := Q11_1.out; omega)); have nO11_0_ := Aside0.mk (Kd.R_kept (kr O11_0) hk (fun k_ h1_ h2_ => by have := GB13.out; have := GB1.out; have := Q5_1.out; have := Q7_0.out; have := Q11_1.out; omega)); have nO11_1_ := Aside0.mk (Kd.R_kept (kr O11_1) hk (fun k_ h1_ h2_ => by have := GB13.out; have := GB1.out; have := Q5_1.out; have := Q7_0.out; have := Q11_1.out; omega)); have nBK1_ : Aside0 (w15_.heap[gb1_]? = some (.cells #[.int .i64 a0, .slice A0_1 l0_1.length c0_1, .slice A0_2 l0_2.length c0_2] 31 (0, 0))) := ⟨by rw [hw]; exact (blk_far (blk_far (blk_far BK1.out (p := ⟨gb13_, 0, none⟩) NBBK1_13.out _) (p := ⟨gb13_, 1, none⟩) NBBK1_13.out _) (p := ⟨gb13_, 2, none⟩) NBBK1_13.out _)⟩; have nBK13_ : Aside0 (w15_.heap[gb13_]? = some (.cells #[.int .i64 a0, .slice (some ⟨g11_0_, 0, none⟩) l0_1.length (pad l0_1).length, .slice (some ⟨g11_1_, 0, none⟩) l0_2.length (pad l0_2).length] 36 (0, 0))) := ⟨by rw [hw]; exact (blk_put (cs' := #[.int .i64 a0, .slice (some ⟨g11_0_, 0, none⟩) l0_1.length (pad l0_1).length, .slice (some ⟨g11_1_, 0, none⟩) l0_2.length (pad l0_2).length]) (blk_put (cs' := #[.int .i64 a0, .slice (some ⟨g11_0_, 0, none⟩) l0_1.length (pad l0_1).length, .slice none 0 0]) (blk_put (cs' := #[.int .i64 a0, .slice none 0 0, .slice none 0 0]) BK13.out 0 (.int .i64 a0) rfl) 1 (.slice (some ⟨g11_0_, 0, none⟩) l0_1.length (pad l0_1).length) rfl) 2 (.slice (some ⟨g11_1_, 0, none⟩) l0_2.length (pad l0_2).length) rfl)⟩; have z2_ := Aside0.mk (Nat.le_trans (by exact Z.out) hk.1); have z4_ : Aside0 (Below w.heap.size w w15_) := ⟨by rw [hw]; exact (below_set (below_set (below_set HB.out GE13.out) GE13.out) GE13.out)⟩; clear O5_0 O5_1 O7_0 O11_0 O11_1 BK1 BK13 HB Z; have O5_0 := nO5_0_; have O5_1 := nO5_1_; have O7_0 := nO7_0_; have O11_0 := nO11_0_; have O11_1 := nO11_1_; have BK1 := nBK1_; have BK13 := nBK13_; have HB := z4_; have Z := z2_; clear nO5_0_ nO5_1_ nO7_0_ nO11_0_ nO11_1_ nBK1_ nBK13_ z2_ z4_ hk hw; (try clear hcz14_BK1_0 hfz14_BK1_0 hcz14_BK1_1 hfz14_BK1_1 hcz14_BK1_2 hfz14_BK1_2 hcz14_BK13_0 hfz14_BK13_0 hcz14_BK13_1 hfz14_BK13_1 hcz14_BK13_2 hfz14_BK13_2); have hcz16_BK1_0 : w15_.cell? ⟨gb1_, 0, none⟩ = some (.int .i64 a0) := (blk_cell BK1.out 0).trans rfl; have hfz16_BK1_0 := blk_frozen BK1.out 0; have hcz16_BK1_1 : w15_.cell? ⟨gb1_, 1, none⟩ = some (.slice A0_1 l0_1.length c0_1) := (blk_cell BK1.out 1).trans rfl; have hfz16_BK1_1 := blk_frozen BK1.out 1; have hcz16_BK1_2 : w15_.cell? ⟨gb1_, 2, none⟩ = some (.slice A0_2 l0_2.length c0_2) := (blk_cell BK1.out 2).trans rfl; have hfz16_BK1_2 := blk_frozen BK1.out 2; have hcz16_BK13_0 : w15_.cell? ⟨gb13_, 0, none⟩ = some (.int .i64 a0) := (blk_cell BK13.out 0).trans rfl; have hfz16_BK13_0 := blk_frozen BK13.out 0; have hcz16_BK13_1 : w15_.cell? ⟨gb13_, 1, none⟩ = some (.slice (some ⟨g11_0_, 0, none⟩) l0_1.length (pad l0_1).length) := (blk_cell BK13.out 1).trans rfl; have hfz16_BK13_1 := blk_frozen BK13.out 1; have hcz16_BK13_2 : w15_.cell? ⟨gb13_, 2, none⟩ = some (.slice (some ⟨g11_1_, 0, none⟩) l0_2.length (pad l0_2).length) := (blk_cell BK13.out 2).trans rfl; have hfz16_BK13_2 := blk_frozen BK13.out 2)
  | ((with_reducible refine gate_callee (f := 13) rfl ?_); refine goesL_ (some 35) rfl rfl Try.func13 kf rfl #[.slice A1 l1.length c1, .bool false] rfl sm ?_; (with_reducible refine (toDyadicS_pad kw1 _ _ l1 q1 P1 _ ?side1 ?side2 HW1.out HQL1.out).mono ?_); (case side1 => repeat (first | exact HR1.out | exact (Kd.C_below HR1.out bz) | (with_reducible refine Kd.C_alloc ?_ _) | (with_reducible refine Kd.C_drewN ?_ _) | (with_reducible refine Kd.C_drew ?_))); (case side2 => exact HC1.out); rintro e w17_ ⟨A17_, c17_, rfl, ho0, hb⟩; refine ⟨_, rfl, ?_⟩; obtain ⟨a17_0_, b17_0_, z1_, z2_, zo0_, z4_⟩ := made (by exact Z.out) bz hb ho0; have nO5_0_ := Aside0.mk (Kd.R_below (kr O5_0) hb); have nO5_1_ := Aside0.mk (Kd.R_below (kr O5_1) hb); have nO7_0_ := Aside0.mk (Kd.R_below (kr O7_0) hb); have nO11_0_ := Aside0.mk (Kd.R_below (kr O11_0) hb); have nO11_1_ := Aside0.mk (Kd.R_below (kr O11_1) hb); have nBK1_ := bb BK1 hb; have nBK13_ := bb BK13 hb; clear O5_0 O5_1 O7_0 O11_0 O11_1 BK1 BK13 HB Z; have O5_0 := nO5_0_; have O5_1 := nO5_1_; have O7_0 := nO7_0_; have O11_0 := nO11_0_; have O11_1 := nO11_1_; have BK1 := nBK1_; have BK13 := nBK13_; clear nO5_0_ nO5_1_ nO7_0_ nO11_0_ nO11_1_ nBK1_ nBK13_; have O17_0 := Aside0.mk zo0_; have Q17_0 := Aside0.mk z1_; have HB := Aside0.mk z4_; have Z := Aside0.mk z2_; clear z1_ z2_ z4_ hb ho0 zo0_; (try clear hcz16_BK1_0 hfz16_BK1_0 hcz16_BK1_1 hfz16_BK1_1 hcz16_BK1_2 hfz16_BK1_2 hcz16_BK13_0 hfz16_BK13_0 hcz16_BK13_1 hfz16_BK13_1 hcz16_BK13_2 hfz16_BK13_2); have hcz18_BK1_0 : w17_.cell? ⟨gb1_, 0, none⟩ = some (.int .i64 a0) := (blk_cell BK1.out 0).trans rfl; have hfz18_BK1_0 := blk_frozen BK1.out 0; have hcz18_BK1_1 : w17_.cell? ⟨gb1_, 1, none⟩ = some (.slice A0_1 l0_1.length c0_1) := (blk_cell BK1.out 1).trans rfl; have hfz18_BK1_1 := blk_frozen BK1.out 1; have hcz18_BK1_2 : w17_.cell? ⟨gb1_, 2, none⟩ = some (.slice A0_2 l0_2.length c0_2) := (blk_cell BK1.out 2).trans rfl; have hfz18_BK1_2 := blk_frozen BK1.out 2; have hcz18_BK13_0 : w17_.cell? ⟨gb13_, 0, none⟩ = some (.int .i64 a0) := (blk_cell BK13.out 0).trans rfl; have hfz18_BK13_0 := blk_frozen BK13.out 0; have hcz18_BK13_1 : w17_.cell? ⟨gb13_, 1, none⟩ = some (.slice (some ⟨g11_0_, 0, none⟩) l0_1.length (pad l0_1).length) := (blk_cell BK13.out 1).trans rfl; have hfz18_BK13_1 := blk_frozen BK13.out 1; have hcz18_BK13_2 : w17_.cell? ⟨gb13_, 2, none⟩ = some (.slice (some ⟨g11_1_, 0, none⟩) l0_2.length (pad l0_2).length) := (blk_cell BK13.out 2).trans rfl; have hfz18_BK13_2 := blk_frozen BK13.out 2)
  | ((with_reducible refine gate_callee (f := 36) rfl ?_); refine goesL_ (some 39) rfl rfl Try.func36 kf rfl #[.agg #[.int .i64 a0, .slice (some ⟨g11_0_, 0, none⟩) l0_1.length (pad l0_1).length, .slice (some ⟨g11_1_, 0, none⟩) l0_2.length (pad l0_2).length], .slice A17_ q1.length c17_] rfl sm ?_; (with_reducible refine (impl_HasPoint.calls ki a0 _ _ l0_1 _ _ l0_2 _ _ q1 r1 r2 _ ?side1 ?side2 ?side3 ?side4 ?side5 ?side6 HI.out).mono ?_); (case side1 => repeat (first | exact pad_reads O11_0.out | (with_reducible refine Kd.C_alloc ?_ _) | (with_reducible refine Kd.C_drewN ?_ _) | (with_reducible refine Kd.C_drew ?_))); (case side2 => exact pad_le _); (case side3 => repeat (first | exact pad_reads O11_1.out | (with_reducible refine Kd.C_alloc ?_ _) | (with_reducible refine Kd.C_drewN ?_ _) | (with_reducible refine Kd.C_drew ?_))); (case side4 => exact pad_le _); (case side5 => repeat (first | exact padr HP1.out O17_0.out | (with_reducible refine Kd.C_alloc ?_ _) | (with_reducible refine Kd.C_drewN ?_ _) | (with_reducible refine Kd.C_drew ?_))); (case side6 => exact padl HP1.out (Kd.R_reads' O17_0.out).2.1); rintro e w19_ ⟨rfl, hb⟩; refine ⟨_, rfl, ?_⟩; obtain ⟨z2_, z4_⟩ := still (by exact Z.out) bz hb; have nO5_0_ := Aside0.mk (Kd.R_below (kr O5_0) hb); have nO5_1_ := Aside0.mk (Kd.R_below (kr O5_1) hb); have nO7_0_ := Aside0.mk (Kd.R_below (kr O7_0) hb); have nO11_0_ := Aside0.mk (Kd.R_below (kr O11_0) hb); have nO11_1_ := Aside0.mk (Kd.R_below (kr O11_1) hb); have nO17_0_ := Aside0.mk (Kd.R_below (kr O17_0) hb); have nBK1_ := bb BK1 hb; have nBK13_ := bb BK13 hb; clear O5_0 O5_1 O7_0 O11_0 O11_1 O17_0 BK1 BK13 HB Z; have O5_0 := nO5_0_; have O5_1 := nO5_1_; have O7_0 := nO7_0_; have O11_0 := nO11_0_; have O11_1 := nO11_1_; have O17_0 := nO17_0_; have BK1 := nBK1_; have BK13 := nBK13_; clear nO5_0_ nO5_1_ nO7_0_ nO11_0_ nO11_1_ nO17_0_ nBK1_ nBK13_; have HB := Aside0.mk z4_; have Z := Aside0.mk z2_; clear z2_ z4_ hb; (try clear hcz18_BK1_0 hfz18_BK1_0 hcz18_BK1_1 hfz18_BK1_1 hcz18_BK1_2 hfz18_BK1_2 hcz18_BK13_0 hfz18_BK13_0 hcz18_BK13_1 hfz18_BK13_1 hcz18_BK13_2 hfz18_BK13_2); have hcz20_BK1_0 : w19_.cell? ⟨gb1_, 0, none⟩ = some (.int .i64 a0) := (blk_cell BK1.out 0).trans rfl; have hfz20_BK1_0 := blk_frozen BK1.out 0; have hcz20_BK1_1 : w19_.cell? ⟨gb1_, 1, none⟩ = some (.slice A0_1 l0_1.length c0_1) := (blk_cell BK1.out 1).trans rfl; have hfz20_BK1_1 := blk_frozen BK1.out 1; have hcz20_BK1_2 : w19_.cell? ⟨gb1_, 2, none⟩ = some (.slice A0_2 l0_2.length c0_2) := (blk_cell BK1.out 2).trans rfl; have hfz20_BK1_2 := blk_frozen BK1.out 2; have hcz20_BK13_0 : w19_.cell? ⟨gb13_, 0, none⟩ = some (.int .i64 a0) := (blk_cell BK13.out 0).trans rfl; have hfz20_BK13_0 := blk_frozen BK13.out 0; have hcz20_BK13_1 : w19_.cell? ⟨gb13_, 1, none⟩ = some (.slice (some ⟨g11_0_, 0, none⟩) l0_1.length (pad l0_1).length) := (blk_cell BK13.out 1).trans rfl; have hfz20_BK13_1 := blk_frozen BK13.out 1; have hcz20_BK13_2 : w19_.cell? ⟨gb13_, 2, none⟩ = some (.slice (some ⟨g11_1_, 0, none⟩) l0_2.length (pad l0_2).length) := (blk_cell BK13.out 2).trans rfl; have hfz20_BK13_2 := blk_frozen BK13.out 2))
 try go_wp2
 refine start_ (n := 5) (S := fun w' => w'.cell? ⟨gb1_, 0, none⟩ = some (.int .i64 a0) ∧ w'.cell? ⟨gb1_, 1, none⟩ = some (.slice A0_1 l0_1.length c0_1) ∧ w'.cell? ⟨gb1_, 2, none⟩ = some (.slice A0_2 l0_2.length c0_2) ∧ w'.cell? ⟨gb13_, 0, none⟩ = some (.int .i64 a0) ∧ w'.cell? ⟨gb13_, 1, none⟩ = some (.slice (some ⟨g11_0_, 0, none⟩) l0_1.length (pad l0_1).length) ∧ w'.cell? ⟨gb13_, 2, none⟩ = some (.slice (some ⟨g11_1_, 0, none⟩) l0_2.length (pad l0_2).length)) (ds := []) #[fF, fF, fF, fF, fF] kf rfl rfl ⟨((blk_cell (g := gb1_) (cs := #[.int .i64 a0, .slice A0_1 l0_1.length c0_1, .slice A0_2 l0_2.length c0_2]) (t := 31) (bk BK1) 0).trans rfl), ((blk_cell (g := gb1_) (cs := #[.int .i64 a0, .slice A0_1 l0_1.length c0_1, .slice A0_2 l0_2.length c0_2]) (t := 31) (bk BK1) 1).trans rfl), ((blk_cell (g := gb1_) (cs := #[.int .i64 a0, .slice A0_1 l0_1.length c0_1, .slice A0_2 l0_2.length c0_2]) (t := 31) (bk BK1) 2).trans rfl), ((blk_cell (g := gb13_) (cs := #[.int .i64 a0, .slice (some ⟨g11_0_, 0, none⟩) l0_1.length (pad l0_1).length, .slice (some ⟨g11_1_, 0, none⟩) l0_2.length (pad l0_2).length]) (t := 36) (bk BK13) 0).trans rfl), ((blk_cell (g := gb13_) (cs := #[.int .i64 a0, .slice (some ⟨g11_0_, 0, none⟩) l0_1.length (pad l0_1).length, .slice (some ⟨g11_1_, 0, none⟩) l0_2.length (pad l0_2).length]) (t := 36) (bk BK13) 1).trans rfl), ((blk_cell (g := gb13_) (cs := #[.int .i64 a0, .slice (some ⟨g11_0_, 0, none⟩) l0_1.length (pad l0_1).length, .slice (some ⟨g11_1_, 0, none⟩) l0_2.length (pad l0_2).length]) (t := 36) (bk BK13) 2).trans rfl)⟩ (fun hHeld => ?_)
 generalize hq_ : World.drew _ = w21_ at hHeld ⊢
 have nO5_0_ : Aside0 (Kd.R (Kd.int .i64) 3 w21_ w.heap.size (fun k => a5_1_ ≤ k ∧ k < b5_1_) (.slice (some ⟨g5_0_, 0, none⟩) (pad l0_1).length (pad l0_1).length) (pad l0_1)) := ⟨by rw [← hq_]; exact (kr O5_0)⟩
 have nO5_1_ : Aside0 (Kd.R (Kd.int .i64) 3 w21_ w.heap.size (fun k => a5_1_ ≤ k ∧ k < b5_1_) (.slice (some ⟨g5_1_, 0, none⟩) (pad l0_2).length (pad l0_2).length) (pad l0_2)) := ⟨by rw [← hq_]; exact (kr O5_1)⟩
 have nO7_0_ : Aside0 (Kd.R k44 44 w21_ w.heap.size (fun k => a7_0_ ≤ k ∧ k < b7_0_) (.slice A7_ P1.length c7_) P1) := ⟨by rw [← hq_]; exact (kr O7_0)⟩
 have nO11_0_ : Aside0 (Kd.R (Kd.int .i64) 3 w21_ w.heap.size (fun k => a11_1_ ≤ k ∧ k < b11_1_) (.slice (some ⟨g11_0_, 0, none⟩) (pad l0_1).length (pad l0_1).length) (pad l0_1)) := ⟨by rw [← hq_]; exact (kr O11_0)⟩
 have nO11_1_ : Aside0 (Kd.R (Kd.int .i64) 3 w21_ w.heap.size (fun k => a11_1_ ≤ k ∧ k < b11_1_) (.slice (some ⟨g11_1_, 0, none⟩) (pad l0_2).length (pad l0_2).length) (pad l0_2)) := ⟨by rw [← hq_]; exact (kr O11_1)⟩
 have nO17_0_ : Aside0 (Kd.R k44 44 w21_ w.heap.size (fun k => a17_0_ ≤ k ∧ k < b17_0_) (.slice A17_ P1.length c17_) P1) := ⟨by rw [← hq_]; exact (kr O17_0)⟩
 have nBK1_ : Aside0 (w21_.heap[gb1_]? = some (.cells #[.int .i64 a0, .slice A0_1 l0_1.length c0_1, .slice A0_2 l0_2.length c0_2] 31 (0, 0))) := ⟨by rw [← hq_]; exact (bk BK1)⟩
 have nBK13_ : Aside0 (w21_.heap[gb13_]? = some (.cells #[.int .i64 a0, .slice (some ⟨g11_0_, 0, none⟩) l0_1.length (pad l0_1).length, .slice (some ⟨g11_1_, 0, none⟩) l0_2.length (pad l0_2).length] 36 (0, 0))) := ⟨by rw [← hq_]; exact (bk BK13)⟩
 have nHB_ : Aside0 (Below w.heap.size w w21_) := ⟨by rw [← hq_]; exact bz⟩
 have nZ_ : Aside0 (b17_0_ ≤ w21_.heap.size) := ⟨by rw [← hq_]; exact (by exact Z.out)⟩
 clear hq_ O5_0 O5_1 O7_0 O11_0 O11_1 O17_0 BK1 BK13 HB Z
 have O5_0 := nO5_0_
 have O5_1 := nO5_1_
 have O7_0 := nO7_0_
 have O11_0 := nO11_0_
 have O11_1 := nO11_1_
 have O17_0 := nO17_0_
 have BK1 := nBK1_
 have BK13 := nBK13_
 have HB := nHB_
 have Z := nZ_
 clear nO5_0_ nO5_1_ nO7_0_ nO11_0_ nO11_1_ nO17_0_ nBK1_ nBK13_ nHB_ nZ_
 refine take_ (i := 0) (N := some 50) (v := ?_) (a' := ?_) #[tT, fF, fF, fF, fF] rfl rfl kf (fun _ _ _ h => h) (Or.inl ⟨by rfl, ?_⟩) hHeld ?_ ?_
 rotate_left
 ·rintro w' ⟨s0, s1, s2, s3, s4, s5⟩
  go_simp
  with_reducible rfl
 rotate_left
 ·simp only [Act.put, List.setIfInBounds_toArray, List.set_cons_zero, List.set_cons_succ, i64_w, i32_w]
  rfl
 refine take_ (i := 1) (N := some 51) (v := ?_) (a' := ?_) #[tT, tT, fF, fF, fF] rfl rfl kf (fun _ _ _ h => h) (Or.inl ⟨by rfl, ?_⟩) hHeld ?_ ?_
 rotate_left
 ·rintro w' ⟨s0, s1, s2, s3, s4, s5⟩
  go_simp
  with_reducible rfl
 rotate_left
 ·simp only [Act.put, List.setIfInBounds_toArray, List.set_cons_zero, List.set_cons_succ, i64_w, i32_w]
  rfl
 refine one_ (i := 2) (N := some 52) #[tT, tT, tT, fF, fF] rfl rfl kf (by decide) (fun K hK => ?_)
 refine goes_ Try.func18 kf rfl #[.agg #[.int .i64 a0, .slice A0_1 l0_1.length c0_1, .slice A0_2 l0_2.length c0_2], .bool false] (by rfl) rfl rfl sm ?_
 (with_reducible refine (toBox_pad a0 _ _ l0_1 _ _ l0_2 _ ?side1 ?side2 ?side3 ?side4 HN0_1.out HN0_2.out).mono ?_)
 (case side1 => repeat (first | exact HR0_1.out | exact (Kd.C_below HR0_1.out bz) | (with_reducible refine Kd.C_alloc ?_ _) | (with_reducible refine Kd.C_drewN ?_ _) | (with_reducible refine Kd.C_drew ?_)))
 (case side2 => exact HC0_1.out)
 (case side3 => repeat (first | exact HR0_2.out | exact (Kd.C_below HR0_2.out bz) | (with_reducible refine Kd.C_alloc ?_ _) | (with_reducible refine Kd.C_drewN ?_ _) | (with_reducible refine Kd.C_drew ?_)))
 (case side4 => exact HC0_2.out)
 rintro e w22_ ⟨g22_0_, g22_1_, rfl, ho0, ho1, hb⟩
 refine ⟨_, rfl, ?_⟩
 replace ho0 := Kd.R_mono ho0 (fun _ _ => True.intro)
 replace ho1 := Kd.R_mono ho1 (fun _ _ => True.intro)
 obtain ⟨a22_1_, b22_1_, z1_, z2_, zo0_, zo1_, z4_⟩ := made2 (by exact Z.out) bz hb ho0 ho1
 have nO5_0_ := Aside0.mk (Kd.R_below (kr O5_0) hb)
 have nO5_1_ := Aside0.mk (Kd.R_below (kr O5_1) hb)
 have nO7_0_ := Aside0.mk (Kd.R_below (kr O7_0) hb)
 have nO11_0_ := Aside0.mk (Kd.R_below (kr O11_0) hb)
 have nO11_1_ := Aside0.mk (Kd.R_below (kr O11_1) hb)
 have nO17_0_ := Aside0.mk (Kd.R_below (kr O17_0) hb)
 have nBK1_ := bb BK1 hb
 have nBK13_ := bb BK13 hb
 clear O5_0 O5_1 O7_0 O11_0 O11_1 O17_0 BK1 BK13 HB Z
 have O5_0 := nO5_0_
 have O5_1 := nO5_1_
 have O7_0 := nO7_0_
 have O11_0 := nO11_0_
 have O11_1 := nO11_1_
 have O17_0 := nO17_0_
 have BK1 := nBK1_
 have BK13 := nBK13_
 clear nO5_0_ nO5_1_ nO7_0_ nO11_0_ nO11_1_ nO17_0_ nBK1_ nBK13_
 have O22_0 := Aside0.mk zo0_
 have O22_1 := Aside0.mk zo1_
 have Q22_1 := Aside0.mk z1_
 have HB := Aside0.mk z4_
 have Z := Aside0.mk z2_
 clear z1_ z2_ z4_ hb ho0 zo0_ ho1 zo1_
 (try clear hcz20_BK1_0 hfz20_BK1_0 hcz20_BK1_1 hfz20_BK1_1 hcz20_BK1_2 hfz20_BK1_2 hcz20_BK13_0 hfz20_BK13_0 hcz20_BK13_1 hfz20_BK13_1 hcz20_BK13_2 hfz20_BK13_2)
 have hcz23_BK1_0 : w22_.cell? ⟨gb1_, 0, none⟩ = some (.int .i64 a0) := (blk_cell BK1.out 0).trans rfl
 have hfz23_BK1_0 := blk_frozen BK1.out 0
 have hcz23_BK1_1 : w22_.cell? ⟨gb1_, 1, none⟩ = some (.slice A0_1 l0_1.length c0_1) := (blk_cell BK1.out 1).trans rfl
 have hfz23_BK1_1 := blk_frozen BK1.out 1
 have hcz23_BK1_2 : w22_.cell? ⟨gb1_, 2, none⟩ = some (.slice A0_2 l0_2.length c0_2) := (blk_cell BK1.out 2).trans rfl
 have hfz23_BK1_2 := blk_frozen BK1.out 2
 have hcz23_BK13_0 : w22_.cell? ⟨gb13_, 0, none⟩ = some (.int .i64 a0) := (blk_cell BK13.out 0).trans rfl
 have hfz23_BK13_0 := blk_frozen BK13.out 0
 have hcz23_BK13_1 : w22_.cell? ⟨gb13_, 1, none⟩ = some (.slice (some ⟨g11_0_, 0, none⟩) l0_1.length (pad l0_1).length) := (blk_cell BK13.out 1).trans rfl
 have hfz23_BK13_1 := blk_frozen BK13.out 1
 have hcz23_BK13_2 : w22_.cell? ⟨gb13_, 2, none⟩ = some (.slice (some ⟨g11_1_, 0, none⟩) l0_2.length (pad l0_2).length) := (blk_cell BK13.out 2).trans rfl
 have hfz23_BK13_2 := blk_frozen BK13.out 2
 refine hK.out _ _ ⟨((blk_cell BK1.out 0).trans rfl), ((blk_cell BK1.out 1).trans rfl), ((blk_cell BK1.out 2).trans rfl), ((blk_cell BK13.out 0).trans rfl), ((blk_cell BK13.out 1).trans rfl), ((blk_cell BK13.out 2).trans rfl)⟩ (fun hHeld => ?_)
 clear hK K
 refine norm_ (a' := ?_) ?_ ?_
 rotate_left
 ·show Act.put _ (some 52) _ = _
  simp only [Act.put, List.setIfInBounds_toArray, List.set_cons_zero, List.set_cons_succ, i64_w, i32_w]
  rfl
 refine one_ (i := 3) (N := some 53) #[tT, tT, tT, tT, fF] rfl rfl kf (by decide) (fun K hK => ?_)
 refine goes_ Try.func21 kf rfl #[.agg #[.int .i64 a0, .slice (some ⟨g11_0_, 0, none⟩) l0_1.length (pad l0_1).length, .slice (some ⟨g11_1_, 0, none⟩) l0_2.length (pad l0_2).length], .agg #[.int .i64 a0, .slice (some ⟨g22_0_, 0, none⟩) l0_1.length (pad l0_1).length, .slice (some ⟨g22_1_, 0, none⟩) l0_2.length (pad l0_2).length]] (by rfl) rfl rfl sm ?_
 (with_reducible refine (intactBox_pad a0 _ _ _ _ l0_1 l0_2 _ HN0_1.out HN0_2.out ?side1 ?side2 ?side3 ?side4).mono ?_)
 (case side1 => exact ⟨_, _, (kr O11_0)⟩)
 (case side2 => exact ⟨_, _, (kr O22_0)⟩)
 (case side3 => exact ⟨_, _, (kr O11_1)⟩)
 (case side4 => exact ⟨_, _, (kr O22_1)⟩)
 rintro e w24_ ⟨rfl, hb⟩
 refine ⟨_, rfl, ?_⟩
 obtain ⟨z2_, z4_⟩ := still (by exact Z.out) bz hb
 have nO5_0_ := Aside0.mk (Kd.R_below (kr O5_0) hb)
 have nO5_1_ := Aside0.mk (Kd.R_below (kr O5_1) hb)
 have nO7_0_ := Aside0.mk (Kd.R_below (kr O7_0) hb)
 have nO11_0_ := Aside0.mk (Kd.R_below (kr O11_0) hb)
 have nO11_1_ := Aside0.mk (Kd.R_below (kr O11_1) hb)
 have nO17_0_ := Aside0.mk (Kd.R_below (kr O17_0) hb)
 have nO22_0_ := Aside0.mk (Kd.R_below (kr O22_0) hb)
 have nO22_1_ := Aside0.mk (Kd.R_below (kr O22_1) hb)
 have nBK1_ := bb BK1 hb
 have nBK13_ := bb BK13 hb
 clear O5_0 O5_1 O7_0 O11_0 O11_1 O17_0 O22_0 O22_1 BK1 BK13 HB Z
 have O5_0 := nO5_0_
 have O5_1 := nO5_1_
 have O7_0 := nO7_0_
 have O11_0 := nO11_0_
 have O11_1 := nO11_1_
 have O17_0 := nO17_0_
 have O22_0 := nO22_0_
 have O22_1 := nO22_1_
 have BK1 := nBK1_
 have BK13 := nBK13_
 clear nO5_0_ nO5_1_ nO7_0_ nO11_0_ nO11_1_ nO17_0_ nO22_0_ nO22_1_ nBK1_ nBK13_
 have HB := Aside0.mk z4_
 have Z := Aside0.mk z2_
 clear z2_ z4_ hb
 (try clear hcz23_BK1_0 hfz23_BK1_0 hcz23_BK1_1 hfz23_BK1_1 hcz23_BK1_2 hfz23_BK1_2 hcz23_BK13_0 hfz23_BK13_0 hcz23_BK13_1 hfz23_BK13_1 hcz23_BK13_2 hfz23_BK13_2)
 have hcz25_BK1_0 : w24_.cell? ⟨gb1_, 0, none⟩ = some (.int .i64 a0) := (blk_cell BK1.out 0).trans rfl
 have hfz25_BK1_0 := blk_frozen BK1.out 0
 have hcz25_BK1_1 : w24_.cell? ⟨gb1_, 1, none⟩ = some (.slice A0_1 l0_1.length c0_1) := (blk_cell BK1.out 1).trans rfl
 have hfz25_BK1_1 := blk_frozen BK1.out 1
 have hcz25_BK1_2 : w24_.cell? ⟨gb1_, 2, none⟩ = some (.slice A0_2 l0_2.length c0_2) := (blk_cell BK1.out 2).trans rfl
 have hfz25_BK1_2 := blk_frozen BK1.out 2
 have hcz25_BK13_0 : w24_.cell? ⟨gb13_, 0, none⟩ = some (.int .i64 a0) := (blk_cell BK13.out 0).trans rfl
 have hfz25_BK13_0 := blk_frozen BK13.out 0
 have hcz25_BK13_1 : w24_.cell? ⟨gb13_, 1, none⟩ = some (.slice (some ⟨g11_0_, 0, none⟩) l0_1.length (pad l0_1).length) := (blk_cell BK13.out 1).trans rfl
 have hfz25_BK13_1 := blk_frozen BK13.out 1
 have hcz25_BK13_2 : w24_.cell? ⟨gb13_, 2, none⟩ = some (.slice (some ⟨g11_1_, 0, none⟩) l0_2.length (pad l0_2).length) := (blk_cell BK13.out 2).trans rfl
 have hfz25_BK13_2 := blk_frozen BK13.out 2
 refine hK.out _ _ ⟨((blk_cell BK1.out 0).trans rfl), ((blk_cell BK1.out 1).trans rfl), ((blk_cell BK1.out 2).trans rfl), ((blk_cell BK13.out 0).trans rfl), ((blk_cell BK13.out 1).trans rfl), ((blk_cell BK13.out 2).trans rfl)⟩ (fun hHeld => ?_)
 clear hK K
 refine norm_ (a' := ?_) ?_ ?_
 rotate_left
 ·show Act.put _ (some 53) _ = _
  simp only [Act.put, List.setIfInBounds_toArray, List.set_cons_zero, List.set_cons_succ, i64_w, i32_w]
  rfl
 refine pure_ (i := 4) (N := some 54) (v := ?_) (a' := ?_) #[tT, tT, tT, tT, tT] rfl rfl kf (fun _ _ _ h => h) (Or.inl ⟨by rfl, ?_⟩) ?_ ?_
 rotate_left
 ·intro w'
  go_simp
  with_reducible rfl
 rotate_left
 ·simp only [Act.put, List.setIfInBounds_toArray, List.set_cons_zero, List.set_cons_succ, i64_w, i32_w]
  rfl
 refine done_ kf ?_
 go_wp2_with (first
  | ((with_reducible refine gate_callee (f := 13) rfl ?_); refine goesL_ (some 57) rfl rfl Try.func13 kf rfl #[.slice A1 l1.length c1, .bool false] rfl sm ?_; (with_reducible refine (toDyadicS_pad kw1 _ _ l1 q1 P1 _ ?side1 ?side2 HW1.out HQL1.out).mono ?_); (case side1 => repeat (first | exact HR1.out | exact (Kd.C_below HR1.out bz) | (with_reducible refine Kd.C_alloc ?_ _) | (with_reducible refine Kd.C_drewN ?_ _) | (with_reducible refine Kd.C_drew ?_))); (case side2 => exact HC1.out); rintro e w26_ ⟨A26_, c26_, rfl, ho0, hb⟩; refine ⟨_, rfl, ?_⟩; obtain ⟨a26_0_, b26_0_, z1_, z2_, zo0_, z4_⟩ := made (by exact Z.out) bz hb ho0; have nO5_0_ := Aside0.mk (Kd.R_below (kr O5_0) hb); have nO5_1_ := Aside0.mk (Kd.R_below (kr O5_1) hb); have nO7_0_ := Aside0.mk (Kd.R_below (kr O7_0) hb); have nO11_0_ := Aside0.mk (Kd.R_below (kr O11_0) hb); have nO11_1_ := Aside0.mk (Kd.R_below (kr O11_1) hb); have nO17_0_ := Aside0.mk (Kd.R_below (kr O17_0) hb); have nO22_0_ := Aside0.mk (Kd.R_below (kr O22_0) hb); have nO22_1_ := Aside0.mk (Kd.R_below (kr O22_1) hb); have nBK1_ := bb BK1 hb; have nBK13_ := bb BK13 hb; clear O5_0 O5_1 O7_0 O11_0 O11_1 O17_0 O22_0 O22_1 BK1 BK13 HB Z; have O5_0 := nO5_0_; have O5_1 := nO5_1_; have O7_0 := nO7_0_; have O11_0 := nO11_0_; have O11_1 := nO11_1_; have O17_0 := nO17_0_; have O22_0 := nO22_0_; have O22_1 := nO22_1_; have BK1 := nBK1_; have BK13 := nBK13_; clear nO5_0_ nO5_1_ nO7_0_ nO11_0_ nO11_1_ nO17_0_ nO22_0_ nO22_1_ nBK1_ nBK13_; have O26_0 := Aside0.mk zo0_; have Q26_0 := Aside0.mk z1_; have HB := Aside0.mk z4_; have Z := Aside0.mk z2_; clear z1_ z2_ z4_ hb ho0 zo0_; (try clear hcz25_BK1_0 hfz25_BK1_0 hcz25_BK1_1 hfz25_BK1_1 hcz25_BK1_2 hfz25_BK1_2 hcz25_BK13_0 hfz25_BK13_0 hcz25_BK13_1 hfz25_BK13_1 hcz25_BK13_2 hfz25_BK13_2); have hcz27_BK1_0 : w26_.cell? ⟨gb1_, 0, none⟩ = some (.int .i64 a0) := (blk_cell BK1.out 0).trans rfl; have hfz27_BK1_0 := blk_frozen BK1.out 0; have hcz27_BK1_1 : w26_.cell? ⟨gb1_, 1, none⟩ = some (.slice A0_1 l0_1.length c0_1) := (blk_cell BK1.out 1).trans rfl; have hfz27_BK1_1 := blk_frozen BK1.out 1; have hcz27_BK1_2 : w26_.cell? ⟨gb1_, 2, none⟩ = some (.slice A0_2 l0_2.length c0_2) := (blk_cell BK1.out 2).trans rfl; have hfz27_BK1_2 := blk_frozen BK1.out 2; have hcz27_BK13_0 : w26_.cell? ⟨gb13_, 0, none⟩ = some (.int .i64 a0) := (blk_cell BK13.out 0).trans rfl; have hfz27_BK13_0 := blk_frozen BK13.out 0; have hcz27_BK13_1 : w26_.cell? ⟨gb13_, 1, none⟩ = some (.slice (some ⟨g11_0_, 0, none⟩) l0_1.length (pad l0_1).length) := (blk_cell BK13.out 1).trans rfl; have hfz27_BK13_1 := blk_frozen BK13.out 1; have hcz27_BK13_2 : w26_.cell? ⟨gb13_, 2, none⟩ = some (.slice (some ⟨g11_1_, 0, none⟩) l0_2.length (pad l0_2).length) := (blk_cell BK13.out 2).trans rfl; have hfz27_BK13_2 := blk_frozen BK13.out 2)
  | ((with_reducible refine gate_callee (f := 15) rfl ?_); refine goesL_ (some 58) rfl rfl Try.func15 kf rfl #[.slice A17_ q1.length c17_, .slice A26_ q1.length c26_] rfl sm ?_; (with_reducible refine (laws_intactDyadicS.pad ke1 _ _ _ _ _ P1 _ ?side1 ?side2 ?side3 ?side4 HPL1.out HQN1.out HE1.out).mono ?_); (case side1 => exact (Kd.R_reads' (kr O17_0)).2.2); (case side2 => exact (Kd.R_reads' O17_0.out).2.1); (case side3 => exact (Kd.R_reads' (kr O26_0)).2.2); (case side4 => exact (Kd.R_reads' O26_0.out).2.1); rintro e w28_ ⟨rfl, hb⟩; refine ⟨_, rfl, ?_⟩; obtain ⟨z2_, z4_⟩ := still (by exact Z.out) bz hb; have nO5_0_ := Aside0.mk (Kd.R_below (kr O5_0) hb); have nO5_1_ := Aside0.mk (Kd.R_below (kr O5_1) hb); have nO7_0_ := Aside0.mk (Kd.R_below (kr O7_0) hb); have nO11_0_ := Aside0.mk (Kd.R_below (kr O11_0) hb); have nO11_1_ := Aside0.mk (Kd.R_below (kr O11_1) hb); have nO17_0_ := Aside0.mk (Kd.R_below (kr O17_0) hb); have nO22_0_ := Aside0.mk (Kd.R_below (kr O22_0) hb); have nO22_1_ := Aside0.mk (Kd.R_below (kr O22_1) hb); have nO26_0_ := Aside0.mk (Kd.R_below (kr O26_0) hb); have nBK1_ := bb BK1 hb; have nBK13_ := bb BK13 hb; clear O5_0 O5_1 O7_0 O11_0 O11_1 O17_0 O22_0 O22_1 O26_0 BK1 BK13 HB Z; have O5_0 := nO5_0_; have O5_1 := nO5_1_; have O7_0 := nO7_0_; have O11_0 := nO11_0_; have O11_1 := nO11_1_; have O17_0 := nO17_0_; have O22_0 := nO22_0_; have O22_1 := nO22_1_; have O26_0 := nO26_0_; have BK1 := nBK1_; have BK13 := nBK13_; clear nO5_0_ nO5_1_ nO7_0_ nO11_0_ nO11_1_ nO17_0_ nO22_0_ nO22_1_ nO26_0_ nBK1_ nBK13_; have HB := Aside0.mk z4_; have Z := Aside0.mk z2_; clear z2_ z4_ hb; (try clear hcz27_BK1_0 hfz27_BK1_0 hcz27_BK1_1 hfz27_BK1_1 hcz27_BK1_2 hfz27_BK1_2 hcz27_BK13_0 hfz27_BK13_0 hcz27_BK13_1 hfz27_BK13_1 hcz27_BK13_2 hfz27_BK13_2); have hcz29_BK1_0 : w28_.cell? ⟨gb1_, 0, none⟩ = some (.int .i64 a0) := (blk_cell BK1.out 0).trans rfl; have hfz29_BK1_0 := blk_frozen BK1.out 0; have hcz29_BK1_1 : w28_.cell? ⟨gb1_, 1, none⟩ = some (.slice A0_1 l0_1.length c0_1) := (blk_cell BK1.out 1).trans rfl; have hfz29_BK1_1 := blk_frozen BK1.out 1; have hcz29_BK1_2 : w28_.cell? ⟨gb1_, 2, none⟩ = some (.slice A0_2 l0_2.length c0_2) := (blk_cell BK1.out 2).trans rfl; have hfz29_BK1_2 := blk_frozen BK1.out 2; have hcz29_BK13_0 : w28_.cell? ⟨gb13_, 0, none⟩ = some (.int .i64 a0) := (blk_cell BK13.out 0).trans rfl; have hfz29_BK13_0 := blk_frozen BK13.out 0; have hcz29_BK13_1 : w28_.cell? ⟨gb13_, 1, none⟩ = some (.slice (some ⟨g11_0_, 0, none⟩) l0_1.length (pad l0_1).length) := (blk_cell BK13.out 1).trans rfl; have hfz29_BK13_1 := blk_frozen BK13.out 1; have hcz29_BK13_2 : w28_.cell? ⟨gb13_, 2, none⟩ = some (.slice (some ⟨g11_1_, 0, none⟩) l0_2.length (pad l0_2).length) := (blk_cell BK13.out 2).trans rfl; have hfz29_BK13_2 := blk_frozen BK13.out 2)
  | ((with_reducible refine gate_callee (f := 18) rfl ?_); refine goesL_ (some 62) rfl rfl Try.func18 kf rfl #[.agg #[.int .i64 a0, .slice A0_1 l0_1.length c0_1, .slice A0_2 l0_2.length c0_2], .bool true] rfl sm ?_; (with_reducible refine (laws_toBox.calls kb0 a0 _ _ l0_1 _ _ l0_2 true a0 l0_1 l0_2 _ ?side1 ?side2 ?side3 ?side4 HBA0.out).mono ?_); (case side1 => repeat (first | exact HR0_1.out | exact (Kd.C_below HR0_1.out bz) | (with_reducible refine Kd.C_alloc ?_ _) | (with_reducible refine Kd.C_drewN ?_ _) | (with_reducible refine Kd.C_drew ?_))); (case side2 => exact HC0_1.out); (case side3 => repeat (first | exact HR0_2.out | exact (Kd.C_below HR0_2.out bz) | (with_reducible refine Kd.C_alloc ?_ _) | (with_reducible refine Kd.C_drewN ?_ _) | (with_reducible refine Kd.C_drew ?_))); (case side4 => exact HC0_2.out); rintro e w30_ ⟨v30_0_, v30_1_, rfl, ho0, ho1, hb⟩; refine ⟨_, rfl, ?_⟩; replace ho0 := Kd.R_mono ho0 (fun _ _ => True.intro); replace ho1 := Kd.R_mono ho1 (fun _ _ => True.intro); obtain ⟨a30_1_, b30_1_, z1_, z2_, zo0_, zo1_, z4_⟩ := made2 (by exact Z.out) bz hb ho0 ho1; have nO5_0_ := Aside0.mk (Kd.R_below (kr O5_0) hb); have nO5_1_ := Aside0.mk (Kd.R_below (kr O5_1) hb); have nO7_0_ := Aside0.mk (Kd.R_below (kr O7_0) hb); have nO11_0_ := Aside0.mk (Kd.R_below (kr O11_0) hb); have nO11_1_ := Aside0.mk (Kd.R_below (kr O11_1) hb); have nO17_0_ := Aside0.mk (Kd.R_below (kr O17_0) hb); have nO22_0_ := Aside0.mk (Kd.R_below (kr O22_0) hb); have nO22_1_ := Aside0.mk (Kd.R_below (kr O22_1) hb); have nO26_0_ := Aside0.mk (Kd.R_below (kr O26_0) hb); have nBK1_ := bb BK1 hb; have nBK13_ := bb BK13 hb; clear O5_0 O5_1 O7_0 O11_0 O11_1 O17_0 O22_0 O22_1 O26_0 BK1 BK13 HB Z; have O5_0 := nO5_0_; have O5_1 := nO5_1_; have O7_0 := nO7_0_; have O11_0 := nO11_0_; have O11_1 := nO11_1_; have O17_0 := nO17_0_; have O22_0 := nO22_0_; have O22_1 := nO22_1_; have O26_0 := nO26_0_; have BK1 := nBK1_; have BK13 := nBK13_; clear nO5_0_ nO5_1_ nO7_0_ nO11_0_ nO11_1_ nO17_0_ nO22_0_ nO22_1_ nO26_0_ nBK1_ nBK13_; have O30_0 := Aside0.mk zo0_; have O30_1 := Aside0.mk zo1_; have Q30_1 := Aside0.mk z1_; have HB := Aside0.mk z4_; have Z := Aside0.mk z2_; clear z1_ z2_ z4_ hb ho0 zo0_ ho1 zo1_; obtain ⟨A30_0_, c30_0_, e30_0_⟩ := Kd.R_slice O30_0.out; subst e30_0_; obtain ⟨A30_1_, c30_1_, e30_1_⟩ := Kd.R_slice O30_1.out; subst e30_1_; (try clear hcz29_BK1_0 hfz29_BK1_0 hcz29_BK1_1 hfz29_BK1_1 hcz29_BK1_2 hfz29_BK1_2 hcz29_BK13_0 hfz29_BK13_0 hcz29_BK13_1 hfz29_BK13_1 hcz29_BK13_2 hfz29_BK13_2); have hcz31_BK1_0 : w30_.cell? ⟨gb1_, 0, none⟩ = some (.int .i64 a0) := (blk_cell BK1.out 0).trans rfl; have hfz31_BK1_0 := blk_frozen BK1.out 0; have hcz31_BK1_1 : w30_.cell? ⟨gb1_, 1, none⟩ = some (.slice A0_1 l0_1.length c0_1) := (blk_cell BK1.out 1).trans rfl; have hfz31_BK1_1 := blk_frozen BK1.out 1; have hcz31_BK1_2 : w30_.cell? ⟨gb1_, 2, none⟩ = some (.slice A0_2 l0_2.length c0_2) := (blk_cell BK1.out 2).trans rfl; have hfz31_BK1_2 := blk_frozen BK1.out 2; have hcz31_BK13_0 : w30_.cell? ⟨gb13_, 0, none⟩ = some (.int .i64 a0) := (blk_cell BK13.out 0).trans rfl; have hfz31_BK13_0 := blk_frozen BK13.out 0; have hcz31_BK13_1 : w30_.cell? ⟨gb13_, 1, none⟩ = some (.slice (some ⟨g11_0_, 0, none⟩) l0_1.length (pad l0_1).length) := (blk_cell BK13.out 1).trans rfl; have hfz31_BK13_1 := blk_frozen BK13.out 1; have hcz31_BK13_2 : w30_.cell? ⟨gb13_, 2, none⟩ = some (.slice (some ⟨g11_1_, 0, none⟩) l0_2.length (pad l0_2).length) := (blk_cell BK13.out 2).trans rfl; have hfz31_BK13_2 := blk_frozen BK13.out 2)
  | ((with_reducible refine gate_callee (f := 13) rfl ?_); refine goesL_ (some 64) rfl rfl Try.func13 kf rfl #[.slice A1 l1.length c1, .bool true] rfl sm ?_; (with_reducible refine (laws_toDyadicS.calls kb1 _ _ l1 true q1 _ ?side1 ?side2 HBA1.out).mono ?_); (case side1 => repeat (first | exact HR1.out | exact (Kd.C_below HR1.out bz) | (with_reducible refine Kd.C_alloc ?_ _) | (with_reducible refine Kd.C_drewN ?_ _) | (with_reducible refine Kd.C_drew ?_))); (case side2 => exact HC1.out); rintro e w32_ ⟨v32_, rfl, ho0, hb⟩; refine ⟨_, rfl, ?_⟩; obtain ⟨a32_0_, b32_0_, z1_, z2_, zo0_, z4_⟩ := made (by exact Z.out) bz hb ho0; have nO5_0_ := Aside0.mk (Kd.R_below (kr O5_0) hb); have nO5_1_ := Aside0.mk (Kd.R_below (kr O5_1) hb); have nO7_0_ := Aside0.mk (Kd.R_below (kr O7_0) hb); have nO11_0_ := Aside0.mk (Kd.R_below (kr O11_0) hb); have nO11_1_ := Aside0.mk (Kd.R_below (kr O11_1) hb); have nO17_0_ := Aside0.mk (Kd.R_below (kr O17_0) hb); have nO22_0_ := Aside0.mk (Kd.R_below (kr O22_0) hb); have nO22_1_ := Aside0.mk (Kd.R_below (kr O22_1) hb); have nO26_0_ := Aside0.mk (Kd.R_below (kr O26_0) hb); have nO30_0_ := Aside0.mk (Kd.R_below (kr O30_0) hb); have nO30_1_ := Aside0.mk (Kd.R_below (kr O30_1) hb); have nBK1_ := bb BK1 hb; have nBK13_ := bb BK13 hb; clear O5_0 O5_1 O7_0 O11_0 O11_1 O17_0 O22_0 O22_1 O26_0 O30_0 O30_1 BK1 BK13 HB Z; have O5_0 := nO5_0_; have O5_1 := nO5_1_; have O7_0 := nO7_0_; have O11_0 := nO11_0_; have O11_1 := nO11_1_; have O17_0 := nO17_0_; have O22_0 := nO22_0_; have O22_1 := nO22_1_; have O26_0 := nO26_0_; have O30_0 := nO30_0_; have O30_1 := nO30_1_; have BK1 := nBK1_; have BK13 := nBK13_; clear nO5_0_ nO5_1_ nO7_0_ nO11_0_ nO11_1_ nO17_0_ nO22_0_ nO22_1_ nO26_0_ nO30_0_ nO30_1_ nBK1_ nBK13_; have O32_0 := Aside0.mk zo0_; have Q32_0 := Aside0.mk z1_; have HB := Aside0.mk z4_; have Z := Aside0.mk z2_; clear z1_ z2_ z4_ hb ho0 zo0_; obtain ⟨A32_, c32_, e32_⟩ := Kd.R_slice O32_0.out; subst e32_; (try clear hcz31_BK1_0 hfz31_BK1_0 hcz31_BK1_1 hfz31_BK1_1 hcz31_BK1_2 hfz31_BK1_2 hcz31_BK13_0 hfz31_BK13_0 hcz31_BK13_1 hfz31_BK13_1 hcz31_BK13_2 hfz31_BK13_2); have hcz33_BK1_0 : w32_.cell? ⟨gb1_, 0, none⟩ = some (.int .i64 a0) := (blk_cell BK1.out 0).trans rfl; have hfz33_BK1_0 := blk_frozen BK1.out 0; have hcz33_BK1_1 : w32_.cell? ⟨gb1_, 1, none⟩ = some (.slice A0_1 l0_1.length c0_1) := (blk_cell BK1.out 1).trans rfl; have hfz33_BK1_1 := blk_frozen BK1.out 1; have hcz33_BK1_2 : w32_.cell? ⟨gb1_, 2, none⟩ = some (.slice A0_2 l0_2.length c0_2) := (blk_cell BK1.out 2).trans rfl; have hfz33_BK1_2 := blk_frozen BK1.out 2; have hcz33_BK13_0 : w32_.cell? ⟨gb13_, 0, none⟩ = some (.int .i64 a0) := (blk_cell BK13.out 0).trans rfl; have hfz33_BK13_0 := blk_frozen BK13.out 0; have hcz33_BK13_1 : w32_.cell? ⟨gb13_, 1, none⟩ = some (.slice (some ⟨g11_0_, 0, none⟩) l0_1.length (pad l0_1).length) := (blk_cell BK13.out 1).trans rfl; have hfz33_BK13_1 := blk_frozen BK13.out 1; have hcz33_BK13_2 : w32_.cell? ⟨gb13_, 2, none⟩ = some (.slice (some ⟨g11_1_, 0, none⟩) l0_2.length (pad l0_2).length) := (blk_cell BK13.out 2).trans rfl; have hfz33_BK13_2 := blk_frozen BK13.out 2)
  | ((with_reducible refine gate_callee (f := 36) rfl ?_); refine goesL_ (some 65) rfl rfl Try.func36 kf rfl #[.agg #[.int .i64 a0, .slice A30_0_ l0_1.length c30_0_, .slice A30_1_ l0_2.length c30_1_], .slice A32_ q1.length c32_] rfl sm ?_; (with_reducible refine (impl_HasPoint.calls ki a0 _ _ l0_1 _ _ l0_2 _ _ q1 r1 r2 _ ?side1 ?side2 ?side3 ?side4 ?side5 ?side6 HI.out).mono ?_); (case side1 => exact cr O30_0); (case side2 => exact (Kd.R_reads' O30_0.out).2.1); (case side3 => exact cr O30_1); (case side4 => exact (Kd.R_reads' O30_1.out).2.1); (case side5 => exact cr O32_0); (case side6 => exact (Kd.R_reads' O32_0.out).2.1); rintro e w34_ ⟨rfl, hb⟩; refine ⟨_, rfl, ?_⟩; obtain ⟨z2_, z4_⟩ := still (by exact Z.out) bz hb; have nO5_0_ := Aside0.mk (Kd.R_below (kr O5_0) hb); have nO5_1_ := Aside0.mk (Kd.R_below (kr O5_1) hb); have nO7_0_ := Aside0.mk (Kd.R_below (kr O7_0) hb); have nO11_0_ := Aside0.mk (Kd.R_below (kr O11_0) hb); have nO11_1_ := Aside0.mk (Kd.R_below (kr O11_1) hb); have nO17_0_ := Aside0.mk (Kd.R_below (kr O17_0) hb); have nO22_0_ := Aside0.mk (Kd.R_below (kr O22_0) hb); have nO22_1_ := Aside0.mk (Kd.R_below (kr O22_1) hb); have nO26_0_ := Aside0.mk (Kd.R_below (kr O26_0) hb); have nO30_0_ := Aside0.mk (Kd.R_below (kr O30_0) hb); have nO30_1_ := Aside0.mk (Kd.R_below (kr O30_1) hb); have nO32_0_ := Aside0.mk (Kd.R_below (kr O32_0) hb); have nBK1_ := bb BK1 hb; have nBK13_ := bb BK13 hb; clear O5_0 O5_1 O7_0 O11_0 O11_1 O17_0 O22_0 O22_1 O26_0 O30_0 O30_1 O32_0 BK1 BK13 HB Z; have O5_0 := nO5_0_; have O5_1 := nO5_1_; have O7_0 := nO7_0_; have O11_0 := nO11_0_; have O11_1 := nO11_1_; have O17_0 := nO17_0_; have O22_0 := nO22_0_; have O22_1 := nO22_1_; have O26_0 := nO26_0_; have O30_0 := nO30_0_; have O30_1 := nO30_1_; have O32_0 := nO32_0_; have BK1 := nBK1_; have BK13 := nBK13_; clear nO5_0_ nO5_1_ nO7_0_ nO11_0_ nO11_1_ nO17_0_ nO22_0_ nO22_1_ nO26_0_ nO30_0_ nO30_1_ nO32_0_ nBK1_ nBK13_; have HB := Aside0.mk z4_; have Z := Aside0.mk z2_; clear z2_ z4_ hb; (try clear hcz33_BK1_0 hfz33_BK1_0 hcz33_BK1_1 hfz33_BK1_1 hcz33_BK1_2 hfz33_BK1_2 hcz33_BK13_0 hfz33_BK13_0 hcz33_BK13_1 hfz33_BK13_1 hcz33_BK13_2 hfz33_BK13_2); have hcz35_BK1_0 : w34_.cell? ⟨gb1_, 0, none⟩ = some (.int .i64 a0) := (blk_cell BK1.out 0).trans rfl; have hfz35_BK1_0 := blk_frozen BK1.out 0; have hcz35_BK1_1 : w34_.cell? ⟨gb1_, 1, none⟩ = some (.slice A0_1 l0_1.length c0_1) := (blk_cell BK1.out 1).trans rfl; have hfz35_BK1_1 := blk_frozen BK1.out 1; have hcz35_BK1_2 : w34_.cell? ⟨gb1_, 2, none⟩ = some (.slice A0_2 l0_2.length c0_2) := (blk_cell BK1.out 2).trans rfl; have hfz35_BK1_2 := blk_frozen BK1.out 2; have hcz35_BK13_0 : w34_.cell? ⟨gb13_, 0, none⟩ = some (.int .i64 a0) := (blk_cell BK13.out 0).trans rfl; have hfz35_BK13_0 := blk_frozen BK13.out 0; have hcz35_BK13_1 : w34_.cell? ⟨gb13_, 1, none⟩ = some (.slice (some ⟨g11_0_, 0, none⟩) l0_1.length (pad l0_1).length) := (blk_cell BK13.out 1).trans rfl; have hfz35_BK13_1 := blk_frozen BK13.out 1; have hcz35_BK13_2 : w34_.cell? ⟨gb13_, 2, none⟩ = some (.slice (some ⟨g11_1_, 0, none⟩) l0_2.length (pad l0_2).length) := (blk_cell BK13.out 2).trans rfl; have hfz35_BK13_2 := blk_frozen BK13.out 2))
 go_ret
 exact ⟨by first | rfl | (simp; done), bz⟩
set_option maxHeartbeats 8000000 in
set_option maxRecDepth 100000 in
theorem law_big0 (a0 : Int) (A0_1 : Option Addr) (c0_1 : Nat) (l0_1 : List Int) (A0_2 : Option Addr) (c0_2 : Nat) (l0_2 : List Int) (A1 : Option Addr) (c1 : Nat) (l1 : List S82) (w : World) (hr0_1 : Kd.C (Kd.int .i64) w A0_1 l0_1.length l0_1) (hc0_1 : l0_1.length ≤ c0_1) (hr0_2 : Kd.C (Kd.int .i64) w A0_2 l0_2.length l0_2) (hc0_2 : l0_2.length ≤ c0_2) (hr1 : Kd.C k82 w A1 l1.length l1) (hc1 : l1.length ≤ c1) (hn : ¬ l0_1.length + l0_2.length ≤ 1000000) :
 Calls Try.prog 7 #[.agg #[.int .i64 a0, .slice A0_1 l0_1.length c0_1, .slice A0_2 l0_2.length c0_2], .slice A1 l1.length c1] w fun e w' => e = .returned (.bool true) ∧ Below w.heap.size w w' := by
 have HR0_1 := Aside0.mk hr0_1; have HC0_1 := Aside0.mk hc0_1; have hm0_1 := hr0_1.2.1
 have HR0_2 := Aside0.mk hr0_2; have HC0_2 := Aside0.mk hc0_2; have hm0_2 := hr0_2.2.1
 have HR1 := Aside0.mk hr1; have HC1 := Aside0.mk hc1; have hm1 := hr1.2.1
 obtain ⟨s0, hs0⟩ : ∃ s : Int, s = (-1) := ⟨_, rfl⟩
 have hzs0 : laws_szBox.f a0 l0_1 l0_2 1000000 = some s0 := by unfold laws_szBox.f; unfold laws_szIntS.f; (by_cases hA_ : wrap64 (1000000 - (l0_1.length : Int)) < 0 <;> by_cases hB_ : wrap64 (wrap64 (1000000 - (l0_1.length : Int)) - (l0_2.length : Int)) < 0 <;> simp [hA_, hB_] <;> (unfold wrap64 at *; omega))
 have HSZ0 := Aside0.mk hzs0
 have cs0 : decide (s0 < 0) = true := decide_eq_true (by omega)
 have HB := Aside0.mk (Below.refl w.heap.size w)
 have Z := Aside0.mk (Nat.zero_le w.heap.size)
 clear hn hr0_1 hc0_1 hm0_1 hr0_2 hc0_2 hm0_2 hr1 hc1 hm1 hs0 hzs0
 go_enter Try.func7, Try.ntmps7
 go_wp2_with (first
  | ((with_reducible refine gate_dst (N := 2) rfl ?_); refine bv (N := 2) (cs := #[.int .i64 a0, .slice A0_1 l0_1.length c0_1, .slice A0_2 l0_2.length c0_2]) (t := 31) ?_; intro gb1_ hg w1_ hbox hb; obtain ⟨z2_, z4_⟩ := still (by exact Z.out) bz hb; have GB1 : Aside0 (0 ≤ gb1_) := ⟨by rw [hg]; exact Z.out⟩; have zb_ : gb1_ + 1 ≤ w1_.heap.size := blk_lt hbox; have BK1 := Aside0.mk hbox; clear HB Z; have HB := Aside0.mk z4_; have Z := Aside0.mk zb_; clear z2_ z4_ zb_ hb hg hbox; have hcz2_BK1_0 : w1_.cell? ⟨gb1_, 0, none⟩ = some (.int .i64 a0) := (blk_cell BK1.out 0).trans rfl; have hfz2_BK1_0 := blk_frozen BK1.out 0; have hcz2_BK1_1 : w1_.cell? ⟨gb1_, 1, none⟩ = some (.slice A0_1 l0_1.length c0_1) := (blk_cell BK1.out 1).trans rfl; have hfz2_BK1_1 := blk_frozen BK1.out 1; have hcz2_BK1_2 : w1_.cell? ⟨gb1_, 2, none⟩ = some (.slice A0_2 l0_2.length c0_2) := (blk_cell BK1.out 2).trans rfl; have hfz2_BK1_2 := blk_frozen BK1.out 2)
  | ((with_reducible refine gate_callee (f := 16) rfl ?_); refine goesL_ (some 16) rfl rfl Try.func16 kf rfl #[.agg #[.int .i64 a0, .slice A0_1 l0_1.length c0_1, .slice A0_2 l0_2.length c0_2], .int .i64 1000000] rfl sm ?_; (with_reducible refine (laws_szBox.calls a0 _ _ l0_1 _ _ l0_2 1000000 s0 _ ?side1 ?side2 ?side3 ?side4 HSZ0.out).mono ?_); (case side1 => repeat (first | exact HR0_1.out | exact (Kd.C_below HR0_1.out bz) | (with_reducible refine Kd.C_alloc ?_ _) | (with_reducible refine Kd.C_drewN ?_ _) | (with_reducible refine Kd.C_drew ?_))); (case side2 => exact HC0_1.out); (case side3 => repeat (first | exact HR0_2.out | exact (Kd.C_below HR0_2.out bz) | (with_reducible refine Kd.C_alloc ?_ _) | (with_reducible refine Kd.C_drewN ?_ _) | (with_reducible refine Kd.C_drew ?_))); (case side4 => exact HC0_2.out); rintro e w3_ ⟨rfl, hb⟩; refine ⟨_, rfl, ?_⟩; obtain ⟨z2_, z4_⟩ := still (by exact Z.out) bz hb; have nBK1_ := bb BK1 hb; clear BK1 HB Z; have BK1 := nBK1_; clear nBK1_; have HB := Aside0.mk z4_; have Z := Aside0.mk z2_; clear z2_ z4_ hb; (try clear hcz2_BK1_0 hfz2_BK1_0 hcz2_BK1_1 hfz2_BK1_1 hcz2_BK1_2 hfz2_BK1_2); have hcz4_BK1_0 : w3_.cell? ⟨gb1_, 0, none⟩ = some (.int .i64 a0) := (blk_cell BK1.out 0).trans rfl; have hfz4_BK1_0 := blk_frozen BK1.out 0; have hcz4_BK1_1 : w3_.cell? ⟨gb1_, 1, none⟩ = some (.slice A0_1 l0_1.length c0_1) := (blk_cell BK1.out 1).trans rfl; have hfz4_BK1_1 := blk_frozen BK1.out 1; have hcz4_BK1_2 : w3_.cell? ⟨gb1_, 2, none⟩ = some (.slice A0_2 l0_2.length c0_2) := (blk_cell BK1.out 2).trans rfl; have hfz4_BK1_2 := blk_frozen BK1.out 2))
 go_ret
 exact ⟨by first | rfl | (simp; done), bz⟩
set_option maxHeartbeats 8000000 in
set_option maxRecDepth 100000 in
theorem law_big1 (a0 : Int) (A0_1 : Option Addr) (c0_1 : Nat) (l0_1 : List Int) (A0_2 : Option Addr) (c0_2 : Nat) (l0_2 : List Int) (A1 : Option Addr) (c1 : Nat) (l1 : List S82) (w : World) (hr0_1 : Kd.C (Kd.int .i64) w A0_1 l0_1.length l0_1) (hc0_1 : l0_1.length ≤ c0_1) (hr0_2 : Kd.C (Kd.int .i64) w A0_2 l0_2.length l0_2) (hc0_2 : l0_2.length ≤ c0_2) (hr1 : Kd.C k82 w A1 l1.length l1) (hc1 : l1.length ≤ c1) (hn1 : l0_1.length + l0_2.length ≤ 1000000) (hn : ¬ l0_1.length + l0_2.length + l1.length ≤ 1000000) :
 Calls Try.prog 7 #[.agg #[.int .i64 a0, .slice A0_1 l0_1.length c0_1, .slice A0_2 l0_2.length c0_2], .slice A1 l1.length c1] w fun e w' => e = .returned (.bool true) ∧ Below w.heap.size w w' := by
 have HR0_1 := Aside0.mk hr0_1; have HC0_1 := Aside0.mk hc0_1; have hm0_1 := hr0_1.2.1
 have HR0_2 := Aside0.mk hr0_2; have HC0_2 := Aside0.mk hc0_2; have hm0_2 := hr0_2.2.1
 have HR1 := Aside0.mk hr1; have HC1 := Aside0.mk hc1; have hm1 := hr1.2.1
 obtain ⟨s0, hs0⟩ : ∃ s : Int, s = (1000000 : Int) - (l0_1.length : Int) - (l0_2.length : Int) := ⟨_, rfl⟩
 have hzs0 : laws_szBox.f a0 l0_1 l0_2 1000000 = some s0 := by unfold laws_szBox.f; unfold laws_szIntS.f; (by_cases hA_ : wrap64 (1000000 - (l0_1.length : Int)) < 0 <;> by_cases hB_ : wrap64 (wrap64 (1000000 - (l0_1.length : Int)) - (l0_2.length : Int)) < 0 <;> simp [hA_, hB_] <;> (unfold wrap64 at *; omega))
 have HSZ0 := Aside0.mk hzs0
 have cs0 : decide (s0 < 0) = false := decide_eq_false (by omega)
 obtain ⟨s1, hs1⟩ : ∃ s : Int, s = (-1) := ⟨_, rfl⟩
 have hzs1 : laws_szDyadicS.f l1 s0 = some s1 := by unfold laws_szDyadicS.f; rw [if_pos (by unfold wrap64; omega), hs1]
 have HSZ1 := Aside0.mk hzs1
 have cs1 : decide (s1 < 0) = true := decide_eq_true (by omega)
 have HB := Aside0.mk (Below.refl w.heap.size w)
 have Z := Aside0.mk (Nat.zero_le w.heap.size)
 clear hn hn1 hr0_1 hc0_1 hm0_1 hr0_2 hc0_2 hm0_2 hr1 hc1 hm1 hs0 hzs0 hs1 hzs1
 go_enter Try.func7, Try.ntmps7
 go_wp2_with (first
  | ((with_reducible refine gate_dst (N := 2) rfl ?_); refine bv (N := 2) (cs := #[.int .i64 a0, .slice A0_1 l0_1.length c0_1, .slice A0_2 l0_2.length c0_2]) (t := 31) ?_; intro gb1_ hg w1_ hbox hb; obtain ⟨z2_, z4_⟩ := still (by exact Z.out) bz hb; have GB1 : Aside0 (0 ≤ gb1_) := ⟨by rw [hg]; exact Z.out⟩; have zb_ : gb1_ + 1 ≤ w1_.heap.size := blk_lt hbox; have BK1 := Aside0.mk hbox; clear HB Z; have HB := Aside0.mk z4_; have Z := Aside0.mk zb_; clear z2_ z4_ zb_ hb hg hbox; have hcz2_BK1_0 : w1_.cell? ⟨gb1_, 0, none⟩ = some (.int .i64 a0) := (blk_cell BK1.out 0).trans rfl; have hfz2_BK1_0 := blk_frozen BK1.out 0; have hcz2_BK1_1 : w1_.cell? ⟨gb1_, 1, none⟩ = some (.slice A0_1 l0_1.length c0_1) := (blk_cell BK1.out 1).trans rfl; have hfz2_BK1_1 := blk_frozen BK1.out 1; have hcz2_BK1_2 : w1_.cell? ⟨gb1_, 2, none⟩ = some (.slice A0_2 l0_2.length c0_2) := (blk_cell BK1.out 2).trans rfl; have hfz2_BK1_2 := blk_frozen BK1.out 2)
  | ((with_reducible refine gate_callee (f := 16) rfl ?_); refine goesL_ (some 16) rfl rfl Try.func16 kf rfl #[.agg #[.int .i64 a0, .slice A0_1 l0_1.length c0_1, .slice A0_2 l0_2.length c0_2], .int .i64 1000000] rfl sm ?_; (with_reducible refine (laws_szBox.calls a0 _ _ l0_1 _ _ l0_2 1000000 s0 _ ?side1 ?side2 ?side3 ?side4 HSZ0.out).mono ?_); (case side1 => repeat (first | exact HR0_1.out | exact (Kd.C_below HR0_1.out bz) | (with_reducible refine Kd.C_alloc ?_ _) | (with_reducible refine Kd.C_drewN ?_ _) | (with_reducible refine Kd.C_drew ?_))); (case side2 => exact HC0_1.out); (case side3 => repeat (first | exact HR0_2.out | exact (Kd.C_below HR0_2.out bz) | (with_reducible refine Kd.C_alloc ?_ _) | (with_reducible refine Kd.C_drewN ?_ _) | (with_reducible refine Kd.C_drew ?_))); (case side4 => exact HC0_2.out); rintro e w3_ ⟨rfl, hb⟩; refine ⟨_, rfl, ?_⟩; obtain ⟨z2_, z4_⟩ := still (by exact Z.out) bz hb; have nBK1_ := bb BK1 hb; clear BK1 HB Z; have BK1 := nBK1_; clear nBK1_; have HB := Aside0.mk z4_; have Z := Aside0.mk z2_; clear z2_ z4_ hb; (try clear hcz2_BK1_0 hfz2_BK1_0 hcz2_BK1_1 hfz2_BK1_1 hcz2_BK1_2 hfz2_BK1_2); have hcz4_BK1_0 : w3_.cell? ⟨gb1_, 0, none⟩ = some (.int .i64 a0) := (blk_cell BK1.out 0).trans rfl; have hfz4_BK1_0 := blk_frozen BK1.out 0; have hcz4_BK1_1 : w3_.cell? ⟨gb1_, 1, none⟩ = some (.slice A0_1 l0_1.length c0_1) := (blk_cell BK1.out 1).trans rfl; have hfz4_BK1_1 := blk_frozen BK1.out 1; have hcz4_BK1_2 : w3_.cell? ⟨gb1_, 2, none⟩ = some (.slice A0_2 l0_2.length c0_2) := (blk_cell BK1.out 2).trans rfl; have hfz4_BK1_2 := blk_frozen BK1.out 2)
  | ((with_reducible refine gate_callee (f := 11) rfl ?_); refine goesL_ (some 21) rfl rfl Try.func11 kf rfl #[.slice A1 l1.length c1, .int .i64 s0] rfl sm ?_; (with_reducible refine (laws_szDyadicS.calls _ _ l1 s0 s1 _ ?side1 ?side2 HSZ1.out).mono ?_); (case side1 => repeat (first | exact HR1.out | exact (Kd.C_below HR1.out bz) | (with_reducible refine Kd.C_alloc ?_ _) | (with_reducible refine Kd.C_drewN ?_ _) | (with_reducible refine Kd.C_drew ?_))); (case side2 => exact HC1.out); rintro e w' ⟨rfl, ⟨nd, rfl⟩⟩; refine ⟨_, rfl, ?_⟩))
 go_ret
 exact ⟨by first | rfl | (simp; done), bz⟩
def Pure : Prop := ∀ (a0 : Int) (l0_1 l0_2 : List Int) (l1 : List S82), l0_1.length + l0_2.length + l1.length ≤ 1000000 → ∃ (ks ki : Nat) (r1 : Bool) (r2 : Bool), spec_HasPoint.f ks a0 l0_1 l0_2 (l1.map cvDyadicS) = some (r1, r2) ∧ impl_HasPoint.f ki a0 l0_1 l0_2 (l1.map cvDyadicS) = some (r1, r2)
theorem law_holds (P_ : Pure) (a0 : Int) (A0_1 : Option Addr) (c0_1 : Nat) (l0_1 : List Int) (A0_2 : Option Addr) (c0_2 : Nat) (l0_2 : List Int) (A1 : Option Addr) (c1 : Nat) (l1 : List S82) (w : World) (hr0_1 : Kd.C (Kd.int .i64) w A0_1 l0_1.length l0_1) (hc0_1 : l0_1.length ≤ c0_1) (hr0_2 : Kd.C (Kd.int .i64) w A0_2 l0_2.length l0_2) (hc0_2 : l0_2.length ≤ c0_2) (hr1 : Kd.C k82 w A1 l1.length l1) (hc1 : l1.length ≤ c1) :
 Calls Try.prog 7 #[.agg #[.int .i64 a0, .slice A0_1 l0_1.length c0_1, .slice A0_2 l0_2.length c0_2], .slice A1 l1.length c1] w fun e w' => e = .returned (.bool true) ∧ Below w.heap.size w w' := by
 by_cases hn0 : l0_1.length + l0_2.length ≤ 1000000
 case neg => exact law_big0 a0 A0_1 c0_1 l0_1 A0_2 c0_2 l0_2 A1 c1 l1 w hr0_1 hc0_1 hr0_2 hc0_2 hr1 hc1 hn0
 by_cases hn1 : l0_1.length + l0_2.length + l1.length ≤ 1000000
 case neg => exact law_big1 a0 A0_1 c0_1 l0_1 A0_2 c0_2 l0_2 A1 c1 l1 w hr0_1 hc0_1 hr0_2 hc0_2 hr1 hc1 hn0 hn1
 have hn := hn1
 obtain ⟨ks, ki, r1, r2, hs, hi⟩ := P_ a0 l0_1 l0_2 l1 (by omega)
 obtain ⟨kw1, hw1⟩ := toDyadicS_whole l1 (by omega)
 obtain ⟨kb1, hba1⟩ := toDyadicS_bare l1 (by omega)
 have hrm1 := room_le l1.length
 obtain ⟨kb0, hba0⟩ := toBox_bare a0 l0_1 l0_2 (by omega) (by omega)
 exact law_walk a0 A0_1 c0_1 l0_1 A0_2 c0_2 l0_2 A1 c1 l1 _ (padDyadicS l1) kw1 kb1 ((padDyadicS l1).length + 1) kb0 w hr0_1 hc0_1 hr0_2 hc0_2 hr1 hc1 hw1 hba1 (by simp) ⟨_, rfl⟩ (by rw [padDyadicS_length, List.length_map]) (eqDyadicS_self _ (by rw [padDyadicS_length]; omega))  hba0 (by omega) ks ki r1 r2 hs hi
end Go.Proofs.Ytalcohajbcijlaa.QHps
