import Derived.Test.YtcgcgifndkeeoaaZHasRootBetweenSq
import Derived.Test.YtcgcgifndkeeoaaZHasRootBetweenQStx
namespace Go.Proofs.Ytcgcgifndkeeoaa.QSt
open Go.RowKit Go.Proofs.YtcgcgifndkeeoaaW.PrintWords Go.Proofs.YtcgcgifndkeeoaaW.PrintLast Go.Proofs.YtcgcgifndkeeoaaW.PrintMore
set_option linter.unusedVariables false
set_option linter.unusedSimpArgs false
section
variable {P : Program} {ops : Array Oper} {rest : List Oper} {o : Oper} {a : Act} {Q : Exit → Act → World → Prop} {α : Type}
theorem lit_whole (d : Kd α) {w0 W : World} (base e : Nat) (hgd : o.guard = none) {N : Tmp} (hd : o.dst = some N) {xs : List α} {inner : List Value} {ok okp : Nat → Prop}
 (hrun : (execOp a.eval o).run P W = .ok (.value (.slice (some ⟨W.heap.size, 0, none⟩) xs.length xs.length)) (W.alloc (.cells inner.toArray e)))
 (hrep : Reps (d.M W base okp) d.sz xs inner) (hok : ∀ k, okp k → ok k) (hfresh : ok W.heap.size) (HB : Below base w0 W) (hbase : base ≤ W.heap.size) (hm : xs.length ≤ 9223372036854775807)
 (h : ∀ g w1, d.R e w1 base ok (.slice (some ⟨g, 0, none⟩) xs.length xs.length) xs → Below base w0 w1 → W.grownBy w1 none → base ≤ g → wpList P ops Q rest (a.put o.dst (.slice (some ⟨g, 0, none⟩) xs.length xs.length)) w1) : wpList P ops Q (o :: rest) a W := by
 refine Kd.event_run hgd hrun (h _ _ ⟨fun k hk => ?_, inner, ?_, ?_⟩ (HB.alloc hbase _) (World.grownBy_alloc W _ none) hbase)
 ·have : W.heap.size = k := by simpa [Value.ownBlock] using hk
  subst this
  exact hfresh
 ·have h2 := World.ownsRow_lit (base := base) (e := e) (size := d.sz) W inner.toArray xs.length hbase (by simpa [maxLen] using hm) (by simpa using hrep.1)
  simpa using h2
 ·refine hrep.imp_ (fun p c hp => d.M_mono (fun k hk => ⟨hok k hk.1, fun he => ?_⟩) (Kd.M_below (d.M_bound hp) (below_alloc (Below.refl _ _) _)))
  have h3 : k = W.heap.size := by simpa [Value.ownBlock] using he
  have := hk.2.2.1
  omega
theorem make_whole (d : Kd α) {w0 W : World} (base e : Nat) (hgd : o.guard = none) {N : Tmp} (hd : o.dst = some N) (t : TypeId) (x y : Operand) (ho : o.op = .makeSlice t x y) (n : Int) (hx : a.eval x = .int .i64 n) (hy : a.eval y = .int .i64 n)
 (ht : P.underlying t = some (.slice e)) (z : Value) (bytes : Nat) (hinfo : (P.info? e).map (fun i => (i.zero, i.size, i.bytes)) = some (some z, d.sz, bytes)) (hz : z.cells.size = d.sz) (hs0 : 0 < d.sz) (hb0 : 0 < bytes)
 (z0 : α) {ok okp : Nat → Prop} (hzero : d.M W base okp z0 z.cells.toList) (hok : ∀ k, okp k → ok k) (hfresh : ok W.heap.size) (h0 : 0 ≤ n) (hl : n.toNat * bytes ≤ 281474976710656) (HB : Below base w0 W) (hbase : base ≤ W.heap.size)
 (h : ∀ g w1, d.R e w1 base ok (.slice (some ⟨g, 0, none⟩) n.toNat n.toNat) (List.replicate n.toNat z0) → Below base w0 w1 → W.grownBy w1 none → base ≤ g → wpList P ops Q rest (a.put o.dst (.slice (some ⟨g, 0, none⟩) n.toNat n.toNat)) w1) : wpList P ops Q (o :: rest) a W := by
 obtain ⟨m, rfl⟩ := Int.eq_ofNat_of_zero_le h0
 simp only [Int.toNat_natCast] at hl h
 obtain ⟨i0, hi, hzz⟩ := Option.map_eq_some_iff.1 hinfo
 simp only [Prod.mk.injEq] at hzz
 obtain ⟨hz0, hz1, hz2⟩ := hzz
 have hm : m ≤ 281474976710656 := Nat.le_trans (Nat.le_mul_of_pos_right _ hb0) hl
 have hr := run_make (P := P) W t e i0 z ht hi hz0 .i64 .i64 (m : Int) (m : Int) (by omega) (by omega)
  (by
   have h3 : ((i0.bytes * m : Nat) : Int) ≤ 281474976710656 := by rw [hz2, Nat.mul_comm]; omega
   rwa [Int.natCast_mul] at h3) (by omega)
 simp only [Int.toNat_natCast] at hr
 rw [hz1] at hr
 refine lit_whole d base e hgd hd (xs := List.replicate m z0) (inner := (madeCells z.cells (m * d.sz)).toList) (okp := okp) (ok := ok) ?_ (Kd.reps_made hz hs0 hzero m) hok hfresh HB hbase (by simp; omega) (by simpa using h)
 simp [execOp, ho, hx, hy, hr]
end
theorem cut_room {P : Program} (t e : TypeId) (kh : IntKind) {i : TypeInfo} (ht : P.underlying t = some (.slice e)) (hi : P.info? e = some i) (A : Option Addr) (n c : Nat) (j : Int) (h0 : 0 ≤ j) (hc : j ≤ c) :
 ∀ W : World, (Instr.slice t (.slice A n c) none (some (.int kh j)) none).run P W = .ok (.slice A j.toNat c) W := by
 intro W
 have hel : P.elem t = e := by simp [Program.elem, ht]
 have hu : P.underlying t = some (.slice (P.elem t)) := by rw [hel]; exact ht
 have ha : (A.map fun x => x.add 0) = A := by cases A <;> simp [Addr.add]
 rw [run_slice_h W t A n c hu kh j h0 hc, hel]
 simp [sizeOf, typeInfo, hi, sliced, Result.andThen, ha]
section
variable {α : Type} {d : Kd α}
theorem C_begin {w : World} {A : Option Addr} {n : Nat} {xs ys : List α} (h : d.C w A n (xs ++ ys)) : d.C w A xs.length xs := by
 obtain ⟨h1, h2, h3⟩ := h
 simp only [List.length_append] at h1
 refine ⟨rfl, by omega, fun hp => ?_⟩
 obtain ⟨ad, e, hc⟩ := h3 (by omega)
 refine ⟨ad, e, fun j p hj => hc j p ?_⟩
 rw [List.getElem?_append_left (List.getElem?_eq_some_iff.1 hj).1]
 exact hj
end
theorem made {α : Type} {d : Kd α} {e : Nat} {v : Value} {xs : List α} {w W W' : World} {bp : Nat} (hp : bp ≤ W.heap.size) (hB : Below w.heap.size w W) (hb : Below W.heap.size W W') (ho : d.R e W' W.heap.size (fun _ => True) v xs) :
 ∃ a b, (bp ≤ a ∧ a ≤ b) ∧ b ≤ W'.heap.size ∧ d.R e W' w.heap.size (fun k => a ≤ k ∧ k < b) v xs ∧ Below w.heap.size w W' :=
 ⟨W.heap.size, W'.heap.size, ⟨hp, hb.size⟩, Nat.le_refl _, Kd.R_lower (Kd.R_mono (Kd.R_bound ho) (fun k hk => ⟨hk.2.1, hk.2.2.1⟩)) hB.size, below_step hB hb⟩
theorem still {w W W' : World} {bp : Nat} (hp : bp ≤ W.heap.size) (hB : Below w.heap.size w W) (hb : Below W.heap.size W W') : bp ≤ W'.heap.size ∧ Below w.heap.size w W' := ⟨Nat.le_trans hp hb.size, below_step hB hb⟩
def room (n : Nat) : Nat := if n % 6 = 5 then 0 else if n % 3 = 0 then 1 else n
theorem room_le (n : Nat) : room n ≤ n + 1 := by unfold room; split <;> (try split) <;> omega
theorem roomBehind_eq (n : Nat) : laws_roomBehind.f (n : Int) = some (room n : Int) := by
 have h6 : Int.tmod (n : Int) 6 = ((n % 6 : Nat) : Int) := by rw [Int.tmod_eq_emod_of_nonneg (by omega)]; rfl
 have h3 : Int.tmod (n : Int) 3 = ((n % 3 : Nat) : Int) := by rw [Int.tmod_eq_emod_of_nonneg (by omega)]; rfl
 unfold laws_roomBehind.f room
 rw [h6, h3]
 by_cases a : n % 6 = 5
 ·rw [if_pos (by omega), if_pos a]; rfl
 ·rw [if_neg (by omega), if_neg a]
  by_cases b : n % 3 = 0
  ·rw [if_pos (by omega), if_pos b]; rfl
  ·rw [if_neg (by omega), if_neg b]
def pad (l : List Int) : List Int := l ++ List.replicate (room l.length) (-7000000000000000101)
theorem pad_length (l : List Int) : (pad l).length = l.length + room l.length := by simp [pad]
theorem set_fill (l : List Int) (F i : Nat) (h : i < l.length) (hF : l.length ≤ F) : (l.take i ++ List.replicate (F - i) 0).set i (rd l i) = l.take (i + 1) ++ List.replicate (F - (i + 1)) 0 := by
 have h1 : F - i = (F - (i + 1)) + 1 := by omega
 rw [h1, List.replicate_succ, List.set_append_right _ _ (by simp; omega)]
 have h2 : i - (l.take i).length = 0 := by simp; omega
 rw [h2, List.set_cons_zero]
 have h3 : l.take (i + 1) = l.take i ++ [rd l i] := by
  rw [List.take_add_one, List.getElem?_eq_getElem h]
  simp [rd, h]
 rw [h3, List.append_assoc]
 rfl
theorem set_fill2 (l : List Int) (F i : Nat) (h : l.length ≤ i) (hF : i < F) : (l ++ (List.replicate (i - l.length) (-7000000000000000101) ++ List.replicate (F - i) 0)).set i (-7000000000000000101) = l ++ (List.replicate (i + 1 - l.length) (-7000000000000000101) ++ List.replicate (F - (i + 1)) 0) := by
 have h1 : F - i = (F - (i + 1)) + 1 := by omega
 rw [List.set_append_right _ _ h, List.set_append_right _ _ (by simp), h1, List.replicate_succ]
 have h2 : i - l.length - (List.replicate (i - l.length) (-7000000000000000101 : Int)).length = 0 := by simp
 rw [h2, List.set_cons_zero]
 have h3 : i + 1 - l.length = (i - l.length) + 1 := by omega
 rw [h3, List.replicate_succ', List.append_assoc]
 rfl
set_option maxHeartbeats 4000000 in
set_option maxRecDepth 100000 in
theorem toIntS_pad (A0 : Option Addr) (c0 : Nat) (l0 : List Int) (w : World) (hr0 : Kd.C (Kd.int .i64) w A0 l0.length l0) (hc0 : l0.length ≤ c0) (hn : l0.length ≤ 1000000) :
 Calls Try.prog 14 #[.slice A0 l0.length c0, .bool false] w fun e w' => ∃ g, e = .returned (.slice (some ⟨g, 0, none⟩) l0.length (pad l0).length) ∧ Kd.R (Kd.int .i64) 3 w' w.heap.size (fun _ => True) (.slice (some ⟨g, 0, none⟩) (pad l0).length (pad l0).length) (pad l0) ∧ Below w.heap.size w w' := by
 have HR0 := Aside0.mk hr0
 have HC0 := Aside0.mk hc0
 have HN := Aside0.mk hn
 have hm := Aside0.mk (roomBehind_eq l0.length)
 have hmb := room_le l0.length
 obtain ⟨m, hmm⟩ : ∃ m, room l0.length = m := ⟨_, rfl⟩
 obtain ⟨F, hF⟩ : ∃ F, (pad l0).length = F := ⟨_, rfl⟩
 rw [hmm] at hm hmb
 have hFm : F = l0.length + m := by rw [← hF, pad_length, hmm]
 have hFw : (IntKind.i64.wrap ((l0.length : Int) + (m : Int))) = (F : Int) := by rw [i64_w]; unfold wrap64; omega
 have hFF := Aside0.mk hF
 have MM := Aside0.mk hmm
 have HFM := Aside0.mk hFm
 have HMB := Aside0.mk hmb
 rw [hF]
 clear hr0 hc0 hF hmm hFm hn hmb
 have hp0 : decide (0 ≤ (F : Int)) = true := by simp
 have HB := Aside0.mk (Below.refl w.heap.size w)
 go_enter Try.func14, Try.ntmps14
 go_wp2_with (first | ((with_reducible refine gate_callee (f := 48) rfl ?_); refine goesL_ (some 18) rfl rfl Try.func48 kf rfl #[.int .i64 (l0.length : Int)] rfl (by (try simp only [List.map_toArray, List.map_cons, List.map_nil]); first | done | rfl) ?_; (with_reducible refine (laws_roomBehind.calls (l0.length : Int) (m : Int) _ hm.out).mono ?_); rintro e w' ⟨rfl, ⟨nd, rfl⟩⟩; refine ⟨_, rfl, ?_⟩) | ((with_reducible refine gate_dst (N := 20) rfl ?_); (try (refine gate_guard (by rfl) ?_; dsimp only)); refine make_whole (Kd.int .i64) _ 3 rfl (N := 20) rfl 22 _ _ rfl (F : Int) rfl rfl Try.underlying22 (.int .i64 0) 8 info3 rfl (by decide) (by omega) 0 (ok := fun _ => True) (okp := fun _ => True) rfl (fun _ hk => hk) trivial (by omega) (by have := HFM.out; have := HMB.out; have := HN.out; omega) (Below.refl _ _) (Nat.le_refl _) ?_; intro g w10 ho11 hb hg_ hgb; clear hg_; have n0_ := Aside0.mk (Kd.R_lower ho11 (below_size bz)); have n1_ := Aside0.mk (below_step bz hb); clear HB; have HO109 := n0_; have HB := n1_; clear n0_ n1_ hb ho11))
 go_loopg [6] l0.length (fun kq v6 w' => ∃ x : Int, v6 = .int .i64 x ∧ Aside0 (0 ≤ x ∧ x + kq = l0.length) ∧ Aside0 (Kd.R (Kd.int .i64) 3 w' w.heap.size (fun _ => True) (.slice (some ⟨g, 0, none⟩) F F) (l0.take x.toNat ++ List.replicate (F - x.toNat) 0)) ∧ Aside0 (Below w.heap.size w w'))
 case atStart => exact ⟨0, rfl, ⟨by omega⟩, ⟨by have h := HO109.out; simp only [Int.toNat_natCast] at h; simpa using h⟩, HB⟩
 case round =>
  clear HO109 HB
  obtain ⟨x, rfl, HI, HO, HB⟩ := hrel
  by_cases hlt : x < (l0.length : Int)
  ·have c1 : decide (x < (l0.length : Int)) = true := decide_eq_true hlt
   have c2 : decide (0 ≤ x) = true := decide_eq_true HI.out.1
   have c3 : decide (x < (F : Int)) = true := decide_eq_true (by have := HFM.out; omega)
   obtain ⟨ad, e1, hx1⟩ := Kd.at_int HR0.out x HI.out.1 hlt
   cases e1
   replace hx1 := (HB.out.cell (World.block_lt_of_cell? w _ hx1)).trans hx1
   have hl : (l0.take x.toNat ++ List.replicate (F - x.toNat) 0).length = F := by have := HI.out; have := HFM.out; simp only [List.length_append, List.length_take, List.length_replicate]; omega
   obtain ⟨hx2, hf2⟩ := Kd.R_celln 0 HO.out x HI.out.1 (by have := HFM.out; omega)
   have HP := Kd.R_putg HO.out x (rd l0 x)
   obtain ⟨y, hy⟩ : ∃ y, y = (l0.take x.toNat ++ List.replicate (F - x.toNat) 0).set x.toNat (rd l0 x) := ⟨_, rfl⟩
   have hy2 : y = l0.take (x + 1).toNat ++ List.replicate (F - (x + 1).toNat) 0 := by
    rw [hy]
    have h0 := HI.out
    have h1 := HFM.out
    obtain ⟨i, rfl⟩ := Int.eq_ofNat_of_zero_le h0.1
    have e : ((i : Int) + 1).toNat = i + 1 := by omega
    rw [e]
    simp only [Int.toNat_natCast]
    exact set_fill l0 F i (by omega) (by omega)
   rw [← hy] at HP
   have HY := Aside0.mk hy2
   have GB := Aside0.mk (Kd.R_base HO.out g (by simp [Value.ownBlock]))
   clear hy hy2 hl
   replace hlt := eq_true hlt
   have p2 := eq_true HI.out.1
   have p3 := eq_true (of_decide_eq_true c3)
   go_wp2_with (first | ((with_reducible refine gate_store (t := 3) (p := 33) rfl ?_); refine store_event (t := 3) (p := 33) (v := ?vo_w17) (w1 := (wr.setCell ⟨g, x.toNat, none⟩ (.int .i64 (rd l0 x)))) ?hg ?ho ?hn ?hr ?_; (case ho => rfl); (case hg => rfl); (case hn => rfl); (case hr => first | (go_simp; done) | (go_simp; rfl)); intro w17 hw; have n0_ := Aside0.mk (by rw [hw]; exact HP.1 : Kd.R (Kd.int .i64) 3 w17 w.heap.size (fun _ => True) (.slice (some ⟨g, 0, none⟩) F F) y); have n1_ := Aside0.mk (by rw [hw]; exact below_set HB.out GB.out : Below w.heap.size w w17); clear HO HB HP; have HO := n0_; have HB := n1_; clear n0_ n1_ hw))
   cases gk with
   | zero => exact absurd HI.out.2 (by have := of_eq_true hlt; omega)
   | succ k1 =>
    go_roundg k1
    case measure => omega
    case rel => exact ⟨x + 1, by have := HI.out; have := HN.out; rw [show wrap64 (x + 1) = x + 1 by unfold wrap64; omega], ⟨by have := HI.out; omega⟩, ⟨by rw [← HY.out]; exact HO.out⟩, HB⟩
  ·have c1 : decide (x < (l0.length : Int)) = false := decide_eq_false hlt
   have hx : x = (l0.length : Int) := by have := HI.out; omega
   subst hx
   have HO' : Aside0 (Kd.R (Kd.int .i64) 3 wr w.heap.size (fun _ => True) (.slice (some ⟨g, 0, none⟩) F F) (l0 ++ List.replicate (F - l0.length) 0)) := ⟨by have h := HO.out; simpa using h⟩
   clear HO HI hlt
   go_wp2
   go_loopg [7] (F - l0.length) (fun kq v6 w' => ∃ x : Int, v6 = .int .i64 x ∧ Aside0 ((l0.length : Int) ≤ x ∧ x + kq = F) ∧ Aside0 (Kd.R (Kd.int .i64) 3 w' w.heap.size (fun _ => True) (.slice (some ⟨g, 0, none⟩) F F) (l0 ++ (List.replicate (x.toNat - l0.length) (-7000000000000000101) ++ List.replicate (F - x.toNat) 0))) ∧ Aside0 (Below w.heap.size w w'))
   case atStart => exact ⟨l0.length, rfl, ⟨by have := HFM.out; omega⟩, ⟨by have h := HO'.out; simpa using h⟩, HB⟩
   case round =>
    clear HO' HB c1
    obtain ⟨x, rfl, HI, HO, HB⟩ := hrel
    by_cases hlt : x < (F : Int)
    ·have c1 : decide (x < (F : Int)) = true := decide_eq_true hlt
     have c2 : decide (0 ≤ x) = true := decide_eq_true (by have := HI.out; omega)
     obtain ⟨hx2, hf2⟩ := Kd.R_celln 0 HO.out x (by have := HI.out; omega) hlt
     have HP := Kd.R_putg HO.out x (-7000000000000000101)
     obtain ⟨y, hy⟩ : ∃ y, y = (l0 ++ (List.replicate (x.toNat - l0.length) (-7000000000000000101) ++ List.replicate (F - x.toNat) 0)).set x.toNat (-7000000000000000101) := ⟨_, rfl⟩
     have hy2 : y = l0 ++ (List.replicate ((x + 1).toNat - l0.length) (-7000000000000000101) ++ List.replicate (F - (x + 1).toNat) 0) := by
      rw [hy]
      have h0 := HI.out
      obtain ⟨i, rfl⟩ := Int.eq_ofNat_of_zero_le (show 0 ≤ x by omega)
      have e : ((i : Int) + 1).toNat = i + 1 := by omega
      rw [e]
      simp only [Int.toNat_natCast]
      exact set_fill2 l0 F i (by omega) (by omega)
     rw [← hy] at HP
     have HY := Aside0.mk hy2
     have GB := Aside0.mk (Kd.R_base HO.out g (by simp [Value.ownBlock]))
     clear hy hy2
     have p2 := eq_true (of_decide_eq_true c2)
     have p3 := eq_true hlt
     go_wp2
     cases gk with
     | zero => exact absurd HI.out.2 (by have := of_decide_eq_true c1; omega)
     | succ k1 =>
      go_roundg k1
      case measure => omega
      case rel => exact ⟨x + 1, by have := HI.out; have := HN.out; have := HFM.out; have := HMB.out; rw [show wrap64 (x + 1) = x + 1 by unfold wrap64; omega], ⟨by have := HI.out; omega⟩, ⟨by rw [← HY.out]; exact HP.1⟩, ⟨below_set HB.out GB.out⟩⟩
    ·have c1 : decide (x < (F : Int)) = false := decide_eq_false hlt
     have hx : x = (F : Int) := by have := HI.out; omega
     subst hx
     have HO' : Aside0 (Kd.R (Kd.int .i64) 3 wr w.heap.size (fun _ => True) (.slice (some ⟨g, 0, none⟩) F F) (pad l0)) := ⟨by have h := HO.out; have e : F - l0.length = room l0.length := (by rw [MM.out]; have := HFM.out; omega); simpa [pad, e] using h⟩
     clear HO HI hlt
     obtain ⟨i027, hi027, _, hsz27, _⟩ := info_parts info3
     have hcut27 := cut_to (P := Try.prog) 22 3 .i64 Try.underlying22 hi027 (some ⟨g, 0, none⟩) F F (l0.length : Int) (by omega) (by have := HFM.out; omega) (Nat.le_refl _)
     go_wp2
     go_ret
     exact ⟨g, by simp, HO'.out, HB.out⟩
theorem eqIntS_loop (l : List Int) (hn : l.length ≤ 9223372036854775807) (d : Nat) : ∀ (k : Nat) (x : Int), 0 ≤ x → (l.length : Int) - x = d → d < k → laws_eqIntS.l0 k l l x = some true := by
 induction d with
 | zero =>
  intro k x h0 hd hk
  obtain ⟨k, rfl⟩ : ∃ m, k = m + 1 := ⟨k - 1, by omega⟩
  simp only [laws_eqIntS.l0]; rw [if_neg (by omega)]
 | succ d ih =>
  intro k x h0 hd hk
  obtain ⟨k, rfl⟩ : ∃ m, k = m + 1 := ⟨k - 1, by omega⟩
  simp only [laws_eqIntS.l0]; rw [if_pos (by omega), if_pos h0, if_pos (by omega), if_pos trivial, show wrap64 (x + 1) = x + 1 by unfold wrap64; omega]
  exact ih k (x + 1) (by omega) (by omega) (by omega)
theorem eqIntS_self (l : List Int) (hn : l.length ≤ 9223372036854775807) : laws_eqIntS.f (l.length + 1) l l = some true := by
 unfold laws_eqIntS.f
 rw [if_pos rfl]
 exact eqIntS_loop l hn l.length (l.length + 1) 0 (by omega) (by omega) (by omega)
set_option maxHeartbeats 4000000 in
set_option maxRecDepth 100000 in
theorem intactIntS_pad (g1 g2 : Nat) (l : List Int) (w : World) (hl : l.length ≤ 1000000)
 (h1 : ∃ b ok, Kd.R (Kd.int .i64) 3 w b ok (.slice (some ⟨g1, 0, none⟩) (pad l).length (pad l).length) (pad l))
 (h2 : ∃ b ok, Kd.R (Kd.int .i64) 3 w b ok (.slice (some ⟨g2, 0, none⟩) (pad l).length (pad l).length) (pad l)) :
 Calls Try.prog 17 #[.slice (some ⟨g1, 0, none⟩) l.length (pad l).length, .slice (some ⟨g2, 0, none⟩) l.length (pad l).length] w fun e w' => e = .returned (.bool true) ∧ Drawn0 w w' := by
 obtain ⟨_, _, h1⟩ := h1
 obtain ⟨_, _, h2⟩ := h2
 have H1 := Aside0.mk (Kd.R_reads' h1).2.2
 have H2 := Aside0.mk (Kd.R_reads' h2).2.2
 have hm := Aside0.mk (roomBehind_eq l.length)
 have hmb := room_le l.length
 have HE := Aside0.mk (eqIntS_self (pad l) (by rw [pad_length]; omega))
 obtain ⟨p, hp⟩ : ∃ p, pad l = p := ⟨_, rfl⟩
 have hpl := pad_length l
 obtain ⟨m, hmm⟩ : ∃ m, room l.length = m := ⟨_, rfl⟩
 rw [hp] at H1 H2 HE hpl ⊢
 rw [hmm] at hm hmb hpl
 have hFw : (IntKind.i64.wrap ((l.length : Int) + (m : Int))) = (p.length : Int) := by rw [i64_w]; unfold wrap64; omega
 have HL := Aside0.mk hpl
 clear h1 h2 hp hpl hmm hmb
 obtain ⟨i0, hi0, _, hsz, _⟩ := info_parts info3
 have hc1 := cut_room (P := Try.prog) 22 3 .i64 Try.underlying22 hi0 (some ⟨g1, 0, none⟩) l.length p.length (p.length : Int) (by omega) (Int.le_refl _)
 have hc2 := cut_room (P := Try.prog) 22 3 .i64 Try.underlying22 hi0 (some ⟨g2, 0, none⟩) l.length p.length (p.length : Int) (by omega) (Int.le_refl _)
 simp only [Int.toNat_natCast] at hc1 hc2
 clear hi0 hsz
 go_enter Try.func17, Try.ntmps17
 go_wp2_with (first | ((with_reducible refine gate_callee (f := 48) rfl ?_); refine goesL_ (some 10) rfl rfl Try.func48 kf rfl #[.int .i64 (l.length : Int)] rfl (by (try simp only [List.map_toArray, List.map_cons, List.map_nil]); first | done | rfl) ?_; (with_reducible refine (laws_roomBehind.calls (l.length : Int) (m : Int) _ hm.out).mono ?_); rintro e w' ⟨rfl, ⟨nd, rfl⟩⟩; refine ⟨_, rfl, ?_⟩) | (go_at_call 20; (with_reducible refine (laws_eqIntS.calls (p.length + 1) _ _ p _ _ p true _ ?side1 ?side2 ?side3 ?side4 HE.out).mono ?_); (case side1 => exact cc H1); (case side2 => exact Nat.le_refl _); (case side3 => exact cc H2); (case side4 => exact Nat.le_refl _); rintro e w' ⟨rfl, ⟨nd, rfl⟩⟩))
 have hbb : ((l.length : Int) == (l.length : Int)) = true := by simp
 go_quiet ((go_at_call 20; (with_reducible refine (laws_eqIntS.calls (p.length + 1) _ _ p _ _ p true _ ?side1 ?side2 ?side3 ?side4 HE.out).mono ?_); (case side1 => exact cc H1); (case side2 => exact Nat.le_refl _); (case side3 => exact cc H2); (case side4 => exact Nat.le_refl _); rintro e w' ⟨rfl, ⟨nd, rfl⟩⟩; (try first | exact ⟨rfl, _, World.drewN_drewN _ _ _⟩ | exact ⟨rfl, _, Eq.trans (World.drewN_drewN _ _ _) (congrArg (World.drewN _) (Nat.add_assoc _ _ _))⟩)))
 go_wp2
 go_ret
 exact ⟨by first | rfl | (simp; done), dz⟩
theorem toIntS_l1 (l : List Int) (F : Nat) (hF : F ≤ 3000000) (d : Nat) : ∀ (k i : Nat), l.length ≤ i → i ≤ F → F - i = d → d < k → laws_toIntS.l1 k l (l ++ (List.replicate (i - l.length) (-7000000000000000101) ++ List.replicate (F - i) 0)) (i : Int) = some l := by
 induction d with
 | zero =>
  intro k i h0 h1 hd hk
  obtain ⟨k, rfl⟩ : ∃ m, k = m + 1 := ⟨k - 1, by omega⟩
  simp only [laws_toIntS.l1]; rw [if_neg (by simp only [List.length_append, List.length_replicate]; omega), if_pos (by omega), if_pos (by simp only [List.length_append, List.length_replicate]; omega)]
  simp
 | succ d ih =>
  intro k i h0 h1 hd hk
  obtain ⟨k, rfl⟩ : ∃ m, k = m + 1 := ⟨k - 1, by omega⟩
  simp only [laws_toIntS.l1]; rw [if_pos (by simp only [List.length_append, List.length_replicate]; omega), if_pos (by omega), show wrap64 ((i : Int) + 1) = ((i + 1 : Nat) : Int) by unfold wrap64; omega, Int.toNat_natCast, set_fill2 l F i h0 (by omega)]
  exact ih k (i + 1) (by omega) (by omega) (by omega) (by omega)
theorem toIntS_l0 (l : List Int) (F : Nat) (hF : F ≤ 3000000) (hl : l.length ≤ F) (d : Nat) : ∀ (k i : Nat), i ≤ l.length → l.length - i = d → d + F + 2 < k → laws_toIntS.l0 k l (l.take i ++ List.replicate (F - i) 0) (i : Int) = some l := by
 induction d with
 | zero =>
  intro k i h1 hd hk
  obtain ⟨k, rfl⟩ : ∃ m, k = m + 1 := ⟨k - 1, by omega⟩
  have e : i = l.length := by omega
  subst e
  simp only [laws_toIntS.l0]; rw [if_neg (by omega)]
  have h := toIntS_l1 l F hF (F - l.length) k l.length (Nat.le_refl _) hl rfl (by omega)
  simpa using h
 | succ d ih =>
  intro k i h1 hd hk
  obtain ⟨k, rfl⟩ : ∃ m, k = m + 1 := ⟨k - 1, by omega⟩
  simp only [laws_toIntS.l0]; rw [if_pos (by omega), if_pos (by omega), if_pos (by simp only [List.length_append, List.length_take, List.length_replicate]; omega), show wrap64 ((i : Int) + 1) = ((i + 1 : Nat) : Int) by unfold wrap64; omega, Int.toNat_natCast, set_fill l F i (by omega) hl]
  exact ih k (i + 1) (by omega) (by omega) (by omega)
theorem toIntS_j0 (l : List Int) (hn : l.length ≤ 1000000) (F : Nat) (hF : l.length + room l.length = F) (k : Nat) (hk : l.length + F + 2 < k) : laws_toIntS.j0 (k + 1) l false = some l := by
 have hr := room_le l.length
 have hw : wrap64 ((l.length : Int) + (room l.length : Int)) = (F : Int) := by unfold wrap64; omega
 have hb : F ≤ 35184372088832 := by omega
 have h := toIntS_l0 l F (by omega) (by omega) l.length k 0 (by omega) (by omega) hk
 simp only [laws_toIntS.j0]
 rw [if_neg (by decide), roomBehind_eq, Option.bind_some, hw, if_pos (by omega), Int.toNat_natCast, if_pos hb]
 simpa using h
theorem toIntS_bare (l : List Int) (hn : l.length ≤ 1000000) : ∃ k, laws_toIntS.f k l true = some l := by
 refine ⟨(l.length + (l.length + room l.length) + 3) + 1, ?_⟩
 unfold laws_toIntS.f
 rw [if_pos rfl]
 by_cases h : l = []
 ·subst h
  rfl
 ·have e : ((l.length : Int) == 0) = false := by
   have : 0 < l.length := List.length_pos_iff.2 h
   simp only [beq_eq_false_iff_ne]; omega
  rw [e]
  exact toIntS_j0 l hn _ rfl _ (by omega)
theorem pad_reads {w : World} {b : Nat} {ok : Nat → Prop} {A : Option Addr} {l : List Int} (h : Kd.R (Kd.int .i64) 3 w b ok (.slice A (pad l).length (pad l).length) (pad l)) : Kd.C (Kd.int .i64) w A l.length l := C_begin (Kd.R_reads' h).2.2
theorem pad_le (l : List Int) : l.length ≤ (pad l).length := by rw [pad_length]; omega
def law.T3 : Bool × List (List Nat × List Nat) := (true, [([], []), ([0], [0]), ([], []), ([2, 1], [2]), ([], []), ([4, 3], [4]), ([1, 3, 5, 5], [1, 3, 5]), ([6], [6]), ([7], [7]), ([7], [7]), ([8, 6, 0, 1, 2, 3, 4, 5, 6, 7, 8], [8]), ([9, 10, 0, 1, 2, 3, 4, 5, 6, 7, 8, 9, 10], [9])])
def law.B3 : List Nat := [0, 1, 0, 7, 0, 31, 63, 127, 255, 255, 511, 2047]
theorem law.tab3 : rtab .any (opsOf Try.f12 3) = law.T3 := by kernel_rfl
theorem law.bits3 : waitsOk law.T3.2 law.B3 = true := by kernel_rfl
def law.T5 : Bool × List (List Nat × List Nat) := (true, [([], []), ([], []), ([1], [1]), ([], []), ([3, 2], [3]), ([0, 2, 4, 4], [0, 2, 4]), ([5], [5]), ([6], [6]), ([6], [6]), ([7, 5, 0, 1, 2, 3, 4, 5, 6, 7], [7]), ([8, 9, 0, 1, 2, 3, 4, 5, 6, 7, 8, 9], [8])])
def law.B5 : List Nat := [0, 0, 2, 0, 14, 31, 63, 127, 127, 255, 1023]
theorem law.tab5 : rtab .any (opsOf Try.f12 5) = law.T5 := by kernel_rfl
theorem law.bits5 : waitsOk law.T5.2 law.B5 = true := by kernel_rfl
def law.T10 : Bool × List (List Nat × List Nat) := (true, [([], []), ([0], [0]), ([], []), ([2, 1], [2]), ([], []), ([4, 3], [4]), ([1, 3, 5, 5], [1, 3, 5]), ([6], [6]), ([7], [7]), ([7], [7]), ([8, 6, 0, 1, 2, 3, 4, 5, 6, 7, 8], [8]), ([9, 10, 0, 1, 2, 3, 4, 5, 6, 7, 8, 9, 10], [9])])
def law.B10 : List Nat := [0, 1, 0, 7, 0, 31, 63, 127, 255, 255, 511, 2047]
theorem law.tab10 : rtab .any (opsOf Try.f12 10) = law.T10 := by kernel_rfl
theorem law.bits10 : waitsOk law.T10.2 law.B10 = true := by kernel_rfl
set_option maxHeartbeats 8000000 in
set_option maxRecDepth 100000 in
theorem law_walk (A0 : Option Addr) (c0 : Nat) (l0 : List Int) (a1_0 a1_1 : Int) (a2_0 a2_1 : Int) (w : World) (hr0 : Kd.C (Kd.int .i64) w A0 l0.length l0) (hc0 : l0.length ≤ c0) (hn0 : l0.length ≤ 1000000) (ks ki : Nat) (r1 : Bool) (r2 : Bool) (hs : spec_HasRootBetween.f ks l0 a1_0 a1_1 a2_0 a2_1 = some (r1, r2)) (hi : impl_HasRootBetween.f ki l0 a1_0 a1_1 a2_0 a2_1 = some (r1, r2)) :
 Calls Try.prog 12 #[.slice A0 l0.length c0, .agg #[.int .i64 a1_0, .int .i64 a1_1], .agg #[.int .i64 a2_0, .int .i64 a2_1]] w fun e w' => e = .returned (.bool true) ∧ Below w.heap.size w w' := by
 have HR0 := Aside0.mk hr0
 have HC0 := Aside0.mk hc0
 have HN0 := Aside0.mk hn0
 obtain ⟨kb0, hba0⟩ := toIntS_bare l0 hn0
 have HBA0 := Aside0.mk hba0
 have HS := Aside0.mk hs
 have HI := Aside0.mk hi
 have HB := Aside0.mk (Below.refl w.heap.size w)
 have Z := Aside0.mk (Nat.zero_le w.heap.size)
 have cn : decide (1000000 < (l0.length : Int)) = false := decide_eq_false (by omega)
 have cn2 : decide (1000000 < l0.length) = false := decide_eq_false (by omega)
 clear hs hi hr0 hc0 hba0 hn0
 go_enter Try.func12, Try.ntmps12
 go_wp2_with (first
  | ((with_reducible refine gate_dst (N := 4) rfl ?_); refine bv (N := 4) (cs := #[.int .i64 a1_0, .int .i64 a1_1]) (t := 24) ?_; intro gb1_ hg w1_ hbox hb; obtain ⟨z2_, z4_⟩ := still (by exact Z.out) bz hb; have BK1 := Aside0.mk hbox; clear HB Z; have HB := Aside0.mk z4_; have Z := Aside0.mk z2_; clear z2_ z4_ hb hg hbox; have hcz2_BK1_0 : w1_.cell? ⟨gb1_, 0, none⟩ = some (.int .i64 a1_0) := (blk_cell BK1.out 0).trans rfl; have hfz2_BK1_0 := blk_frozen BK1.out 0; have hcz2_BK1_1 : w1_.cell? ⟨gb1_, 1, none⟩ = some (.int .i64 a1_1) := (blk_cell BK1.out 1).trans rfl; have hfz2_BK1_1 := blk_frozen BK1.out 1)
  | ((with_reducible refine gate_dst (N := 5) rfl ?_); refine bv (N := 5) (cs := #[.int .i64 a2_0, .int .i64 a2_1]) (t := 24) ?_; intro gb3_ hg w3_ hbox hb; obtain ⟨z2_, z4_⟩ := still (by exact Z.out) bz hb; have nBK1_ := bb BK1 hb; have BK3 := Aside0.mk hbox; clear BK1 HB Z; have BK1 := nBK1_; clear nBK1_; have HB := Aside0.mk z4_; have Z := Aside0.mk z2_; clear z2_ z4_ hb hg hbox; (try clear hcz2_BK1_0 hfz2_BK1_0 hcz2_BK1_1 hfz2_BK1_1); have hcz4_BK1_0 : w3_.cell? ⟨gb1_, 0, none⟩ = some (.int .i64 a1_0) := (blk_cell BK1.out 0).trans rfl; have hfz4_BK1_0 := blk_frozen BK1.out 0; have hcz4_BK1_1 : w3_.cell? ⟨gb1_, 1, none⟩ = some (.int .i64 a1_1) := (blk_cell BK1.out 1).trans rfl; have hfz4_BK1_1 := blk_frozen BK1.out 1; have hcz4_BK3_0 : w3_.cell? ⟨gb3_, 0, none⟩ = some (.int .i64 a2_0) := (blk_cell BK3.out 0).trans rfl; have hfz4_BK3_0 := blk_frozen BK3.out 0; have hcz4_BK3_1 : w3_.cell? ⟨gb3_, 1, none⟩ = some (.int .i64 a2_1) := (blk_cell BK3.out 1).trans rfl; have hfz4_BK3_1 := blk_frozen BK3.out 1))
 try go_wp2
 refine start_ (n := 12) (S := fun w' => w'.cell? ⟨gb1_, 0, none⟩ = some (.int .i64 a1_0) ∧ w'.cell? ⟨gb1_, 1, none⟩ = some (.int .i64 a1_1) ∧ w'.cell? ⟨gb3_, 0, none⟩ = some (.int .i64 a2_0) ∧ w'.cell? ⟨gb3_, 1, none⟩ = some (.int .i64 a2_1)) (ds := []) #[fF, fF, fF, fF, fF, fF, fF, fF, fF, fF, fF, fF] kf rfl rfl ⟨((blk_cell (g := gb1_) (cs := #[.int .i64 a1_0, .int .i64 a1_1]) (t := 24) (bk BK1) 0).trans rfl), ((blk_cell (g := gb1_) (cs := #[.int .i64 a1_0, .int .i64 a1_1]) (t := 24) (bk BK1) 1).trans rfl), ((blk_cell (g := gb3_) (cs := #[.int .i64 a2_0, .int .i64 a2_1]) (t := 24) (bk BK3) 0).trans rfl), ((blk_cell (g := gb3_) (cs := #[.int .i64 a2_0, .int .i64 a2_1]) (t := 24) (bk BK3) 1).trans rfl)⟩ (fun hHeld => ?_); refine with_tabW law.tab3 law.bits3 (fun HT_ HW_ => ?_)
 generalize hq_ : World.drew _ = w5_ at hHeld ⊢
 have nBK1_ : Aside0 (w5_.heap[gb1_]? = some (.cells #[.int .i64 a1_0, .int .i64 a1_1] 24 (0, 0))) := ⟨by rw [← hq_]; exact (bk BK1)⟩
 have nBK3_ : Aside0 (w5_.heap[gb3_]? = some (.cells #[.int .i64 a2_0, .int .i64 a2_1] 24 (0, 0))) := ⟨by rw [← hq_]; exact (bk BK3)⟩
 have nHB_ : Aside0 (Below w.heap.size w w5_) := ⟨by rw [← hq_]; exact bz⟩
 have nZ_ : Aside0 (0 ≤ w5_.heap.size) := ⟨by rw [← hq_]; exact (by exact Z.out)⟩
 clear hq_ BK1 BK3 HB Z
 have BK1 := nBK1_
 have BK3 := nBK3_
 have HB := nHB_
 have Z := nZ_
 clear nBK1_ nBK3_ nHB_ nZ_
 refine pq (i := 0) (N := some 18) #[tT, fF, fF, fF, fF, fF, fF, fF, fF, fF, fF, fF] rfl rfl HT_.out ?_
 refine tq4 (i := 2) (N := some 20) #[tT, fF, tT, fF, fF, fF, fF, fF, fF, fF, fF, fF] rfl rfl HT_.out HW_.out hHeld ?_
 refine tq4 (i := 4) (N := some 22) #[tT, fF, tT, fF, tT, fF, fF, fF, fF, fF, fF, fF] rfl rfl HT_.out HW_.out hHeld ?_
 refine one_ (i := 1) (N := some 19) #[tT, tT, tT, fF, tT, fF, fF, fF, fF, fF, fF, fF] rfl rfl (one_of HT_.out kf) (by decide) (fun K hK => ?_)
 refine goes_ Try.func14 kf rfl #[.slice A0 l0.length c0, .bool false] (by rfl) rfl rfl sm ?_
 (with_reducible refine (toIntS_pad _ _ l0 _ ?side1 ?side2 HN0.out).mono ?_)
 (case side1 => repeat (first | exact HR0.out | exact (Kd.C_below HR0.out bz) | (with_reducible refine Kd.C_alloc ?_ _) | (with_reducible refine Kd.C_drewN ?_ _) | (with_reducible refine Kd.C_drew ?_)))
 (case side2 => exact HC0.out)
 rintro e w6_ ⟨g6_, rfl, ho0, hb⟩
 refine ⟨_, rfl, ?_⟩
 obtain ⟨a6_, b6_, z1_, z2_, z3_, z4_⟩ := made (by exact Z.out) bz hb ho0
 have nBK1_ := bb BK1 hb
 have nBK3_ := bb BK3 hb
 clear BK1 BK3 HB Z
 have BK1 := nBK1_
 have BK3 := nBK3_
 clear nBK1_ nBK3_
 have O6 := Aside0.mk z3_
 have Q6 := Aside0.mk z1_
 have HB := Aside0.mk z4_
 have Z := Aside0.mk z2_
 clear z1_ z2_ z3_ z4_ hb ho0
 (try clear hcz4_BK1_0 hfz4_BK1_0 hcz4_BK1_1 hfz4_BK1_1 hcz4_BK3_0 hfz4_BK3_0 hcz4_BK3_1 hfz4_BK3_1)
 have hcz7_BK1_0 : w6_.cell? ⟨gb1_, 0, none⟩ = some (.int .i64 a1_0) := (blk_cell BK1.out 0).trans rfl
 have hfz7_BK1_0 := blk_frozen BK1.out 0
 have hcz7_BK1_1 : w6_.cell? ⟨gb1_, 1, none⟩ = some (.int .i64 a1_1) := (blk_cell BK1.out 1).trans rfl
 have hfz7_BK1_1 := blk_frozen BK1.out 1
 have hcz7_BK3_0 : w6_.cell? ⟨gb3_, 0, none⟩ = some (.int .i64 a2_0) := (blk_cell BK3.out 0).trans rfl
 have hfz7_BK3_0 := blk_frozen BK3.out 0
 have hcz7_BK3_1 : w6_.cell? ⟨gb3_, 1, none⟩ = some (.int .i64 a2_1) := (blk_cell BK3.out 1).trans rfl
 have hfz7_BK3_1 := blk_frozen BK3.out 1
 refine hK.out _ _ ⟨((blk_cell BK1.out 0).trans rfl), ((blk_cell BK1.out 1).trans rfl), ((blk_cell BK3.out 0).trans rfl), ((blk_cell BK3.out 1).trans rfl)⟩ (fun hHeld => ?_)
 clear hK K
 refine norm_ (a' := ?_) ?_ ?_
 rotate_left
 ·show Act.put _ (some 19) _ = _
  simp only [Act.put, List.setIfInBounds_toArray, List.set_cons_zero, List.set_cons_succ, i64_w, i32_w]
  rfl
 refine one_ (i := 3) (N := some 21) #[tT, tT, tT, tT, tT, fF, fF, fF, fF, fF, fF, fF] rfl rfl (one_of HT_.out kf) (by decide) (fun K hK => ?_)
 refine goes_ Try.func15 kf rfl #[.agg #[.int .i64 a1_0, .int .i64 a1_1]] (by rfl) rfl rfl sm ?_
 (with_reducible refine (laws_toDyadic.calls a1_0 a1_1 a1_0 a1_1 _ rfl).mono ?_)
 rintro e w8_ ⟨rfl, hb⟩
 refine ⟨_, rfl, ?_⟩
 obtain ⟨z2_, z4_⟩ := still (by exact Z.out) bz hb
 have nO6_ := Aside0.mk (Kd.R_below (kr O6) hb)
 have nBK1_ := bb BK1 hb
 have nBK3_ := bb BK3 hb
 clear O6 BK1 BK3 HB Z
 have O6 := nO6_
 have BK1 := nBK1_
 have BK3 := nBK3_
 clear nO6_ nBK1_ nBK3_
 have HB := Aside0.mk z4_
 have Z := Aside0.mk z2_
 clear z2_ z4_ hb
 (try clear hcz7_BK1_0 hfz7_BK1_0 hcz7_BK1_1 hfz7_BK1_1 hcz7_BK3_0 hfz7_BK3_0 hcz7_BK3_1 hfz7_BK3_1)
 have hcz9_BK1_0 : w8_.cell? ⟨gb1_, 0, none⟩ = some (.int .i64 a1_0) := (blk_cell BK1.out 0).trans rfl
 have hfz9_BK1_0 := blk_frozen BK1.out 0
 have hcz9_BK1_1 : w8_.cell? ⟨gb1_, 1, none⟩ = some (.int .i64 a1_1) := (blk_cell BK1.out 1).trans rfl
 have hfz9_BK1_1 := blk_frozen BK1.out 1
 have hcz9_BK3_0 : w8_.cell? ⟨gb3_, 0, none⟩ = some (.int .i64 a2_0) := (blk_cell BK3.out 0).trans rfl
 have hfz9_BK3_0 := blk_frozen BK3.out 0
 have hcz9_BK3_1 : w8_.cell? ⟨gb3_, 1, none⟩ = some (.int .i64 a2_1) := (blk_cell BK3.out 1).trans rfl
 have hfz9_BK3_1 := blk_frozen BK3.out 1
 refine hK.out _ _ ⟨((blk_cell BK1.out 0).trans rfl), ((blk_cell BK1.out 1).trans rfl), ((blk_cell BK3.out 0).trans rfl), ((blk_cell BK3.out 1).trans rfl)⟩ (fun hHeld => ?_)
 clear hK K
 refine norm_ (a' := ?_) ?_ ?_
 rotate_left
 ·show Act.put _ (some 21) _ = _
  simp only [Act.put, List.setIfInBounds_toArray, List.set_cons_zero, List.set_cons_succ, i64_w, i32_w]
  rfl
 refine one_ (i := 5) (N := some 23) #[tT, tT, tT, tT, tT, tT, fF, fF, fF, fF, fF, fF] rfl rfl (one_of HT_.out kf) (by decide) (fun K hK => ?_)
 refine goes_ Try.func15 kf rfl #[.agg #[.int .i64 a2_0, .int .i64 a2_1]] (by rfl) rfl rfl sm ?_
 (with_reducible refine (laws_toDyadic.calls a2_0 a2_1 a2_0 a2_1 _ rfl).mono ?_)
 rintro e w10_ ⟨rfl, hb⟩
 refine ⟨_, rfl, ?_⟩
 obtain ⟨z2_, z4_⟩ := still (by exact Z.out) bz hb
 have nO6_ := Aside0.mk (Kd.R_below (kr O6) hb)
 have nBK1_ := bb BK1 hb
 have nBK3_ := bb BK3 hb
 clear O6 BK1 BK3 HB Z
 have O6 := nO6_
 have BK1 := nBK1_
 have BK3 := nBK3_
 clear nO6_ nBK1_ nBK3_
 have HB := Aside0.mk z4_
 have Z := Aside0.mk z2_
 clear z2_ z4_ hb
 (try clear hcz9_BK1_0 hfz9_BK1_0 hcz9_BK1_1 hfz9_BK1_1 hcz9_BK3_0 hfz9_BK3_0 hcz9_BK3_1 hfz9_BK3_1)
 have hcz11_BK1_0 : w10_.cell? ⟨gb1_, 0, none⟩ = some (.int .i64 a1_0) := (blk_cell BK1.out 0).trans rfl
 have hfz11_BK1_0 := blk_frozen BK1.out 0
 have hcz11_BK1_1 : w10_.cell? ⟨gb1_, 1, none⟩ = some (.int .i64 a1_1) := (blk_cell BK1.out 1).trans rfl
 have hfz11_BK1_1 := blk_frozen BK1.out 1
 have hcz11_BK3_0 : w10_.cell? ⟨gb3_, 0, none⟩ = some (.int .i64 a2_0) := (blk_cell BK3.out 0).trans rfl
 have hfz11_BK3_0 := blk_frozen BK3.out 0
 have hcz11_BK3_1 : w10_.cell? ⟨gb3_, 1, none⟩ = some (.int .i64 a2_1) := (blk_cell BK3.out 1).trans rfl
 have hfz11_BK3_1 := blk_frozen BK3.out 1
 refine hK.out _ _ ⟨((blk_cell BK1.out 0).trans rfl), ((blk_cell BK1.out 1).trans rfl), ((blk_cell BK3.out 0).trans rfl), ((blk_cell BK3.out 1).trans rfl)⟩ (fun hHeld => ?_)
 clear hK K
 refine norm_ (a' := ?_) ?_ ?_
 rotate_left
 ·show Act.put _ (some 23) _ = _
  simp only [Act.put, List.setIfInBounds_toArray, List.set_cons_zero, List.set_cons_succ, i64_w, i32_w]
  rfl
 refine one_ (i := 6) (N := some 24) #[tT, tT, tT, tT, tT, tT, tT, fF, fF, fF, fF, fF] rfl rfl (one_of HT_.out kf) (by decide) (fun K hK => ?_)
 refine goes_ Try.func43 kf rfl #[.slice (some ⟨g6_, 0, none⟩) l0.length (pad l0).length, .agg #[.int .i64 a1_0, .int .i64 a1_1], .agg #[.int .i64 a2_0, .int .i64 a2_1]] (by rfl) rfl rfl sm ?_
 (with_reducible refine (spec_HasRootBetween.calls ks _ _ l0 a1_0 a1_1 a2_0 a2_1 r1 r2 _ ?side1 ?side2 HS.out).mono ?_)
 (case side1 => repeat (first | exact pad_reads O6.out | (with_reducible refine Kd.C_alloc ?_ _) | (with_reducible refine Kd.C_drewN ?_ _) | (with_reducible refine Kd.C_drew ?_)))
 (case side2 => exact pad_le _)
 rintro e w12_ ⟨rfl, hb⟩
 refine ⟨_, rfl, ?_⟩
 obtain ⟨z2_, z4_⟩ := still (by exact Z.out) bz hb
 have nO6_ := Aside0.mk (Kd.R_below (kr O6) hb)
 have nBK1_ := bb BK1 hb
 have nBK3_ := bb BK3 hb
 clear O6 BK1 BK3 HB Z
 have O6 := nO6_
 have BK1 := nBK1_
 have BK3 := nBK3_
 clear nO6_ nBK1_ nBK3_
 have HB := Aside0.mk z4_
 have Z := Aside0.mk z2_
 clear z2_ z4_ hb
 (try clear hcz11_BK1_0 hfz11_BK1_0 hcz11_BK1_1 hfz11_BK1_1 hcz11_BK3_0 hfz11_BK3_0 hcz11_BK3_1 hfz11_BK3_1)
 have hcz13_BK1_0 : w12_.cell? ⟨gb1_, 0, none⟩ = some (.int .i64 a1_0) := (blk_cell BK1.out 0).trans rfl
 have hfz13_BK1_0 := blk_frozen BK1.out 0
 have hcz13_BK1_1 : w12_.cell? ⟨gb1_, 1, none⟩ = some (.int .i64 a1_1) := (blk_cell BK1.out 1).trans rfl
 have hfz13_BK1_1 := blk_frozen BK1.out 1
 have hcz13_BK3_0 : w12_.cell? ⟨gb3_, 0, none⟩ = some (.int .i64 a2_0) := (blk_cell BK3.out 0).trans rfl
 have hfz13_BK3_0 := blk_frozen BK3.out 0
 have hcz13_BK3_1 : w12_.cell? ⟨gb3_, 1, none⟩ = some (.int .i64 a2_1) := (blk_cell BK3.out 1).trans rfl
 have hfz13_BK3_1 := blk_frozen BK3.out 1
 refine hK.out _ _ ⟨((blk_cell BK1.out 0).trans rfl), ((blk_cell BK1.out 1).trans rfl), ((blk_cell BK3.out 0).trans rfl), ((blk_cell BK3.out 1).trans rfl)⟩ (fun hHeld => ?_)
 clear hK K
 refine norm_ (a' := ?_) ?_ ?_
 rotate_left
 ·show Act.put _ (some 24) _ = _
  simp only [Act.put, List.setIfInBounds_toArray, List.set_cons_zero, List.set_cons_succ, i64_w, i32_w]
  rfl
 refine pq (i := 7) (N := some 17) #[tT, tT, tT, tT, tT, tT, tT, tT, fF, fF, fF, fF] rfl rfl HT_.out ?_
 refine pq (i := 8) (N := some 25) #[tT, tT, tT, tT, tT, tT, tT, tT, tT, fF, fF, fF] rfl rfl HT_.out ?_
 refine pq (i := 9) (N := some 26) #[tT, tT, tT, tT, tT, tT, tT, tT, tT, tT, fF, fF] rfl rfl HT_.out ?_
 refine pq (i := 10) (N := some 7) #[tT, tT, tT, tT, tT, tT, tT, tT, tT, tT, tT, fF] rfl rfl HT_.out ?_
 refine pq (i := 11) (N := some 8) #[tT, tT, tT, tT, tT, tT, tT, tT, tT, tT, tT, tT] rfl rfl HT_.out ?_
 refine done_ (done_of HT_.out kf) ?_
 go_wp2_with (first
  | ((with_reducible refine gate_callee (f := 14) rfl ?_); refine goesL_ (some 28) rfl rfl Try.func14 kf rfl #[.slice A0 l0.length c0, .bool false] rfl sm ?_; (with_reducible refine (toIntS_pad _ _ l0 _ ?side1 ?side2 HN0.out).mono ?_); (case side1 => repeat (first | exact HR0.out | exact (Kd.C_below HR0.out bz) | (with_reducible refine Kd.C_alloc ?_ _) | (with_reducible refine Kd.C_drewN ?_ _) | (with_reducible refine Kd.C_drew ?_))); (case side2 => exact HC0.out); rintro e w14_ ⟨g14_, rfl, ho0, hb⟩; refine ⟨_, rfl, ?_⟩; obtain ⟨a14_, b14_, z1_, z2_, z3_, z4_⟩ := made (by exact Z.out) bz hb ho0; have nO6_ := Aside0.mk (Kd.R_below (kr O6) hb); have nBK1_ := bb BK1 hb; have nBK3_ := bb BK3 hb; clear O6 BK1 BK3 HB Z; have O6 := nO6_; have BK1 := nBK1_; have BK3 := nBK3_; clear nO6_ nBK1_ nBK3_; have O14 := Aside0.mk z3_; have Q14 := Aside0.mk z1_; have HB := Aside0.mk z4_; have Z := Aside0.mk z2_; clear z1_ z2_ z3_ z4_ hb ho0; (try clear hcz13_BK1_0 hfz13_BK1_0 hcz13_BK1_1 hfz13_BK1_1 hcz13_BK3_0 hfz13_BK3_0 hcz13_BK3_1 hfz13_BK3_1); have hcz15_BK1_0 : w14_.cell? ⟨gb1_, 0, none⟩ = some (.int .i64 a1_0) := (blk_cell BK1.out 0).trans rfl; have hfz15_BK1_0 := blk_frozen BK1.out 0; have hcz15_BK1_1 : w14_.cell? ⟨gb1_, 1, none⟩ = some (.int .i64 a1_1) := (blk_cell BK1.out 1).trans rfl; have hfz15_BK1_1 := blk_frozen BK1.out 1; have hcz15_BK3_0 : w14_.cell? ⟨gb3_, 0, none⟩ = some (.int .i64 a2_0) := (blk_cell BK3.out 0).trans rfl; have hfz15_BK3_0 := blk_frozen BK3.out 0; have hcz15_BK3_1 : w14_.cell? ⟨gb3_, 1, none⟩ = some (.int .i64 a2_1) := (blk_cell BK3.out 1).trans rfl; have hfz15_BK3_1 := blk_frozen BK3.out 1))
 try go_wp2
 refine start_ (n := 11) (S := fun w' => w'.cell? ⟨gb1_, 0, none⟩ = some (.int .i64 a1_0) ∧ w'.cell? ⟨gb1_, 1, none⟩ = some (.int .i64 a1_1) ∧ w'.cell? ⟨gb3_, 0, none⟩ = some (.int .i64 a2_0) ∧ w'.cell? ⟨gb3_, 1, none⟩ = some (.int .i64 a2_1)) (ds := []) #[fF, fF, fF, fF, fF, fF, fF, fF, fF, fF, fF] kf rfl rfl ⟨((blk_cell (g := gb1_) (cs := #[.int .i64 a1_0, .int .i64 a1_1]) (t := 24) (bk BK1) 0).trans rfl), ((blk_cell (g := gb1_) (cs := #[.int .i64 a1_0, .int .i64 a1_1]) (t := 24) (bk BK1) 1).trans rfl), ((blk_cell (g := gb3_) (cs := #[.int .i64 a2_0, .int .i64 a2_1]) (t := 24) (bk BK3) 0).trans rfl), ((blk_cell (g := gb3_) (cs := #[.int .i64 a2_0, .int .i64 a2_1]) (t := 24) (bk BK3) 1).trans rfl)⟩ (fun hHeld => ?_); refine with_tabW law.tab5 law.bits5 (fun HT_ HW_ => ?_)
 generalize hq_ : World.drew _ = w16_ at hHeld ⊢
 have nO6_ : Aside0 (Kd.R (Kd.int .i64) 3 w16_ w.heap.size (fun k => a6_ ≤ k ∧ k < b6_) (.slice (some ⟨g6_, 0, none⟩) (pad l0).length (pad l0).length) (pad l0)) := ⟨by rw [← hq_]; exact (kr O6)⟩
 have nO14_ : Aside0 (Kd.R (Kd.int .i64) 3 w16_ w.heap.size (fun k => a14_ ≤ k ∧ k < b14_) (.slice (some ⟨g14_, 0, none⟩) (pad l0).length (pad l0).length) (pad l0)) := ⟨by rw [← hq_]; exact (kr O14)⟩
 have nBK1_ : Aside0 (w16_.heap[gb1_]? = some (.cells #[.int .i64 a1_0, .int .i64 a1_1] 24 (0, 0))) := ⟨by rw [← hq_]; exact (bk BK1)⟩
 have nBK3_ : Aside0 (w16_.heap[gb3_]? = some (.cells #[.int .i64 a2_0, .int .i64 a2_1] 24 (0, 0))) := ⟨by rw [← hq_]; exact (bk BK3)⟩
 have nHB_ : Aside0 (Below w.heap.size w w16_) := ⟨by rw [← hq_]; exact bz⟩
 have nZ_ : Aside0 (b14_ ≤ w16_.heap.size) := ⟨by rw [← hq_]; exact (by exact Z.out)⟩
 clear hq_ O6 O14 BK1 BK3 HB Z
 have O6 := nO6_
 have O14 := nO14_
 have BK1 := nBK1_
 have BK3 := nBK3_
 have HB := nHB_
 have Z := nZ_
 clear nO6_ nO14_ nBK1_ nBK3_ nHB_ nZ_
 refine pq (i := 0) (N := some 30) #[tT, fF, fF, fF, fF, fF, fF, fF, fF, fF, fF] rfl rfl HT_.out ?_
 refine tq4 (i := 1) (N := some 31) #[tT, tT, fF, fF, fF, fF, fF, fF, fF, fF, fF] rfl rfl HT_.out HW_.out hHeld ?_
 refine tq4 (i := 3) (N := some 33) #[tT, tT, fF, tT, fF, fF, fF, fF, fF, fF, fF] rfl rfl HT_.out HW_.out hHeld ?_
 refine one_ (i := 2) (N := some 32) #[tT, tT, tT, tT, fF, fF, fF, fF, fF, fF, fF] rfl rfl (one_of HT_.out kf) (by decide) (fun K hK => ?_)
 refine goes_ Try.func15 kf rfl #[.agg #[.int .i64 a1_0, .int .i64 a1_1]] (by rfl) rfl rfl sm ?_
 (with_reducible refine (laws_toDyadic.calls a1_0 a1_1 a1_0 a1_1 _ rfl).mono ?_)
 rintro e w17_ ⟨rfl, hb⟩
 refine ⟨_, rfl, ?_⟩
 obtain ⟨z2_, z4_⟩ := still (by exact Z.out) bz hb
 have nO6_ := Aside0.mk (Kd.R_below (kr O6) hb)
 have nO14_ := Aside0.mk (Kd.R_below (kr O14) hb)
 have nBK1_ := bb BK1 hb
 have nBK3_ := bb BK3 hb
 clear O6 O14 BK1 BK3 HB Z
 have O6 := nO6_
 have O14 := nO14_
 have BK1 := nBK1_
 have BK3 := nBK3_
 clear nO6_ nO14_ nBK1_ nBK3_
 have HB := Aside0.mk z4_
 have Z := Aside0.mk z2_
 clear z2_ z4_ hb
 (try clear hcz15_BK1_0 hfz15_BK1_0 hcz15_BK1_1 hfz15_BK1_1 hcz15_BK3_0 hfz15_BK3_0 hcz15_BK3_1 hfz15_BK3_1)
 have hcz18_BK1_0 : w17_.cell? ⟨gb1_, 0, none⟩ = some (.int .i64 a1_0) := (blk_cell BK1.out 0).trans rfl
 have hfz18_BK1_0 := blk_frozen BK1.out 0
 have hcz18_BK1_1 : w17_.cell? ⟨gb1_, 1, none⟩ = some (.int .i64 a1_1) := (blk_cell BK1.out 1).trans rfl
 have hfz18_BK1_1 := blk_frozen BK1.out 1
 have hcz18_BK3_0 : w17_.cell? ⟨gb3_, 0, none⟩ = some (.int .i64 a2_0) := (blk_cell BK3.out 0).trans rfl
 have hfz18_BK3_0 := blk_frozen BK3.out 0
 have hcz18_BK3_1 : w17_.cell? ⟨gb3_, 1, none⟩ = some (.int .i64 a2_1) := (blk_cell BK3.out 1).trans rfl
 have hfz18_BK3_1 := blk_frozen BK3.out 1
 refine hK.out _ _ ⟨((blk_cell BK1.out 0).trans rfl), ((blk_cell BK1.out 1).trans rfl), ((blk_cell BK3.out 0).trans rfl), ((blk_cell BK3.out 1).trans rfl)⟩ (fun hHeld => ?_)
 clear hK K
 refine norm_ (a' := ?_) ?_ ?_
 rotate_left
 ·show Act.put _ (some 32) _ = _
  simp only [Act.put, List.setIfInBounds_toArray, List.set_cons_zero, List.set_cons_succ, i64_w, i32_w]
  rfl
 refine one_ (i := 4) (N := some 34) #[tT, tT, tT, tT, tT, fF, fF, fF, fF, fF, fF] rfl rfl (one_of HT_.out kf) (by decide) (fun K hK => ?_)
 refine goes_ Try.func15 kf rfl #[.agg #[.int .i64 a2_0, .int .i64 a2_1]] (by rfl) rfl rfl sm ?_
 (with_reducible refine (laws_toDyadic.calls a2_0 a2_1 a2_0 a2_1 _ rfl).mono ?_)
 rintro e w19_ ⟨rfl, hb⟩
 refine ⟨_, rfl, ?_⟩
 obtain ⟨z2_, z4_⟩ := still (by exact Z.out) bz hb
 have nO6_ := Aside0.mk (Kd.R_below (kr O6) hb)
 have nO14_ := Aside0.mk (Kd.R_below (kr O14) hb)
 have nBK1_ := bb BK1 hb
 have nBK3_ := bb BK3 hb
 clear O6 O14 BK1 BK3 HB Z
 have O6 := nO6_
 have O14 := nO14_
 have BK1 := nBK1_
 have BK3 := nBK3_
 clear nO6_ nO14_ nBK1_ nBK3_
 have HB := Aside0.mk z4_
 have Z := Aside0.mk z2_
 clear z2_ z4_ hb
 (try clear hcz18_BK1_0 hfz18_BK1_0 hcz18_BK1_1 hfz18_BK1_1 hcz18_BK3_0 hfz18_BK3_0 hcz18_BK3_1 hfz18_BK3_1)
 have hcz20_BK1_0 : w19_.cell? ⟨gb1_, 0, none⟩ = some (.int .i64 a1_0) := (blk_cell BK1.out 0).trans rfl
 have hfz20_BK1_0 := blk_frozen BK1.out 0
 have hcz20_BK1_1 : w19_.cell? ⟨gb1_, 1, none⟩ = some (.int .i64 a1_1) := (blk_cell BK1.out 1).trans rfl
 have hfz20_BK1_1 := blk_frozen BK1.out 1
 have hcz20_BK3_0 : w19_.cell? ⟨gb3_, 0, none⟩ = some (.int .i64 a2_0) := (blk_cell BK3.out 0).trans rfl
 have hfz20_BK3_0 := blk_frozen BK3.out 0
 have hcz20_BK3_1 : w19_.cell? ⟨gb3_, 1, none⟩ = some (.int .i64 a2_1) := (blk_cell BK3.out 1).trans rfl
 have hfz20_BK3_1 := blk_frozen BK3.out 1
 refine hK.out _ _ ⟨((blk_cell BK1.out 0).trans rfl), ((blk_cell BK1.out 1).trans rfl), ((blk_cell BK3.out 0).trans rfl), ((blk_cell BK3.out 1).trans rfl)⟩ (fun hHeld => ?_)
 clear hK K
 refine norm_ (a' := ?_) ?_ ?_
 rotate_left
 ·show Act.put _ (some 34) _ = _
  simp only [Act.put, List.setIfInBounds_toArray, List.set_cons_zero, List.set_cons_succ, i64_w, i32_w]
  rfl
 refine one_ (i := 5) (N := some 35) #[tT, tT, tT, tT, tT, tT, fF, fF, fF, fF, fF] rfl rfl (one_of HT_.out kf) (by decide) (fun K hK => ?_)
 refine goes_ Try.func44 kf rfl #[.slice (some ⟨g14_, 0, none⟩) l0.length (pad l0).length, .agg #[.int .i64 a1_0, .int .i64 a1_1], .agg #[.int .i64 a2_0, .int .i64 a2_1]] (by rfl) rfl rfl sm ?_
 (with_reducible refine (impl_HasRootBetween.calls ki _ _ l0 a1_0 a1_1 a2_0 a2_1 r1 r2 _ ?side1 ?side2 HI.out).mono ?_)
 (case side1 => repeat (first | exact pad_reads O14.out | (with_reducible refine Kd.C_alloc ?_ _) | (with_reducible refine Kd.C_drewN ?_ _) | (with_reducible refine Kd.C_drew ?_)))
 (case side2 => exact pad_le _)
 rintro e w21_ ⟨rfl, hb⟩
 refine ⟨_, rfl, ?_⟩
 obtain ⟨z2_, z4_⟩ := still (by exact Z.out) bz hb
 have nO6_ := Aside0.mk (Kd.R_below (kr O6) hb)
 have nO14_ := Aside0.mk (Kd.R_below (kr O14) hb)
 have nBK1_ := bb BK1 hb
 have nBK3_ := bb BK3 hb
 clear O6 O14 BK1 BK3 HB Z
 have O6 := nO6_
 have O14 := nO14_
 have BK1 := nBK1_
 have BK3 := nBK3_
 clear nO6_ nO14_ nBK1_ nBK3_
 have HB := Aside0.mk z4_
 have Z := Aside0.mk z2_
 clear z2_ z4_ hb
 (try clear hcz20_BK1_0 hfz20_BK1_0 hcz20_BK1_1 hfz20_BK1_1 hcz20_BK3_0 hfz20_BK3_0 hcz20_BK3_1 hfz20_BK3_1)
 have hcz22_BK1_0 : w21_.cell? ⟨gb1_, 0, none⟩ = some (.int .i64 a1_0) := (blk_cell BK1.out 0).trans rfl
 have hfz22_BK1_0 := blk_frozen BK1.out 0
 have hcz22_BK1_1 : w21_.cell? ⟨gb1_, 1, none⟩ = some (.int .i64 a1_1) := (blk_cell BK1.out 1).trans rfl
 have hfz22_BK1_1 := blk_frozen BK1.out 1
 have hcz22_BK3_0 : w21_.cell? ⟨gb3_, 0, none⟩ = some (.int .i64 a2_0) := (blk_cell BK3.out 0).trans rfl
 have hfz22_BK3_0 := blk_frozen BK3.out 0
 have hcz22_BK3_1 : w21_.cell? ⟨gb3_, 1, none⟩ = some (.int .i64 a2_1) := (blk_cell BK3.out 1).trans rfl
 have hfz22_BK3_1 := blk_frozen BK3.out 1
 refine hK.out _ _ ⟨((blk_cell BK1.out 0).trans rfl), ((blk_cell BK1.out 1).trans rfl), ((blk_cell BK3.out 0).trans rfl), ((blk_cell BK3.out 1).trans rfl)⟩ (fun hHeld => ?_)
 clear hK K
 refine norm_ (a' := ?_) ?_ ?_
 rotate_left
 ·show Act.put _ (some 35) _ = _
  simp only [Act.put, List.setIfInBounds_toArray, List.set_cons_zero, List.set_cons_succ, i64_w, i32_w]
  rfl
 refine pq (i := 6) (N := some 29) #[tT, tT, tT, tT, tT, tT, tT, fF, fF, fF, fF] rfl rfl HT_.out ?_
 refine pq (i := 7) (N := some 36) #[tT, tT, tT, tT, tT, tT, tT, tT, fF, fF, fF] rfl rfl HT_.out ?_
 refine pq (i := 8) (N := some 37) #[tT, tT, tT, tT, tT, tT, tT, tT, tT, fF, fF] rfl rfl HT_.out ?_
 refine pq (i := 9) (N := some 10) #[tT, tT, tT, tT, tT, tT, tT, tT, tT, tT, fF] rfl rfl HT_.out ?_
 refine pq (i := 10) (N := some 11) #[tT, tT, tT, tT, tT, tT, tT, tT, tT, tT, tT] rfl rfl HT_.out ?_
 refine done_ (done_of HT_.out kf) ?_
 go_wp2_with (first
  | ((with_reducible refine gate_callee (f := 14) rfl ?_); refine goesL_ (some 48) rfl rfl Try.func14 kf rfl #[.slice A0 l0.length c0, .bool false] rfl sm ?_; (with_reducible refine (toIntS_pad _ _ l0 _ ?side1 ?side2 HN0.out).mono ?_); (case side1 => repeat (first | exact HR0.out | exact (Kd.C_below HR0.out bz) | (with_reducible refine Kd.C_alloc ?_ _) | (with_reducible refine Kd.C_drewN ?_ _) | (with_reducible refine Kd.C_drew ?_))); (case side2 => exact HC0.out); rintro e w23_ ⟨g23_, rfl, ho0, hb⟩; refine ⟨_, rfl, ?_⟩; obtain ⟨a23_, b23_, z1_, z2_, z3_, z4_⟩ := made (by exact Z.out) bz hb ho0; have nO6_ := Aside0.mk (Kd.R_below (kr O6) hb); have nO14_ := Aside0.mk (Kd.R_below (kr O14) hb); have nBK1_ := bb BK1 hb; have nBK3_ := bb BK3 hb; clear O6 O14 BK1 BK3 HB Z; have O6 := nO6_; have O14 := nO14_; have BK1 := nBK1_; have BK3 := nBK3_; clear nO6_ nO14_ nBK1_ nBK3_; have O23 := Aside0.mk z3_; have Q23 := Aside0.mk z1_; have HB := Aside0.mk z4_; have Z := Aside0.mk z2_; clear z1_ z2_ z3_ z4_ hb ho0; (try clear hcz22_BK1_0 hfz22_BK1_0 hcz22_BK1_1 hfz22_BK1_1 hcz22_BK3_0 hfz22_BK3_0 hcz22_BK3_1 hfz22_BK3_1); have hcz24_BK1_0 : w23_.cell? ⟨gb1_, 0, none⟩ = some (.int .i64 a1_0) := (blk_cell BK1.out 0).trans rfl; have hfz24_BK1_0 := blk_frozen BK1.out 0; have hcz24_BK1_1 : w23_.cell? ⟨gb1_, 1, none⟩ = some (.int .i64 a1_1) := (blk_cell BK1.out 1).trans rfl; have hfz24_BK1_1 := blk_frozen BK1.out 1; have hcz24_BK3_0 : w23_.cell? ⟨gb3_, 0, none⟩ = some (.int .i64 a2_0) := (blk_cell BK3.out 0).trans rfl; have hfz24_BK3_0 := blk_frozen BK3.out 0; have hcz24_BK3_1 : w23_.cell? ⟨gb3_, 1, none⟩ = some (.int .i64 a2_1) := (blk_cell BK3.out 1).trans rfl; have hfz24_BK3_1 := blk_frozen BK3.out 1)
  | ((with_reducible refine gate_callee (f := 17) rfl ?_); refine goesL_ (some 49) rfl rfl Try.func17 kf rfl #[.slice (some ⟨g14_, 0, none⟩) l0.length (pad l0).length, .slice (some ⟨g23_, 0, none⟩) l0.length (pad l0).length] rfl sm ?_; (with_reducible refine (intactIntS_pad g14_ g23_ l0 _ HN0.out ?side1 ?side2).mono ?_); (case side1 => exact ⟨_, _, (kr O14)⟩); (case side2 => exact ⟨_, _, (kr O23)⟩); rintro e w' ⟨rfl, ⟨nd, rfl⟩⟩; refine ⟨_, rfl, ?_⟩))
 try go_wp2
 refine start_ (n := 12) (S := fun w' => w'.cell? ⟨gb1_, 0, none⟩ = some (.int .i64 a1_0) ∧ w'.cell? ⟨gb1_, 1, none⟩ = some (.int .i64 a1_1) ∧ w'.cell? ⟨gb3_, 0, none⟩ = some (.int .i64 a2_0) ∧ w'.cell? ⟨gb3_, 1, none⟩ = some (.int .i64 a2_1)) (ds := []) #[fF, fF, fF, fF, fF, fF, fF, fF, fF, fF, fF, fF] kf rfl rfl ⟨((blk_cell (g := gb1_) (cs := #[.int .i64 a1_0, .int .i64 a1_1]) (t := 24) (bk BK1) 0).trans rfl), ((blk_cell (g := gb1_) (cs := #[.int .i64 a1_0, .int .i64 a1_1]) (t := 24) (bk BK1) 1).trans rfl), ((blk_cell (g := gb3_) (cs := #[.int .i64 a2_0, .int .i64 a2_1]) (t := 24) (bk BK3) 0).trans rfl), ((blk_cell (g := gb3_) (cs := #[.int .i64 a2_0, .int .i64 a2_1]) (t := 24) (bk BK3) 1).trans rfl)⟩ (fun hHeld => ?_); refine with_tabW law.tab10 law.bits10 (fun HT_ HW_ => ?_)
 generalize hq_ : World.drew _ = w25_ at hHeld ⊢
 have nO6_ : Aside0 (Kd.R (Kd.int .i64) 3 w25_ w.heap.size (fun k => a6_ ≤ k ∧ k < b6_) (.slice (some ⟨g6_, 0, none⟩) (pad l0).length (pad l0).length) (pad l0)) := ⟨by rw [← hq_]; exact (kr O6)⟩
 have nO14_ : Aside0 (Kd.R (Kd.int .i64) 3 w25_ w.heap.size (fun k => a14_ ≤ k ∧ k < b14_) (.slice (some ⟨g14_, 0, none⟩) (pad l0).length (pad l0).length) (pad l0)) := ⟨by rw [← hq_]; exact (kr O14)⟩
 have nO23_ : Aside0 (Kd.R (Kd.int .i64) 3 w25_ w.heap.size (fun k => a23_ ≤ k ∧ k < b23_) (.slice (some ⟨g23_, 0, none⟩) (pad l0).length (pad l0).length) (pad l0)) := ⟨by rw [← hq_]; exact (kr O23)⟩
 have nBK1_ : Aside0 (w25_.heap[gb1_]? = some (.cells #[.int .i64 a1_0, .int .i64 a1_1] 24 (0, 0))) := ⟨by rw [← hq_]; exact (bk BK1)⟩
 have nBK3_ : Aside0 (w25_.heap[gb3_]? = some (.cells #[.int .i64 a2_0, .int .i64 a2_1] 24 (0, 0))) := ⟨by rw [← hq_]; exact (bk BK3)⟩
 have nHB_ : Aside0 (Below w.heap.size w w25_) := ⟨by rw [← hq_]; exact bz⟩
 have nZ_ : Aside0 (b23_ ≤ w25_.heap.size) := ⟨by rw [← hq_]; exact (by exact Z.out)⟩
 clear hq_ O6 O14 O23 BK1 BK3 HB Z
 have O6 := nO6_
 have O14 := nO14_
 have O23 := nO23_
 have BK1 := nBK1_
 have BK3 := nBK3_
 have HB := nHB_
 have Z := nZ_
 clear nO6_ nO14_ nO23_ nBK1_ nBK3_ nHB_ nZ_
 refine pq (i := 0) (N := some 52) #[tT, fF, fF, fF, fF, fF, fF, fF, fF, fF, fF, fF] rfl rfl HT_.out ?_
 refine tq4 (i := 2) (N := some 54) #[tT, fF, tT, fF, fF, fF, fF, fF, fF, fF, fF, fF] rfl rfl HT_.out HW_.out hHeld ?_
 refine tq4 (i := 4) (N := some 56) #[tT, fF, tT, fF, tT, fF, fF, fF, fF, fF, fF, fF] rfl rfl HT_.out HW_.out hHeld ?_
 refine one_ (i := 1) (N := some 53) #[tT, tT, tT, fF, tT, fF, fF, fF, fF, fF, fF, fF] rfl rfl (one_of HT_.out kf) (by decide) (fun K hK => ?_)
 refine goes_ Try.func14 kf rfl #[.slice A0 l0.length c0, .bool true] (by rfl) rfl rfl sm ?_
 (with_reducible refine (laws_toIntS.calls kb0 _ _ l0 true l0 _ ?side1 ?side2 HBA0.out).mono ?_)
 (case side1 => repeat (first | exact HR0.out | exact (Kd.C_below HR0.out bz) | (with_reducible refine Kd.C_alloc ?_ _) | (with_reducible refine Kd.C_drewN ?_ _) | (with_reducible refine Kd.C_drew ?_)))
 (case side2 => exact HC0.out)
 rintro e w26_ ⟨v26_, rfl, ho0, hb⟩
 refine ⟨_, rfl, ?_⟩
 obtain ⟨a26_, b26_, z1_, z2_, z3_, z4_⟩ := made (by exact Z.out) bz hb ho0
 have nO6_ := Aside0.mk (Kd.R_below (kr O6) hb)
 have nO14_ := Aside0.mk (Kd.R_below (kr O14) hb)
 have nO23_ := Aside0.mk (Kd.R_below (kr O23) hb)
 have nBK1_ := bb BK1 hb
 have nBK3_ := bb BK3 hb
 clear O6 O14 O23 BK1 BK3 HB Z
 have O6 := nO6_
 have O14 := nO14_
 have O23 := nO23_
 have BK1 := nBK1_
 have BK3 := nBK3_
 clear nO6_ nO14_ nO23_ nBK1_ nBK3_
 have O26 := Aside0.mk z3_
 have Q26 := Aside0.mk z1_
 have HB := Aside0.mk z4_
 have Z := Aside0.mk z2_
 clear z1_ z2_ z3_ z4_ hb ho0
 obtain ⟨A26_, c26_, e26_⟩ := Kd.R_slice O26.out; subst e26_
 (try clear hcz24_BK1_0 hfz24_BK1_0 hcz24_BK1_1 hfz24_BK1_1 hcz24_BK3_0 hfz24_BK3_0 hcz24_BK3_1 hfz24_BK3_1)
 have hcz27_BK1_0 : w26_.cell? ⟨gb1_, 0, none⟩ = some (.int .i64 a1_0) := (blk_cell BK1.out 0).trans rfl
 have hfz27_BK1_0 := blk_frozen BK1.out 0
 have hcz27_BK1_1 : w26_.cell? ⟨gb1_, 1, none⟩ = some (.int .i64 a1_1) := (blk_cell BK1.out 1).trans rfl
 have hfz27_BK1_1 := blk_frozen BK1.out 1
 have hcz27_BK3_0 : w26_.cell? ⟨gb3_, 0, none⟩ = some (.int .i64 a2_0) := (blk_cell BK3.out 0).trans rfl
 have hfz27_BK3_0 := blk_frozen BK3.out 0
 have hcz27_BK3_1 : w26_.cell? ⟨gb3_, 1, none⟩ = some (.int .i64 a2_1) := (blk_cell BK3.out 1).trans rfl
 have hfz27_BK3_1 := blk_frozen BK3.out 1
 refine hK.out _ _ ⟨((blk_cell BK1.out 0).trans rfl), ((blk_cell BK1.out 1).trans rfl), ((blk_cell BK3.out 0).trans rfl), ((blk_cell BK3.out 1).trans rfl)⟩ (fun hHeld => ?_)
 clear hK K
 refine norm_ (a' := ?_) ?_ ?_
 rotate_left
 ·show Act.put _ (some 53) _ = _
  simp only [Act.put, List.setIfInBounds_toArray, List.set_cons_zero, List.set_cons_succ, i64_w, i32_w]
  rfl
 refine one_ (i := 3) (N := some 55) #[tT, tT, tT, tT, tT, fF, fF, fF, fF, fF, fF, fF] rfl rfl (one_of HT_.out kf) (by decide) (fun K hK => ?_)
 refine goes_ Try.func15 kf rfl #[.agg #[.int .i64 a1_0, .int .i64 a1_1]] (by rfl) rfl rfl sm ?_
 (with_reducible refine (laws_toDyadic.calls a1_0 a1_1 a1_0 a1_1 _ rfl).mono ?_)
 rintro e w28_ ⟨rfl, hb⟩
 refine ⟨_, rfl, ?_⟩
 obtain ⟨z2_, z4_⟩ := still (by exact Z.out) bz hb
 have nO6_ := Aside0.mk (Kd.R_below (kr O6) hb)
 have nO14_ := Aside0.mk (Kd.R_below (kr O14) hb)
 have nO23_ := Aside0.mk (Kd.R_below (kr O23) hb)
 have nO26_ := Aside0.mk (Kd.R_below (kr O26) hb)
 have nBK1_ := bb BK1 hb
 have nBK3_ := bb BK3 hb
 clear O6 O14 O23 O26 BK1 BK3 HB Z
 have O6 := nO6_
 have O14 := nO14_
 have O23 := nO23_
 have O26 := nO26_
 have BK1 := nBK1_
 have BK3 := nBK3_
 clear nO6_ nO14_ nO23_ nO26_ nBK1_ nBK3_
 have HB := Aside0.mk z4_
 have Z := Aside0.mk z2_
 clear z2_ z4_ hb
 (try clear hcz27_BK1_0 hfz27_BK1_0 hcz27_BK1_1 hfz27_BK1_1 hcz27_BK3_0 hfz27_BK3_0 hcz27_BK3_1 hfz27_BK3_1)
 have hcz29_BK1_0 : w28_.cell? ⟨gb1_, 0, none⟩ = some (.int .i64 a1_0) := (blk_cell BK1.out 0).trans rfl
 have hfz29_BK1_0 := blk_frozen BK1.out 0
 have hcz29_BK1_1 : w28_.cell? ⟨gb1_, 1, none⟩ = some (.int .i64 a1_1) := (blk_cell BK1.out 1).trans rfl
 have hfz29_BK1_1 := blk_frozen BK1.out 1
 have hcz29_BK3_0 : w28_.cell? ⟨gb3_, 0, none⟩ = some (.int .i64 a2_0) := (blk_cell BK3.out 0).trans rfl
 have hfz29_BK3_0 := blk_frozen BK3.out 0
 have hcz29_BK3_1 : w28_.cell? ⟨gb3_, 1, none⟩ = some (.int .i64 a2_1) := (blk_cell BK3.out 1).trans rfl
 have hfz29_BK3_1 := blk_frozen BK3.out 1
 refine hK.out _ _ ⟨((blk_cell BK1.out 0).trans rfl), ((blk_cell BK1.out 1).trans rfl), ((blk_cell BK3.out 0).trans rfl), ((blk_cell BK3.out 1).trans rfl)⟩ (fun hHeld => ?_)
 clear hK K
 refine norm_ (a' := ?_) ?_ ?_
 rotate_left
 ·show Act.put _ (some 55) _ = _
  simp only [Act.put, List.setIfInBounds_toArray, List.set_cons_zero, List.set_cons_succ, i64_w, i32_w]
  rfl
 refine one_ (i := 5) (N := some 57) #[tT, tT, tT, tT, tT, tT, fF, fF, fF, fF, fF, fF] rfl rfl (one_of HT_.out kf) (by decide) (fun K hK => ?_)
 refine goes_ Try.func15 kf rfl #[.agg #[.int .i64 a2_0, .int .i64 a2_1]] (by rfl) rfl rfl sm ?_
 (with_reducible refine (laws_toDyadic.calls a2_0 a2_1 a2_0 a2_1 _ rfl).mono ?_)
 rintro e w30_ ⟨rfl, hb⟩
 refine ⟨_, rfl, ?_⟩
 obtain ⟨z2_, z4_⟩ := still (by exact Z.out) bz hb
 have nO6_ := Aside0.mk (Kd.R_below (kr O6) hb)
 have nO14_ := Aside0.mk (Kd.R_below (kr O14) hb)
 have nO23_ := Aside0.mk (Kd.R_below (kr O23) hb)
 have nO26_ := Aside0.mk (Kd.R_below (kr O26) hb)
 have nBK1_ := bb BK1 hb
 have nBK3_ := bb BK3 hb
 clear O6 O14 O23 O26 BK1 BK3 HB Z
 have O6 := nO6_
 have O14 := nO14_
 have O23 := nO23_
 have O26 := nO26_
 have BK1 := nBK1_
 have BK3 := nBK3_
 clear nO6_ nO14_ nO23_ nO26_ nBK1_ nBK3_
 have HB := Aside0.mk z4_
 have Z := Aside0.mk z2_
 clear z2_ z4_ hb
 (try clear hcz29_BK1_0 hfz29_BK1_0 hcz29_BK1_1 hfz29_BK1_1 hcz29_BK3_0 hfz29_BK3_0 hcz29_BK3_1 hfz29_BK3_1)
 have hcz31_BK1_0 : w30_.cell? ⟨gb1_, 0, none⟩ = some (.int .i64 a1_0) := (blk_cell BK1.out 0).trans rfl
 have hfz31_BK1_0 := blk_frozen BK1.out 0
 have hcz31_BK1_1 : w30_.cell? ⟨gb1_, 1, none⟩ = some (.int .i64 a1_1) := (blk_cell BK1.out 1).trans rfl
 have hfz31_BK1_1 := blk_frozen BK1.out 1
 have hcz31_BK3_0 : w30_.cell? ⟨gb3_, 0, none⟩ = some (.int .i64 a2_0) := (blk_cell BK3.out 0).trans rfl
 have hfz31_BK3_0 := blk_frozen BK3.out 0
 have hcz31_BK3_1 : w30_.cell? ⟨gb3_, 1, none⟩ = some (.int .i64 a2_1) := (blk_cell BK3.out 1).trans rfl
 have hfz31_BK3_1 := blk_frozen BK3.out 1
 refine hK.out _ _ ⟨((blk_cell BK1.out 0).trans rfl), ((blk_cell BK1.out 1).trans rfl), ((blk_cell BK3.out 0).trans rfl), ((blk_cell BK3.out 1).trans rfl)⟩ (fun hHeld => ?_)
 clear hK K
 refine norm_ (a' := ?_) ?_ ?_
 rotate_left
 ·show Act.put _ (some 57) _ = _
  simp only [Act.put, List.setIfInBounds_toArray, List.set_cons_zero, List.set_cons_succ, i64_w, i32_w]
  rfl
 refine one_ (i := 6) (N := some 58) #[tT, tT, tT, tT, tT, tT, tT, fF, fF, fF, fF, fF] rfl rfl (one_of HT_.out kf) (by decide) (fun K hK => ?_)
 refine goes_ Try.func44 kf rfl #[.slice A26_ l0.length c26_, .agg #[.int .i64 a1_0, .int .i64 a1_1], .agg #[.int .i64 a2_0, .int .i64 a2_1]] (by rfl) rfl rfl sm ?_
 (with_reducible refine (impl_HasRootBetween.calls ki _ _ l0 a1_0 a1_1 a2_0 a2_1 r1 r2 _ ?side1 ?side2 HI.out).mono ?_)
 (case side1 => exact cr O26)
 (case side2 => exact (Kd.R_reads' O26.out).2.1)
 rintro e w32_ ⟨rfl, hb⟩
 refine ⟨_, rfl, ?_⟩
 obtain ⟨z2_, z4_⟩ := still (by exact Z.out) bz hb
 have nO6_ := Aside0.mk (Kd.R_below (kr O6) hb)
 have nO14_ := Aside0.mk (Kd.R_below (kr O14) hb)
 have nO23_ := Aside0.mk (Kd.R_below (kr O23) hb)
 have nO26_ := Aside0.mk (Kd.R_below (kr O26) hb)
 have nBK1_ := bb BK1 hb
 have nBK3_ := bb BK3 hb
 clear O6 O14 O23 O26 BK1 BK3 HB Z
 have O6 := nO6_
 have O14 := nO14_
 have O23 := nO23_
 have O26 := nO26_
 have BK1 := nBK1_
 have BK3 := nBK3_
 clear nO6_ nO14_ nO23_ nO26_ nBK1_ nBK3_
 have HB := Aside0.mk z4_
 have Z := Aside0.mk z2_
 clear z2_ z4_ hb
 (try clear hcz31_BK1_0 hfz31_BK1_0 hcz31_BK1_1 hfz31_BK1_1 hcz31_BK3_0 hfz31_BK3_0 hcz31_BK3_1 hfz31_BK3_1)
 have hcz33_BK1_0 : w32_.cell? ⟨gb1_, 0, none⟩ = some (.int .i64 a1_0) := (blk_cell BK1.out 0).trans rfl
 have hfz33_BK1_0 := blk_frozen BK1.out 0
 have hcz33_BK1_1 : w32_.cell? ⟨gb1_, 1, none⟩ = some (.int .i64 a1_1) := (blk_cell BK1.out 1).trans rfl
 have hfz33_BK1_1 := blk_frozen BK1.out 1
 have hcz33_BK3_0 : w32_.cell? ⟨gb3_, 0, none⟩ = some (.int .i64 a2_0) := (blk_cell BK3.out 0).trans rfl
 have hfz33_BK3_0 := blk_frozen BK3.out 0
 have hcz33_BK3_1 : w32_.cell? ⟨gb3_, 1, none⟩ = some (.int .i64 a2_1) := (blk_cell BK3.out 1).trans rfl
 have hfz33_BK3_1 := blk_frozen BK3.out 1
 refine hK.out _ _ ⟨((blk_cell BK1.out 0).trans rfl), ((blk_cell BK1.out 1).trans rfl), ((blk_cell BK3.out 0).trans rfl), ((blk_cell BK3.out 1).trans rfl)⟩ (fun hHeld => ?_)
 clear hK K
 refine norm_ (a' := ?_) ?_ ?_
 rotate_left
 ·show Act.put _ (some 58) _ = _
  simp only [Act.put, List.setIfInBounds_toArray, List.set_cons_zero, List.set_cons_succ, i64_w, i32_w]
  rfl
 refine pq (i := 7) (N := some 51) #[tT, tT, tT, tT, tT, tT, tT, tT, fF, fF, fF, fF] rfl rfl HT_.out ?_
 refine pq (i := 8) (N := some 59) #[tT, tT, tT, tT, tT, tT, tT, tT, tT, fF, fF, fF] rfl rfl HT_.out ?_
 refine pq (i := 9) (N := some 60) #[tT, tT, tT, tT, tT, tT, tT, tT, tT, tT, fF, fF] rfl rfl HT_.out ?_
 refine pq (i := 10) (N := some 12) #[tT, tT, tT, tT, tT, tT, tT, tT, tT, tT, tT, fF] rfl rfl HT_.out ?_
 refine pq (i := 11) (N := some 13) #[tT, tT, tT, tT, tT, tT, tT, tT, tT, tT, tT, tT] rfl rfl HT_.out ?_
 refine done_ (done_of HT_.out kf) ?_
 try go_wp2
 go_ret
 exact ⟨by first | rfl | (simp; done), bz⟩
set_option maxHeartbeats 8000000 in
theorem law_big (A0 : Option Addr) (c0 : Nat) (l0 : List Int) (a1_0 a1_1 : Int) (a2_0 a2_1 : Int) (w : World) (hz0 : l0.length * 8 ≤ 140737488351232) (hn : ¬ l0.length ≤ 1000000) :
 Calls Try.prog 12 #[.slice A0 l0.length c0, .agg #[.int .i64 a1_0, .int .i64 a1_1], .agg #[.int .i64 a2_0, .int .i64 a2_1]] w fun e w' => e = .returned (.bool true) ∧ Below w.heap.size w w' := by
 have cn : decide (1000000 < (l0.length : Int)) = true := decide_eq_true (by omega)
 have cn2 : decide (1000000 < l0.length) = true := decide_eq_true (by omega)
 clear hn hz0
 have HB := Aside0.mk (Below.refl w.heap.size w)
 have Z := Aside0.mk (Nat.zero_le w.heap.size)
 go_enter Try.func12, Try.ntmps12
 go_wp2_with (first
  | ((with_reducible refine gate_dst (N := 4) rfl ?_); refine bv (N := 4) (cs := #[.int .i64 a1_0, .int .i64 a1_1]) (t := 24) ?_; intro gb1_ hg w1_ hbox hb; obtain ⟨z2_, z4_⟩ := still (by exact Z.out) bz hb; have BK1 := Aside0.mk hbox; clear HB Z; have HB := Aside0.mk z4_; have Z := Aside0.mk z2_; clear z2_ z4_ hb hg hbox; have hcz2_BK1_0 : w1_.cell? ⟨gb1_, 0, none⟩ = some (.int .i64 a1_0) := (blk_cell BK1.out 0).trans rfl; have hfz2_BK1_0 := blk_frozen BK1.out 0; have hcz2_BK1_1 : w1_.cell? ⟨gb1_, 1, none⟩ = some (.int .i64 a1_1) := (blk_cell BK1.out 1).trans rfl; have hfz2_BK1_1 := blk_frozen BK1.out 1)
  | ((with_reducible refine gate_dst (N := 5) rfl ?_); refine bv (N := 5) (cs := #[.int .i64 a2_0, .int .i64 a2_1]) (t := 24) ?_; intro gb3_ hg w3_ hbox hb; obtain ⟨z2_, z4_⟩ := still (by exact Z.out) bz hb; have nBK1_ := bb BK1 hb; have BK3 := Aside0.mk hbox; clear BK1 HB Z; have BK1 := nBK1_; clear nBK1_; have HB := Aside0.mk z4_; have Z := Aside0.mk z2_; clear z2_ z4_ hb hg hbox; (try clear hcz2_BK1_0 hfz2_BK1_0 hcz2_BK1_1 hfz2_BK1_1); have hcz4_BK1_0 : w3_.cell? ⟨gb1_, 0, none⟩ = some (.int .i64 a1_0) := (blk_cell BK1.out 0).trans rfl; have hfz4_BK1_0 := blk_frozen BK1.out 0; have hcz4_BK1_1 : w3_.cell? ⟨gb1_, 1, none⟩ = some (.int .i64 a1_1) := (blk_cell BK1.out 1).trans rfl; have hfz4_BK1_1 := blk_frozen BK1.out 1; have hcz4_BK3_0 : w3_.cell? ⟨gb3_, 0, none⟩ = some (.int .i64 a2_0) := (blk_cell BK3.out 0).trans rfl; have hfz4_BK3_0 := blk_frozen BK3.out 0; have hcz4_BK3_1 : w3_.cell? ⟨gb3_, 1, none⟩ = some (.int .i64 a2_1) := (blk_cell BK3.out 1).trans rfl; have hfz4_BK3_1 := blk_frozen BK3.out 1))
 go_ret
 exact ⟨by first | rfl | (simp; done), bz⟩
def Pure : Prop := ∀ (l0 : List Int) (a1_0 a1_1 : Int) (a2_0 a2_1 : Int), l0.length ≤ 1000000 → (∀ x ∈ l0, (Lit.int .i64 x).wf = true) → (Lit.int .i64 a1_0).wf = true → (Lit.int .i64 a1_1).wf = true → (Lit.int .i64 a2_0).wf = true → (Lit.int .i64 a2_1).wf = true → ∃ ks ki r1 r2, spec_HasRootBetween.f ks l0 a1_0 a1_1 a2_0 a2_1 = some (r1, r2) ∧ impl_HasRootBetween.f ki l0 a1_0 a1_1 a2_0 a2_1 = some (r1, r2)
theorem law_holds (P : Pure) (A0 : Option Addr) (c0 : Nat) (l0 : List Int) (a1_0 a1_1 : Int) (a2_0 a2_1 : Int) (w : World) (hr0 : Kd.C (Kd.int .i64) w A0 l0.length l0) (hc0 : l0.length ≤ c0) (hw0 : ∀ x ∈ l0, (Lit.int .i64 x).wf = true) (hz0 : l0.length * 8 ≤ 140737488351232) (hw1_0 : (Lit.int .i64 a1_0).wf = true) (hw1_1 : (Lit.int .i64 a1_1).wf = true) (hw2_0 : (Lit.int .i64 a2_0).wf = true) (hw2_1 : (Lit.int .i64 a2_1).wf = true) :
 Calls Try.prog 12 #[.slice A0 l0.length c0, .agg #[.int .i64 a1_0, .int .i64 a1_1], .agg #[.int .i64 a2_0, .int .i64 a2_1]] w fun e w' => e = .returned (.bool true) ∧ Below w.heap.size w w' := by
 by_cases hn : l0.length ≤ 1000000
 ·obtain ⟨ks, ki, r1, r2, hs, hi⟩ := P l0 a1_0 a1_1 a2_0 a2_1 (by omega) hw0 hw1_0 hw1_1 hw2_0 hw2_1
  exact law_walk A0 c0 l0 a1_0 a1_1 a2_0 a2_1 w hr0 hc0 (by omega) ks ki r1 r2 hs hi
 ·exact law_big A0 c0 l0 a1_0 a1_1 a2_0 a2_1 w hz0 hn
end Go.Proofs.Ytcgcgifndkeeoaa.QSt
