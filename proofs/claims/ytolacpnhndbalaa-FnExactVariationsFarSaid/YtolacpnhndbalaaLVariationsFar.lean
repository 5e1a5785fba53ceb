/- The walk of the law FnExactVariationsFar: what its calls come to. -/
import Derived.Test.YtolacpnhndbalaaQVarx
namespace Go.Proofs.Ytolacpnhndbalaa.QVar
open Go.RowKit Go.Proofs.YtolacpnhndbalaaW.PrintWords Go.Proofs.YtolacpnhndbalaaW.PrintLast Go.Proofs.YtolacpnhndbalaaW.PrintMore
set_option linter.unusedVariables false
set_option linter.unusedSimpArgs false
section
variable {P : Program} {ops : Array Oper} {rest : List Oper} {o : Oper} {a : Act} {Q : Exit → Act → World → Prop} {α : Type}
theorem lit_whole (d : Kd α) {w0 W : World} (base e : Nat) (hgd : o.guard = none) {N : Tmp} (hd : o.dst = some N) {xs : List α} {inner : List Value} {ok okp : Nat → Prop}
    (hrun : (execOp a.eval o).run P W = .ok (.value (.slice (some ⟨W.heap.size, 0, none⟩) xs.length xs.length)) (W.alloc (.cells inner.toArray e)))
    (hrep : Reps (d.M W base okp) d.sz xs inner) (hok : ∀ k, okp k → ok k) (hfresh : ok W.heap.size) (HB : Below base w0 W) (hbase : base ≤ W.heap.size) (hm : xs.length ≤ 9223372036854775807)
    (h : ∀ g w1, d.R e w1 base ok (.slice (some ⟨g, 0, none⟩) xs.length xs.length) xs → Below base w0 w1 → W.grownBy w1 none → base ≤ g → wpList P ops Q rest (a.put o.dst (.slice (some ⟨g, 0, none⟩) xs.length xs.length)) w1) : wpList P ops Q (o :: rest) a W := by
  refine Kd.event_run hgd hrun (h _ _ ⟨fun k hk => ?_, inner, ?_, ?_⟩ (HB.alloc hbase _) (World.grownBy_alloc W _ none) hbase)
  · have : W.heap.size = k := by simpa [Value.ownBlock] using hk
    subst this
    exact hfresh
  · have h2 := World.ownsRow_lit (base := base) (e := e) (size := d.sz) W inner.toArray xs.length hbase (by simpa [maxLen] using hm) (by simpa using hrep.1)
    simpa using h2
  · refine hrep.imp_ (fun p c hp => d.M_mono (fun k hk => ⟨hok k hk.1, fun he => ?_⟩) (Kd.M_below (d.M_bound hp) (below_alloc (Below.refl _ _) _)))
    have h3 : k = W.heap.size := by simpa [Value.ownBlock] using he
    have := hk.2.2.1
    omega
/-- 'make', the row told whole: its capacity is its length. -/
theorem make_whole (d : Kd α) {w0 W : World} (base e : Nat) (hgd : o.guard = none) {N : Tmp} (hd : o.dst = some N) (t : TypeId) (x y : Operand) (ho : o.op = .makeSlice t x y) (n : Int) (hx : a.eval x = .int .i64 n) (hy : a.eval y = .int .i64 n)
    (ht : P.underlying t = some (.slice e)) (z : Value) (bytes : Nat) (hinfo : (P.info? e).map (fun i => (i.zero, i.size, i.bytes)) = some (some z, d.sz, bytes)) (hz : z.cells.size = d.sz) (hs0 : 0 < d.sz) (hb0 : 0 < bytes)
    (z0 : α) {ok okp : Nat → Prop} (hzero : d.M W base okp z0 z.cells.toList) (hok : ∀ k, okp k → ok k) (hfresh : ok W.heap.size) (h0 : 0 ≤ n) (hl : n.toNat * bytes ≤ 281474976710656) (HB : Below base w0 W) (hbase : base ≤ W.heap.size)
    (h : ∀ g w1, d.R e w1 base ok (.slice (some ⟨g, 0, none⟩) n.toNat n.toNat) (List.replicate n.toNat z0) → Below base w0 w1 → W.grownBy w1 none → base ≤ g → wpList P ops Q rest (a.put o.dst (.slice (some ⟨g, 0, none⟩) n.toNat n.toNat)) w1) : wpList P ops Q (o :: rest) a W := by
  obtain ⟨m, rfl⟩ := Int.eq_ofNat_of_zero_le h0
  simp only [Int.toNat_natCast] at hl h
  obtain ⟨i0, hi, hzz⟩ := Option.map_eq_some_iff.1 hinfo
  simp only [Prod.mk.injEq] at hzz
  obtain ⟨hz0, hz1, hz2⟩ := hzz
  have hm : m ≤ 281474976710656 := Nat.le_trans (Nat.le_mul_of_pos_right _ hb0) hl
  have hr := run_make (P := P) W t e i0 z ht hi hz0 .i64 .i64 (m : Int) (m : Int) (by omega) (by omega)
    (by
      have h3 : ((i0.bytes * m : Nat) : Int) ≤ 281474976710656 := by rw [hz2, Nat.mul_comm]; omega
      rwa [Int.natCast_mul] at h3) (by omega)
  simp only [Int.toNat_natCast] at hr
  rw [hz1] at hr
  refine lit_whole d base e hgd hd (xs := List.replicate m z0) (inner := (madeCells z.cells (m * d.sz)).toList) (okp := okp) (ok := ok) ?_ (Kd.reps_made hz hs0 hzero m) hok hfresh HB hbase (by simp; omega) (by simpa using h)
  simp [execOp, ho, hx, hy, hr]
end
theorem cut_room {P : Program} (t e : TypeId) (kh : IntKind) {i : TypeInfo} (ht : P.underlying t = some (.slice e)) (hi : P.info? e = some i) (A : Option Addr) (n c : Nat) (j : Int) (h0 : 0 ≤ j) (hc : j ≤ c) :
    ∀ W : World, (Instr.slice t (.slice A n c) none (some (.int kh j)) none).run P W = .ok (.slice A j.toNat c) W := by
  intro W
  have hel : P.elem t = e := by simp [Program.elem, ht]
  have hu : P.underlying t = some (.slice (P.elem t)) := by rw [hel]; exact ht
  have ha : (A.map fun x => x.add 0) = A := by cases A <;> simp [Addr.add]
  rw [run_slice_h W t A n c hu kh j h0 hc, hel]
  simp [sizeOf, typeInfo, hi, sliced, Result.andThen, ha]
section
variable {α : Type} {d : Kd α}
/-- The begin of a row that is read. -/
theorem C_begin {w : World} {A : Option Addr} {n : Nat} {xs ys : List α} (h : d.C w A n (xs ++ ys)) : d.C w A xs.length xs := by
  obtain ⟨h1, h2, h3⟩ := h
  simp only [List.length_append] at h1
  refine ⟨rfl, by omega, fun hp => ?_⟩
  obtain ⟨ad, e, hc⟩ := h3 (by omega)
  refine ⟨ad, e, fun j p hj => hc j p ?_⟩
  rw [List.getElem?_append_left (List.getElem?_eq_some_iff.1 hj).1]
  exact hj
end
theorem made {α : Type} {d : Kd α} {e : Nat} {v : Value} {xs : List α} {w W W' : World} {bp : Nat} (hp : bp ≤ W.heap.size) (hB : Below w.heap.size w W) (hb : Below W.heap.size W W') (ho : d.R e W' W.heap.size (fun _ => True) v xs) :
    ∃ a b, (bp ≤ a ∧ a ≤ b) ∧ b ≤ W'.heap.size ∧ d.R e W' w.heap.size (fun k => a ≤ k ∧ k < b) v xs ∧ Below w.heap.size w W' :=
  ⟨W.heap.size, W'.heap.size, ⟨hp, hb.size⟩, Nat.le_refl _, Kd.R_lower (Kd.R_mono (Kd.R_bound ho) (fun k hk => ⟨hk.2.1, hk.2.2.1⟩)) hB.size, below_step hB hb⟩
theorem still {w W W' : World} {bp : Nat} (hp : bp ≤ W.heap.size) (hB : Below w.heap.size w W) (hb : Below W.heap.size W W') : bp ≤ W'.heap.size ∧ Below w.heap.size w W' := ⟨Nat.le_trans hp hb.size, below_step hB hb⟩
def room (n : Nat) : Nat := if n % 6 = 5 then 0 else if n % 3 = 0 then 1 else n
theorem room_le (n : Nat) : room n ≤ n + 1 := by unfold room; split <;> (try split) <;> omega
theorem roomBehind_eq (n : Nat) : laws_roomBehind.f (n : Int) = some (room n : Int) := by
  have h6 : Int.tmod (n : Int) 6 = ((n % 6 : Nat) : Int) := by rw [Int.tmod_eq_emod_of_nonneg (by omega)]; rfl
  have h3 : Int.tmod (n : Int) 3 = ((n % 3 : Nat) : Int) := by rw [Int.tmod_eq_emod_of_nonneg (by omega)]; rfl
  unfold laws_roomBehind.f room
  rw [h6, h3]
  by_cases a : n % 6 = 5
  · rw [if_pos (by omega), if_pos a]; rfl
  · rw [if_neg (by omega), if_neg a]
    by_cases b : n % 3 = 0
    · rw [if_pos (by omega), if_pos b]; rfl
    · rw [if_neg (by omega), if_neg b]
def pad (l : List Int) : List Int := l ++ List.replicate (room l.length) (-7000000000000000101)
theorem pad_length (l : List Int) : (pad l).length = l.length + room l.length := by simp [pad]

theorem set_fill (l : List Int) (F i : Nat) (h : i < l.length) (hF : l.length ≤ F) : (l.take i ++ List.replicate (F - i) 0).set i (rd l i) = l.take (i + 1) ++ List.replicate (F - (i + 1)) 0 := by
  have h1 : F - i = (F - (i + 1)) + 1 := by omega
  rw [h1, List.replicate_succ, List.set_append_right _ _ (by simp; omega)]
  have h2 : i - (l.take i).length = 0 := by simp; omega
  rw [h2, List.set_cons_zero]
  have h3 : l.take (i + 1) = l.take i ++ [rd l i] := by
    rw [List.take_add_one, List.getElem?_eq_getElem h]
    simp [rd, h]
  rw [h3, List.append_assoc]
  rfl
theorem set_fill2 (l : List Int) (F i : Nat) (h : l.length ≤ i) (hF : i < F) : (l ++ (List.replicate (i - l.length) (-7000000000000000101) ++ List.replicate (F - i) 0)).set i (-7000000000000000101) = l ++ (List.replicate (i + 1 - l.length) (-7000000000000000101) ++ List.replicate (F - (i + 1)) 0) := by
  have h1 : F - i = (F - (i + 1)) + 1 := by omega
  rw [List.set_append_right _ _ h, List.set_append_right _ _ (by simp), h1, List.replicate_succ]
  have h2 : i - l.length - (List.replicate (i - l.length) (-7000000000000000101 : Int)).length = 0 := by simp
  rw [h2, List.set_cons_zero]
  have h3 : i + 1 - l.length = (i - l.length) + 1 := by omega
  rw [h3, List.replicate_succ', List.append_assoc]
  rfl
set_option maxHeartbeats 4000000 in
set_option maxRecDepth 100000 in
theorem toIntS_pad (A0 : Option Addr) (c0 : Nat) (l0 : List Int) (w : World) (hr0 : Kd.C (Kd.int .i64) w A0 l0.length l0) (hc0 : l0.length ≤ c0) (hn : l0.length ≤ 1000000) :
    Calls Try.prog 16 #[.slice A0 l0.length c0, .bool false] w fun e w' => ∃ g, e = .returned (.slice (some ⟨g, 0, none⟩) l0.length (pad l0).length) ∧ Kd.R (Kd.int .i64) 3 w' w.heap.size (fun _ => True) (.slice (some ⟨g, 0, none⟩) (pad l0).length (pad l0).length) (pad l0) ∧ Below w.heap.size w w' := by
  have HR0 := Aside0.mk hr0
  have HC0 := Aside0.mk hc0
  have HN := Aside0.mk hn
  have hm := Aside0.mk (roomBehind_eq l0.length)
  have hmb := room_le l0.length
  obtain ⟨m, hmm⟩ : ∃ m, room l0.length = m := ⟨_, rfl⟩
  obtain ⟨F, hF⟩ : ∃ F, (pad l0).length = F := ⟨_, rfl⟩
  rw [hmm] at hm hmb
  have hFm : F = l0.length + m := by rw [← hF, pad_length, hmm]
  have hFw : (IntKind.i64.wrap ((l0.length : Int) + (m : Int))) = (F : Int) := by rw [i64_w]; unfold wrap64; omega
  have hFF := Aside0.mk hF
  have MM := Aside0.mk hmm
  have HFM := Aside0.mk hFm
  have HMB := Aside0.mk hmb
  rw [hF]
  clear hr0 hc0 hF hmm hFm hn hmb
  have hp0 : decide (0 ≤ (F : Int)) = true := by simp
  have HB := Aside0.mk (Below.refl w.heap.size w)
  go_enter Try.func16, Try.ntmps16
  go_wp2_with (first | ((with_reducible refine gate_callee (f := 56) rfl ?_); refine goesL_ (some 18) rfl rfl Try.func56 (by kernel_rfl) rfl #[.int .i64 (l0.length : Int)] rfl (by (try simp only [List.map_toArray, List.map_cons, List.map_nil]); first | done | rfl) ?_; (with_reducible refine (laws_roomBehind.calls (l0.length : Int) (m : Int) _ hm.out).mono ?_); rintro e w' ⟨rfl, ⟨nd, rfl⟩⟩; refine ⟨_, rfl, ?_⟩) | ((with_reducible refine gate_dst (N := 20) rfl ?_); (try (refine gate_guard (by rfl) ?_; dsimp only)); refine make_whole (Kd.int .i64) _ 3 rfl (N := 20) rfl 22 _ _ rfl (F : Int) rfl rfl Try.underlying22 (.int .i64 0) 8 info3 rfl (by decide) (by omega) 0 (ok := fun _ => True) (okp := fun _ => True) rfl (fun _ hk => hk) trivial (by omega) (by have := HFM.out; have := HMB.out; have := HN.out; omega) (Below.refl _ _) (Nat.le_refl _) ?_; intro g w10 ho11 hb hg_ hgb; clear hg_; have n0_ := Aside0.mk (Kd.R_lower ho11 (below_size (by repeat (first | (with_reducible first | exact HB.out | apply below_alloc | apply pw_below_drewN | apply below_drew1) | exact HB.out)))); have n1_ := Aside0.mk (below_step (by repeat (first | (with_reducible first | exact HB.out | apply below_alloc | apply pw_below_drewN | apply below_drew1) | exact HB.out)) hb); clear HB; have HO109 := n0_; have HB := n1_; clear n0_ n1_ hb ho11))
  go_loopg [6] l0.length (fun kq v6 w' => ∃ x : Int, v6 = .int .i64 x ∧ Aside0 (0 ≤ x ∧ x + kq = l0.length) ∧ Aside0 (Kd.R (Kd.int .i64) 3 w' w.heap.size (fun _ => True) (.slice (some ⟨g, 0, none⟩) F F) (l0.take x.toNat ++ List.replicate (F - x.toNat) 0)) ∧ Aside0 (Below w.heap.size w w'))
  case atStart => exact ⟨0, rfl, ⟨by omega⟩, ⟨by have h := HO109.out; simp only [Int.toNat_natCast] at h; simpa using h⟩, HB⟩
  case round =>
    clear HO109 HB
    obtain ⟨x, rfl, HI, HO, HB⟩ := hrel
    by_cases hlt : x < (l0.length : Int)
    · have c1 : decide (x < (l0.length : Int)) = true := decide_eq_true hlt
      have c2 : decide (0 ≤ x) = true := decide_eq_true HI.out.1
      have c3 : decide (x < (F : Int)) = true := decide_eq_true (by have := HFM.out; omega)
      obtain ⟨ad, e1, hx1⟩ := Kd.at_int HR0.out x HI.out.1 hlt
      cases e1
      replace hx1 := (HB.out.cell (World.block_lt_of_cell? w _ hx1)).trans hx1
      have hl : (l0.take x.toNat ++ List.replicate (F - x.toNat) 0).length = F := by have := HI.out; have := HFM.out; simp only [List.length_append, List.length_take, List.length_replicate]; omega
      obtain ⟨hx2, hf2⟩ := Kd.R_celln 0 HO.out x HI.out.1 (by have := HFM.out; omega)
      have HP := Kd.R_putg HO.out x (rd l0 x)
      obtain ⟨y, hy⟩ : ∃ y, y = (l0.take x.toNat ++ List.replicate (F - x.toNat) 0).set x.toNat (rd l0 x) := ⟨_, rfl⟩
      have hy2 : y = l0.take (x + 1).toNat ++ List.replicate (F - (x + 1).toNat) 0 := by
        rw [hy]
        have h0 := HI.out
        have h1 := HFM.out
        obtain ⟨i, rfl⟩ := Int.eq_ofNat_of_zero_le h0.1
        have e : ((i : Int) + 1).toNat = i + 1 := by omega
        rw [e]
        simp only [Int.toNat_natCast]
        exact set_fill l0 F i (by omega) (by omega)
      rw [← hy] at HP
      have HY := Aside0.mk hy2
      have GB := Aside0.mk (Kd.R_base HO.out g (by simp [Value.ownBlock]))
      clear hy hy2 hl
      replace hlt := eq_true hlt
      have p2 := eq_true HI.out.1
      have p3 := eq_true (of_decide_eq_true c3)
      go_wp2_with (first | ((with_reducible refine gate_store (t := 3) (p := 33) rfl ?_); refine store_event (t := 3) (p := 33) (v := ?vo_w17) (w1 := (wr.setCell ⟨g, x.toNat, none⟩ (.int .i64 (rd l0 x)))) ?hg ?ho ?hn ?hr ?_; (case ho => rfl); (case hg => rfl); (case hn => rfl); (case hr => first | (go_simp; done) | (go_simp; rfl)); intro w17 hw; have n0_ := Aside0.mk (by rw [hw]; exact HP.1 : Kd.R (Kd.int .i64) 3 w17 w.heap.size (fun _ => True) (.slice (some ⟨g, 0, none⟩) F F) y); have n1_ := Aside0.mk (by rw [hw]; exact below_set HB.out GB.out : Below w.heap.size w w17); clear HO HB HP; have HO := n0_; have HB := n1_; clear n0_ n1_ hw))
      cases gk with
      | zero => exact absurd HI.out.2 (by have := of_eq_true hlt; omega)
      | succ k1 =>
        go_roundg k1
        case measure => omega
        case rel => exact ⟨x + 1, by have := HI.out; have := HN.out; rw [show wrap64 (x + 1) = x + 1 by unfold wrap64; omega], ⟨by have := HI.out; omega⟩, ⟨by rw [← HY.out]; exact HO.out⟩, HB⟩
    · have c1 : decide (x < (l0.length : Int)) = false := decide_eq_false hlt
      have hx : x = (l0.length : Int) := by have := HI.out; omega
      subst hx
      have HO' : Aside0 (Kd.R (Kd.int .i64) 3 wr w.heap.size (fun _ => True) (.slice (some ⟨g, 0, none⟩) F F) (l0 ++ List.replicate (F - l0.length) 0)) := ⟨by have h := HO.out; simpa using h⟩
      clear HO HI hlt
      go_wp2
      go_loopg [7] (F - l0.length) (fun kq v6 w' => ∃ x : Int, v6 = .int .i64 x ∧ Aside0 ((l0.length : Int) ≤ x ∧ x + kq = F) ∧ Aside0 (Kd.R (Kd.int .i64) 3 w' w.heap.size (fun _ => True) (.slice (some ⟨g, 0, none⟩) F F) (l0 ++ (List.replicate (x.toNat - l0.length) (-7000000000000000101) ++ List.replicate (F - x.toNat) 0))) ∧ Aside0 (Below w.heap.size w w'))
      case atStart => exact ⟨l0.length, rfl, ⟨by have := HFM.out; omega⟩, ⟨by have h := HO'.out; simpa using h⟩, HB⟩
      case round =>
        clear HO' HB c1
        obtain ⟨x, rfl, HI, HO, HB⟩ := hrel
        by_cases hlt : x < (F : Int)
        · have c1 : decide (x < (F : Int)) = true := decide_eq_true hlt
          have c2 : decide (0 ≤ x) = true := decide_eq_true (by have := HI.out; omega)
          obtain ⟨hx2, hf2⟩ := Kd.R_celln 0 HO.out x (by have := HI.out; omega) hlt
          have HP := Kd.R_putg HO.out x (-7000000000000000101)
          obtain ⟨y, hy⟩ : ∃ y, y = (l0 ++ (List.replicate (x.toNat - l0.length) (-7000000000000000101) ++ List.replicate (F - x.toNat) 0)).set x.toNat (-7000000000000000101) := ⟨_, rfl⟩
          have hy2 : y = l0 ++ (List.replicate ((x + 1).toNat - l0.length) (-7000000000000000101) ++ List.replicate (F - (x + 1).toNat) 0) := by
            rw [hy]
            have h0 := HI.out
            obtain ⟨i, rfl⟩ := Int.eq_ofNat_of_zero_le (show 0 ≤ x by omega)
            have e : ((i : Int) + 1).toNat = i + 1 := by omega
            rw [e]
            simp only [Int.toNat_natCast]
            exact set_fill2 l0 F i (by omega) (by omega)
          rw [← hy] at HP
          have HY := Aside0.mk hy2
          have GB := Aside0.mk (Kd.R_base HO.out g (by simp [Value.ownBlock]))
          clear hy hy2
          have p2 := eq_true (of_decide_eq_true c2)
          have p3 := eq_true hlt
          go_wp2
          cases gk with
          | zero => exact absurd HI.out.2 (by have := of_decide_eq_true c1; omega)
          | succ k1 =>
            go_roundg k1
            case measure => omega
            case rel => exact ⟨x + 1, by have := HI.out; have := HN.out; have := HFM.out; have := HMB.out; rw [show wrap64 (x + 1) = x + 1 by unfold wrap64; omega], ⟨by have := HI.out; omega⟩, ⟨by rw [← HY.out]; exact HP.1⟩, ⟨below_set HB.out GB.out⟩⟩
        · have c1 : decide (x < (F : Int)) = false := decide_eq_false hlt
          have hx : x = (F : Int) := by have := HI.out; omega
          subst hx
          have HO' : Aside0 (Kd.R (Kd.int .i64) 3 wr w.heap.size (fun _ => True) (.slice (some ⟨g, 0, none⟩) F F) (pad l0)) := ⟨by have h := HO.out; have e : F - l0.length = room l0.length := (by rw [MM.out]; have := HFM.out; omega); simpa [pad, e] using h⟩
          clear HO HI hlt
          obtain ⟨i027, hi027, _, hsz27, _⟩ := info_parts info3
          have hcut27 := cut_to (P := Try.prog) 22 3 .i64 Try.underlying22 hi027 (some ⟨g, 0, none⟩) F F (l0.length : Int) (by omega) (by have := HFM.out; omega) (Nat.le_refl _)
          go_wp2
          go_ret
          exact ⟨g, by simp, HO'.out, HB.out⟩

theorem eqIntS_loop (l : List Int) (hn : l.length ≤ 9223372036854775807) (d : Nat) : ∀ (k : Nat) (x : Int), 0 ≤ x → (l.length : Int) - x = d → d < k → laws_eqIntS.l0 k l l x = some true := by
  induction d with
  | zero =>
    intro k x h0 hd hk
    obtain ⟨k, rfl⟩ : ∃ m, k = m + 1 := ⟨k - 1, by omega⟩
    simp only [laws_eqIntS.l0]; rw [if_neg (by omega)]
  | succ d ih =>
    intro k x h0 hd hk
    obtain ⟨k, rfl⟩ : ∃ m, k = m + 1 := ⟨k - 1, by omega⟩
    simp only [laws_eqIntS.l0]; rw [if_pos (by omega), if_pos h0, if_pos (by omega), if_pos trivial, show wrap64 (x + 1) = x + 1 by unfold wrap64; omega]
    exact ih k (x + 1) (by omega) (by omega) (by omega)
theorem eqIntS_self (l : List Int) (hn : l.length ≤ 9223372036854775807) : laws_eqIntS.f (l.length + 1) l l = some true := by
  unfold laws_eqIntS.f
  rw [if_pos rfl]
  exact eqIntS_loop l hn l.length (l.length + 1) 0 (by omega) (by omega) (by omega)
set_option maxHeartbeats 4000000 in
set_option maxRecDepth 100000 in
theorem intactIntS_pad (g1 g2 : Nat) (l : List Int) (w : World) (hl : l.length ≤ 1000000) 
    (h1 : ∃ b ok, Kd.R (Kd.int .i64) 3 w b ok (.slice (some ⟨g1, 0, none⟩) (pad l).length (pad l).length) (pad l))
    (h2 : ∃ b ok, Kd.R (Kd.int .i64) 3 w b ok (.slice (some ⟨g2, 0, none⟩) (pad l).length (pad l).length) (pad l)) :
    Calls Try.prog 19 #[.slice (some ⟨g1, 0, none⟩) l.length (pad l).length, .slice (some ⟨g2, 0, none⟩) l.length (pad l).length] w fun e w' => e = .returned (.bool true) ∧ Drawn0 w w' := by
  obtain ⟨_, _, h1⟩ := h1
  obtain ⟨_, _, h2⟩ := h2
  have H1 := Aside0.mk (Kd.R_reads' h1).2.2
  have H2 := Aside0.mk (Kd.R_reads' h2).2.2
  have hm := Aside0.mk (roomBehind_eq l.length)
  have hmb := room_le l.length
  have HE := Aside0.mk (eqIntS_self (pad l) (by rw [pad_length]; omega))
  obtain ⟨p, hp⟩ : ∃ p, pad l = p := ⟨_, rfl⟩
  have hpl := pad_length l
  obtain ⟨m, hmm⟩ : ∃ m, room l.length = m := ⟨_, rfl⟩
  rw [hp] at H1 H2 HE hpl ⊢
  rw [hmm] at hm hmb hpl
  have hFw : (IntKind.i64.wrap ((l.length : Int) + (m : Int))) = (p.length : Int) := by rw [i64_w]; unfold wrap64; omega
  have HL := Aside0.mk hpl
  clear h1 h2 hp hpl hmm hmb
  obtain ⟨i0, hi0, _, hsz, _⟩ := info_parts info3
  have hc1 := cut_room (P := Try.prog) 22 3 .i64 Try.underlying22 hi0 (some ⟨g1, 0, none⟩) l.length p.length (p.length : Int) (by omega) (Int.le_refl _)
  have hc2 := cut_room (P := Try.prog) 22 3 .i64 Try.underlying22 hi0 (some ⟨g2, 0, none⟩) l.length p.length (p.length : Int) (by omega) (Int.le_refl _)
  simp only [Int.toNat_natCast] at hc1 hc2
  clear hi0 hsz
  go_enter Try.func19, Try.ntmps19
  go_wp2_with (first | ((with_reducible refine gate_callee (f := 56) rfl ?_); refine goesL_ (some 10) rfl rfl Try.func56 (by kernel_rfl) rfl #[.int .i64 (l.length : Int)] rfl (by (try simp only [List.map_toArray, List.map_cons, List.map_nil]); first | done | rfl) ?_; (with_reducible refine (laws_roomBehind.calls (l.length : Int) (m : Int) _ hm.out).mono ?_); rintro e w' ⟨rfl, ⟨nd, rfl⟩⟩; refine ⟨_, rfl, ?_⟩) | (go_at_call 18; (with_reducible refine (laws_eqIntS.calls (p.length + 1) _ _ p _ _ p true _ ?side1 ?side2 ?side3 ?side4 HE.out).mono ?_); (case side1 => repeat (first | exact H1.out | (with_reducible refine Kd.C_alloc ?_ _) | (with_reducible refine Kd.C_drewN ?_ _) | (with_reducible refine Kd.C_drew ?_))); (case side2 => exact Nat.le_refl _); (case side3 => repeat (first | exact H2.out | (with_reducible refine Kd.C_alloc ?_ _) | (with_reducible refine Kd.C_drewN ?_ _) | (with_reducible refine Kd.C_drew ?_))); (case side4 => exact Nat.le_refl _); rintro e w' ⟨rfl, ⟨nd, rfl⟩⟩))
  have hbb : ((l.length : Int) == (l.length : Int)) = true := by simp
  go_quiet ((go_at_call 18; (with_reducible refine (laws_eqIntS.calls (p.length + 1) _ _ p _ _ p true _ ?side1 ?side2 ?side3 ?side4 HE.out).mono ?_); (case side1 => repeat (first | exact H1.out | (with_reducible refine Kd.C_alloc ?_ _) | (with_reducible refine Kd.C_drewN ?_ _) | (with_reducible refine Kd.C_drew ?_))); (case side2 => exact Nat.le_refl _); (case side3 => repeat (first | exact H2.out | (with_reducible refine Kd.C_alloc ?_ _) | (with_reducible refine Kd.C_drewN ?_ _) | (with_reducible refine Kd.C_drew ?_))); (case side4 => exact Nat.le_refl _); rintro e w' ⟨rfl, ⟨nd, rfl⟩⟩; (try first | exact ⟨rfl, _, World.drewN_drewN _ _ _⟩ | exact ⟨rfl, _, Eq.trans (World.drewN_drewN _ _ _) (congrArg (World.drewN _) (Nat.add_assoc _ _ _))⟩)))
  go_wp2
  go_ret
  exact ⟨by first | rfl | (simp; done), by repeat (first | exact Drawn0.refl _ | apply Drawn0.step)⟩
theorem toIntS_l1 (l : List Int) (F : Nat) (hF : F ≤ 3000000) (d : Nat) : ∀ (k i : Nat), l.length ≤ i → i ≤ F → F - i = d → d < k → laws_toIntS.l1 k l (l ++ (List.replicate (i - l.length) (-7000000000000000101) ++ List.replicate (F - i) 0)) (i : Int) = some l := by
  induction d with
  | zero =>
    intro k i h0 h1 hd hk
    obtain ⟨k, rfl⟩ : ∃ m, k = m + 1 := ⟨k - 1, by omega⟩
    simp only [laws_toIntS.l1]; rw [if_neg (by simp only [List.length_append, List.length_replicate]; omega), if_pos (by omega), if_pos (by simp only [List.length_append, List.length_replicate]; omega)]
    simp
  | succ d ih =>
    intro k i h0 h1 hd hk
    obtain ⟨k, rfl⟩ : ∃ m, k = m + 1 := ⟨k - 1, by omega⟩
    simp only [laws_toIntS.l1]; rw [if_pos (by simp only [List.length_append, List.length_replicate]; omega), if_pos (by omega), show wrap64 ((i : Int) + 1) = ((i + 1 : Nat) : Int) by unfold wrap64; omega, Int.toNat_natCast, set_fill2 l F i h0 (by omega)]
    exact ih k (i + 1) (by omega) (by omega) (by omega) (by omega)
theorem toIntS_l0 (l : List Int) (F : Nat) (hF : F ≤ 3000000) (hl : l.length ≤ F) (d : Nat) : ∀ (k i : Nat), i ≤ l.length → l.length - i = d → d + F + 2 < k → laws_toIntS.l0 k l (l.take i ++ List.replicate (F - i) 0) (i : Int) = some l := by
  induction d with
  | zero =>
    intro k i h1 hd hk
    obtain ⟨k, rfl⟩ : ∃ m, k = m + 1 := ⟨k - 1, by omega⟩
    have e : i = l.length := by omega
    subst e
    simp only [laws_toIntS.l0]; rw [if_neg (by omega)]
    have h := toIntS_l1 l F hF (F - l.length) k l.length (Nat.le_refl _) hl rfl (by omega)
    simpa using h
  | succ d ih =>
    intro k i h1 hd hk
    obtain ⟨k, rfl⟩ : ∃ m, k = m + 1 := ⟨k - 1, by omega⟩
    simp only [laws_toIntS.l0]; rw [if_pos (by omega), if_pos (by omega), if_pos (by simp only [List.length_append, List.length_take, List.length_replicate]; omega), show wrap64 ((i : Int) + 1) = ((i + 1 : Nat) : Int) by unfold wrap64; omega, Int.toNat_natCast, set_fill l F i (by omega) hl]
    exact ih k (i + 1) (by omega) (by omega) (by omega)
theorem toIntS_j0 (l : List Int) (hn : l.length ≤ 1000000) (F : Nat) (hF : l.length + room l.length = F) (k : Nat) (hk : l.length + F + 2 < k) : laws_toIntS.j0 (k + 1) l false = some l := by
  have hr := room_le l.length
  have hw : wrap64 ((l.length : Int) + (room l.length : Int)) = (F : Int) := by unfold wrap64; omega
  have hb : F ≤ 35184372088832 := by omega
  have h := toIntS_l0 l F (by omega) (by omega) l.length k 0 (by omega) (by omega) hk
  simp only [laws_toIntS.j0]
  rw [if_neg (by decide), roomBehind_eq, Option.bind_some, hw, if_pos (by omega), Int.toNat_natCast, if_pos hb]
  simpa using h
theorem toIntS_bare (l : List Int) (hn : l.length ≤ 1000000) : ∃ k, laws_toIntS.f k l true = some l := by
  refine ⟨(l.length + (l.length + room l.length) + 3) + 1, ?_⟩
  unfold laws_toIntS.f
  rw [if_pos rfl]
  by_cases h : l = []
  · subst h
    rfl
  · have e : ((l.length : Int) == 0) = false := by
      have : 0 < l.length := List.length_pos_iff.2 h
      simp only [beq_eq_false_iff_ne]; omega
    rw [e]
    exact toIntS_j0 l hn _ rfl _ (by omega)
theorem pad_reads {w : World} {b : Nat} {ok : Nat → Prop} {A : Option Addr} {l : List Int} (h : Kd.R (Kd.int .i64) 3 w b ok (.slice A (pad l).length (pad l).length) (pad l)) : Kd.C (Kd.int .i64) w A l.length l := C_begin (Kd.R_reads' h).2.2
theorem pad_le (l : List Int) : l.length ≤ (pad l).length := by rw [pad_length]; omega
theorem pad_seen {w : World} {b : Nat} {ok : Nat → Prop} {A : Option Addr} {l : List Int} (h : Kd.R (Kd.int .i64) 3 w b ok (.slice A (pad l).length (pad l).length) (pad l)) : Kd.R (Kd.int .i64) 3 w b ok (.slice A l.length (pad l).length) l := by
  have h2 := Kd.R_take h (pad_le l)
  have e : (pad l).take l.length = l := by simp [pad]
  rwa [e] at h2
theorem padr {α : Type} {d : Kd α} {e : Nat} {w : World} {b : Nat} {ok : Nat → Prop} {A : Option Addr} {c : Nat} {q P : List α} (hp : ∃ f, P = q ++ f) (h : d.R e w b ok (.slice A P.length c) P) : d.C w A q.length q := by
  obtain ⟨f, rfl⟩ := hp
  exact C_begin (Kd.R_reads' h).2.2
theorem padl {α : Type} {q P : List α} {c : Nat} (hp : ∃ f, P = q ++ f) (h : P.length ≤ c) : q.length ≤ c := by
  obtain ⟨f, rfl⟩ := hp
  simp at h; omega
theorem padseen {α : Type} {d : Kd α} {e : Nat} {w : World} {b : Nat} {ok : Nat → Prop} {A : Option Addr} {c : Nat} {q P : List α} (hp : ∃ f, P = q ++ f) (h : d.R e w b ok (.slice A P.length c) P) : d.R e w b ok (.slice A q.length c) q := by
  obtain ⟨f, rfl⟩ := hp
  have h2 := Kd.R_take h (show q.length ≤ (q ++ f).length by simp)
  have e_ : (q ++ f).take q.length = q := by simp
  rwa [e_] at h2
/-! ### rows of rows, told with their room -/
/-- A row told with its room: x.2 lies there, its first x.1 elements are what is told of it. -/
def RP {α : Type} (e : Nat) (d : Kd α) (w : World) (base : Nat) (ok : Nat → Prop) (v : Value) (x : Nat × List α) : Prop := ∃ A c, v = .slice A x.1 c ∧ x.1 ≤ x.2.length ∧ Kd.R d e w base ok (.slice A x.2.length c) x.2
section
variable {α : Type} {d : Kd α} {e e' : Nat} {w w1 : World} {base base' : Nat} {ok ok' : Nat → Prop} {v u : Value} {x : Nat × List α} {xs : List α}
theorem own_len (A : Option Addr) (n m c : Nat) : (Value.slice A n c).ownBlock = (Value.slice A m c).ownBlock := by cases A <;> rfl
theorem RP_of (h : Kd.R d e w base ok v xs) : RP e d w base ok v (xs.length, xs) := by
  obtain ⟨A, c, rfl⟩ := Kd.R_slice h
  exact ⟨A, c, rfl, Nat.le_refl _, h⟩
theorem RP_nil (d : Kd α) (e : Nat) (w : World) (base : Nat) (ok : Nat → Prop) : RP e d w base ok (.slice none 0 0) (0, []) := ⟨none, 0, rfl, Nat.le_refl _, Kd.R_nil _ _ _ _ _⟩
theorem RP_mono (h : RP e d w base ok v x) (hok : ∀ k, ok k → ok' k) : RP e d w base ok' v x := by
  obtain ⟨A, c, rfl, hl, h⟩ := h
  exact ⟨A, c, rfl, hl, Kd.R_mono h hok⟩
theorem RP_bound (h : RP e d w base ok v x) : RP e d w base (fun k => ok k ∧ base ≤ k ∧ k < w.heap.size ∧ ∃ q, q ∈ e :: d.E ∧ ∃ cells, w.heap[k]? = some (.cells cells q (0, 0))) v x := by
  obtain ⟨A, c, rfl, hl, h⟩ := h
  exact ⟨A, c, rfl, hl, Kd.R_bound h⟩
theorem RP_move (h : RP e d w base ok v x) (hm : ∀ k, ok k → w1.heap[k]? = w.heap[k]?) : RP e d w1 base ok v x := by
  obtain ⟨A, c, rfl, hl, h⟩ := h
  exact ⟨A, c, rfl, hl, Kd.R_move h hm⟩
theorem RP_lower (h : RP e d w base ok v x) (hb : base' ≤ base) : RP e d w base' ok v x := by
  obtain ⟨A, c, rfl, hl, h⟩ := h
  exact ⟨A, c, rfl, hl, Kd.R_lower h hb⟩
theorem RP_base (h : RP e d w base ok v x) : ∀ k, v.ownBlock = some k → base ≤ k := by
  obtain ⟨A, c, rfl, hl, h⟩ := h
  exact fun k hk => Kd.R_base h k ((own_len A _ _ c).trans hk)
theorem RP_own (h : RP e d w base ok v x) : ∀ k, v.ownBlock = some k → ok k := by
  obtain ⟨A, c, rfl, hl, h⟩ := h
  exact fun k hk => h.1 k ((own_len A _ _ c).trans hk)
theorem RP_tight (hE : d.E = []) (h : RP e d w base ok v x) : RP e d w base (fun k => some k = v.ownBlock) v x := by
  obtain ⟨A, c, rfl, hl, h⟩ := h
  exact ⟨A, c, rfl, hl, Kd.R_mono (Kd.R_tight hE h) (fun k hk => hk.trans (own_len A _ _ c))⟩
theorem RP_apart' (h : RP e d w base ok u x) (hty : ∀ k, v.ownBlock = some k → ∃ cells, w.heap[k]? = some (.cells cells e' (0, 0))) (ht : ∀ q, q ∈ e :: d.E → q ≠ e') : RP e d w base (fun k => ok k ∧ some k ≠ v.ownBlock) u x := by
  obtain ⟨A, c, rfl, hl, h⟩ := h
  exact ⟨A, c, rfl, hl, Kd.R_apart' h hty ht⟩
theorem RP_slice (h : RP e d w base ok v x) : ∃ A c, v = .slice A x.1 c := by
  obtain ⟨A, c, rfl, _, _⟩ := h
  exact ⟨A, c, rfl⟩
theorem RP_told (h : RP e d w base ok v x) : Kd.R d e w base ok v (x.2.take x.1) := by
  obtain ⟨A, c, rfl, hl, h⟩ := h
  exact Kd.R_take h hl
end
def kPad {α : Type} (e : Nat) (d : Kd α) : Kd (Nat × List α) where
  sz := 1
  E := e :: d.E
  K := fun w x cs => ∃ A c, cs = [.slice A x.1 c] ∧ x.1 ≤ x.2.length ∧ x.2.length ≤ c ∧ Kd.C d w A x.2.length x.2
  M := fun w base ok x cs => ∃ v, cs = [v] ∧ RP e d w base ok v x
  K_len := by
    rintro w x cs ⟨A, c, rfl, _⟩
    rfl
  K_one := by
    rintro w x cs ⟨A, c, rfl, _⟩ u hu
    rw [List.mem_singleton.1 hu]
    rfl
  K_below := by
    rintro w w1 x cs hb ⟨A, c, rfl, hn, hl, hr⟩
    exact ⟨A, c, rfl, hn, hl, Kd.C_below hr hb⟩
  K_of_M := by
    rintro w base ok x cs ⟨v, rfl, A, c, rfl, hn, h⟩
    have h2 := Kd.R_reads' h
    exact ⟨A, c, rfl, hn, h2.2.1, h2.2.2⟩
  M_mono := by
    rintro w base ok ok' x cs hok ⟨v, rfl, h⟩
    exact ⟨v, rfl, RP_mono h hok⟩
  M_bound := by
    rintro w base ok x cs ⟨v, rfl, h⟩
    exact ⟨v, rfl, RP_bound h⟩
  M_move := by
    rintro w w1 base ok x cs hm ⟨v, rfl, h⟩
    exact ⟨v, rfl, RP_move h hm⟩
  M_lower := by
    rintro w base base' ok x cs hb ⟨v, rfl, h⟩
    exact ⟨v, rfl, RP_lower h hb⟩
theorem RP_row {α : Type} {d : Kd α} {e base : Nat} {ok : Nat → Prop} {w : World} {v : Value} {x : Nat × List α} (h : RP e d w base ok v x) : (kPad e d).M w base ok x [v] := ⟨v, rfl, h⟩
/-- What is told of a row. -/
def told {α : Type} (x : Nat × List α) : List α := x.2.take x.1
section
variable {α β : Type} {d : Kd α} {d' : Kd β} {e T : Nat} {w : World} {base : Nat} {ok : Nat → Prop} {v : Value} {xs : List α}
theorem R_map (g : α → β) (hs : d'.sz = d.sz) (hM : ∀ {w : World} {base : Nat} {ok : Nat → Prop} {x : α} {cs : List Value}, d.M w base ok x cs → d'.M w base ok (g x) cs) (h : d.R e w base ok v xs) : d'.R e w base ok v (xs.map g) := by
  obtain ⟨h0, inner, ho, hl, hr⟩ := h
  refine ⟨h0, inner, by rw [List.length_map, hs]; exact ho, by rw [List.length_map, hs]; exact hl, fun j p hj => ?_⟩
  rw [List.getElem?_map] at hj
  obtain ⟨q, hq, rfl⟩ := Option.map_eq_some_iff.1 hj
  rw [hs]
  exact hM (hr j q hq)
theorem S_map (g : α → β) (hs : d'.sz = d.sz) (hM : ∀ {w : World} {base : Nat} {ok : Nat → Prop} {x : α} {cs : List Value}, d.M w base ok x cs → d'.M w base ok (g x) cs) (h : Kd.S d e w base ok v xs) : Kd.S d' e w base ok v (xs.map g) := by
  obtain ⟨f, h⟩ := h
  refine ⟨f, ?_⟩
  rw [List.zipIdx_map]
  exact R_map (d := Kd.tag f d) (d' := Kd.tag f d') (Prod.map g id) hs (fun h => hM h) h
theorem C_map (g : α → β) (hs : d'.sz = d.sz) (hK : ∀ {w : World} {x : α} {cs : List Value}, d.K w x cs → d'.K w (g x) cs) {A : Option Addr} {n : Nat} (h : d.C w A n xs) : d'.C w A n (xs.map g) := by
  obtain ⟨h1, h2, h3⟩ := h
  refine ⟨by rw [List.length_map]; exact h1, h2, fun hp => ?_⟩
  obtain ⟨ad, he, hc⟩ := h3 hp
  refine ⟨ad, he, fun j p hj => ?_⟩
  rw [List.getElem?_map] at hj
  obtain ⟨q, hq, rfl⟩ := Option.map_eq_some_iff.1 hj
  obtain ⟨c, h4, h5, h6⟩ := hc j q hq
  exact ⟨c, by rw [hs]; exact h4, hK h5, by rw [hs]; exact h6⟩
/-- What lies behind the begin of a row that is read. -/
theorem C_end {A : Option Addr} {n : Nat} {ys : List α} (h : d.C w A n (xs ++ ys)) : d.C w (A.map fun a => a.add (xs.length * d.sz)) ys.length ys := by
  obtain ⟨h1, h2, h3⟩ := h
  simp only [List.length_append] at h1
  refine ⟨rfl, by omega, fun hp => ?_⟩
  obtain ⟨ad, rfl, hc⟩ := h3 (by omega)
  refine ⟨_, rfl, fun j p hj => ?_⟩
  obtain ⟨c, h4, h5, h6⟩ := hc (xs.length + j) p (by rw [List.getElem?_append_right (by omega), Nat.add_sub_cancel_left]; exact hj)
  refine ⟨c, h4, h5, fun i u hu => ?_⟩
  have h7 := h6 i u hu
  rw [show (xs.length + j) * d.sz + i = xs.length * d.sz + (j * d.sz + i) by rw [Nat.add_mul]; omega] at h7
  rw [Addr.add_add]
  exact h7
end
section
variable {α : Type} {d : Kd α} {e T : Nat} {w : World} {base : Nat} {ok : Nat → Prop} {v : Value} {xs : List (Nat × List α)}
theorem kPad_M {w : World} {base : Nat} {ok : Nat → Prop} {x : Nat × List α} {cs : List Value} (h : (kPad e d).M w base ok x cs) : (Kd.slice e d).M w base ok (told x) cs := by
  obtain ⟨v, rfl, h⟩ := h
  exact ⟨v, rfl, RP_told h⟩
theorem told_length {x : Nat × List α} (h : x.1 ≤ x.2.length) : (told x).length = x.1 := by simp [told]; omega
theorem kPad_K {w : World} {x : Nat × List α} {cs : List Value} (h : (kPad e d).K w x cs) : (Kd.slice e d).K w (told x) cs := by
  obtain ⟨A, c, rfl, hn, hl, h⟩ := h
  refine ⟨A, c, by rw [told_length hn], by rw [told_length hn]; omega, ?_⟩
  have e_ : x.2 = told x ++ x.2.drop x.1 := (List.take_append_drop x.1 x.2).symm
  rw [e_] at h
  exact C_begin h
theorem kPad_R (h : (kPad e d).R T w base ok v xs) : (Kd.slice e d).R T w base ok v (xs.map told) := R_map told rfl kPad_M h
theorem kPad_S (h : Kd.S (kPad e d) T w base ok v xs) : Kd.S (Kd.slice e d) T w base ok v (xs.map told) := S_map told rfl kPad_M h
theorem kPad_C {A : Option Addr} {n : Nat} (h : (kPad e d).C w A n xs) : (Kd.slice e d).C w A n (xs.map told) := C_map told rfl kPad_K h
end
theorem set_fillG {α : Type} (Q : List α) (z : α) (F i : Nat) (h : i < Q.length) (hF : Q.length ≤ F) : (Q.take i ++ List.replicate (F - i) z).set i Q[i] = Q.take (i + 1) ++ List.replicate (F - (i + 1)) z := by
  have h1 : F - i = (F - (i + 1)) + 1 := by omega
  rw [h1, List.replicate_succ, List.set_append_right _ _ (by simp; omega)]
  have h2 : i - (Q.take i).length = 0 := by simp; omega
  rw [h2, List.set_cons_zero, List.take_succ_eq_append_getElem h, List.append_assoc]
  rfl
theorem set_fill2G {α : Type} (Q : List α) (z f : α) (F i : Nat) (h : Q.length ≤ i) (hF : i < F) : (Q ++ (List.replicate (i - Q.length) f ++ List.replicate (F - i) z)).set i f = Q ++ (List.replicate (i + 1 - Q.length) f ++ List.replicate (F - (i + 1)) z) := by
  have h1 : F - i = (F - (i + 1)) + 1 := by omega
  rw [List.set_append_right _ _ h, List.set_append_right _ _ (by simp), h1, List.replicate_succ]
  have h2 : i - Q.length - (List.replicate (i - Q.length) f).length = 0 := by simp
  rw [h2, List.set_cons_zero]
  have h3 : i + 1 - Q.length = (i - Q.length) + 1 := by omega
  rw [h3, List.replicate_succ', List.append_assoc]
  rfl
/-- The sizes. -/
def total {α : Type} (l : List (List α)) : Nat := (l.map List.length).sum
theorem total_le {α : Type} (l : List (List α)) (q : List α) (h : q ∈ l) : q.length ≤ total l := by
  induction l with
  | nil => exact absurd h (by simp)
  | cons a t ih =>
    unfold total
    rw [List.map_cons, List.sum_cons]
    rcases List.mem_cons.1 h with rfl | h
    · exact Nat.le_add_right _ _
    · exact Nat.le_trans (ih h) (Nat.le_add_left _ _)
theorem total_drop {α : Type} (l : List (List α)) (i : Nat) (h : i < l.length) : total (l.drop i) = l[i].length + total (l.drop (i + 1)) := by
  rw [List.drop_eq_getElem_cons h]
  unfold total
  rw [List.map_cons, List.sum_cons]
/-- The lengths of rows that came in. -/
theorem C_lens {α : Type} {d : Kd α} {e : Nat} {w : World} {A : Option Addr} {xs : List (List α)} (h : Kd.C (Kd.slice e d) w A xs.length xs) : ∀ q ∈ xs, q.length ≤ 9223372036854775807 := by
  intro q hq
  obtain ⟨j, hj, rfl⟩ := List.mem_iff_getElem.1 hq
  obtain ⟨_, _, h3⟩ := h
  obtain ⟨ad, _, hc⟩ := h3 (by omega)
  obtain ⟨c, _, hK, _⟩ := hc j _ (List.getElem?_eq_getElem hj)
  obtain ⟨_, _, _, _, hC⟩ := hK
  exact hC.2.1
theorem lens_bound {α : Type} (l : List (List α)) : ∃ K, ∀ q ∈ l, q.length < K := ⟨total l + 1, fun q h => Nat.lt_succ_of_le (total_le l q h)⟩
theorem total_append {α : Type} (s t : List (List α)) : total (s ++ t) = total s + total t := by unfold total; rw [List.map_append, List.sum_append]
theorem total_one {α : Type} (q : List α) : total [q] = q.length := by simp [total]
theorem total_take {α : Type} (l : List (List α)) (i : Nat) (h : i < l.length) : total (l.take (i + 1)) = total (l.take i) + l[i].length := by
  rw [List.take_succ_eq_append_getElem h, total_append, total_one]
theorem total_take_le {α : Type} (l : List (List α)) (i : Nat) : total (l.take i) ≤ total l := by
  have h := total_append (l.take i) (l.drop i)
  rw [List.take_append_drop] at h
  omega
theorem total_all {α : Type} (l : List (List α)) : total (l.take l.length) = total l := by rw [List.take_length]
theorem total_map {α β : Type} (f : α → β) (l : List (List α)) : total (l.map (List.map f)) = total l := by
  induction l with
  | nil => rfl
  | cons q t ih =>
    unfold total at ih ⊢
    rw [List.map_cons, List.map_cons, List.map_cons, List.sum_cons, List.sum_cons, List.length_map, ih]
theorem madeS {α : Type} {d : Kd α} {e : Nat} {v : Value} {xs : List α} {w W W' : World} {bp : Nat} (hp : bp ≤ W.heap.size) (hB : Below w.heap.size w W) (hb : Below W.heap.size W W') (ho : Kd.S d e W' W.heap.size (fun _ => True) v xs) :
    ∃ a b, (bp ≤ a ∧ a ≤ b) ∧ b ≤ W'.heap.size ∧ Kd.S d e W' w.heap.size (fun k => a ≤ k ∧ k < b) v xs ∧ Below w.heap.size w W' :=
  ⟨W.heap.size, W'.heap.size, ⟨hp, hb.size⟩, Nat.le_refl _, Kd.S_lower (Kd.S_mono (Kd.S_bound ho) (fun k hk => ⟨hk.2.1, hk.2.2.1⟩)) hB.size, below_step hB hb⟩
section
variable {α : Type} {d : Kd α} {e T : Nat} {w : World} {b : Nat} {ok : Nat → Prop} {A : Option Addr} {c : Nat} {q : List (List α)} {P : List (Nat × List α)}
theorem padr2 (hp : ∃ f, P.map told = q ++ f) (h : Kd.S (kPad e d) T w b ok (.slice A P.length c) P) : Kd.C (Kd.slice e d) w A q.length q := by
  obtain ⟨f, hf⟩ := hp
  have h2 := kPad_C (Kd.S_reads' h).2.2
  rw [hf] at h2
  exact C_begin h2
theorem padl2 (hp : ∃ f, P.map told = q ++ f) (h : P.length ≤ c) : q.length ≤ c := by
  obtain ⟨f, hf⟩ := hp
  have h2 := congrArg List.length hf
  simp at h2
  omega
theorem padseen2 (hp : ∃ f, P.map told = q ++ f) (h : Kd.S (kPad e d) T w b ok (.slice A P.length c) P) : Kd.S (Kd.slice e d) T w b ok (.slice A q.length c) q := by
  obtain ⟨f, hf⟩ := hp
  have h1 := kPad_S h
  rw [hf] at h1
  have h2 := Kd.S_take h1 (show q.length ≤ (q ++ f).length by simp)
  have e_ : (q ++ f).take q.length = q := by simp
  rwa [e_] at h2
end
/-- A row of whole numbers, told with its room. -/
def laws_toIntSP.f (k : Nat) (l : List Int) (b : Bool) : Option (Nat × List Int) := if b = false ∧ l.length ≤ 1000000 then some (l.length, pad l) else none
theorem laws_toIntSP.mono (a0 : List Int) (a1 : Bool) (k : Nat) : LeO (laws_toIntSP.f k a0 a1) (laws_toIntSP.f (k + 1) a0 a1) := LeO.refl _
theorem laws_toIntSP.calls (k : Nat) (A0 : Option Addr) (c0 : Nat) (l0 : List Int) (a1 : Bool) (r : Nat × List Int) (w : World) (hr0 : Kd.C (Kd.int .i64) w A0 l0.length l0) (hc0 : l0.length ≤ c0) (h : laws_toIntSP.f k l0 a1 = some r) :
    Calls Try.prog 16 #[.slice A0 l0.length c0, .bool a1] w fun e w' => ∃ v0_ : Value, e = .returned (v0_) ∧ RP 3 (Kd.int .i64) w' w.heap.size (fun _ => True) v0_ r ∧ Below w.heap.size w w' := by
  unfold laws_toIntSP.f at h
  by_cases hb : a1 = false ∧ l0.length ≤ 1000000
  · rw [if_pos hb] at h
    obtain ⟨rfl, hn⟩ := hb
    obtain rfl := Option.some.inj h
    refine (toIntS_pad A0 c0 l0 w hr0 hc0 hn).mono ?_
    rintro e w' ⟨g, rfl, h1, h2⟩
    exact ⟨_, rfl, ⟨_, _, rfl, pad_le l0, h1⟩, h2⟩
  · rw [if_neg hb] at h
    exact absurd h (by simp)
mutual
def laws_toIntSSW.j0 : Nat → List (List Int) → Bool → Bool → Option ((List (Nat × List Int)))
  | 0, _, _, _ => none
  | k + 1, x0, x1, x13 => if x13 = true then (none) else ((laws_roomBehind.f (x0.length : Int)).bind fun t159 => (if 0 ≤ (wrap64 ((x0.length : Int) + t159)) then (if (wrap64 ((x0.length : Int) + t159) : Int).toNat ≤ 11728124029610 then (laws_toIntSSW.l0 k x0 x1 (List.replicate (wrap64 ((x0.length : Int) + t159) : Int).toNat ((0, []) : (Nat × List Int))) 0) else (none)) else (none)))
def laws_toIntSSW.l0 : Nat → List (List Int) → Bool → List (Nat × List Int) → Int → Option ((List (Nat × List Int)))
  | 0, _, _, _, _ => none
  | k + 1, x0, x1, x5, x6 => if x6 < (x0.length : Int) then (if 0 ≤ x6 then ((laws_toIntSP.f k (rd_L1 x0 x6) x1).bind fun t164 => (if x6 < (x5.length : Int) then (laws_toIntSSW.l0 k x0 x1 (x5.set (x6 : Int).toNat t164) (wrap64 (x6 + 1))) else (none))) else (none)) else (laws_toIntSSW.l1 k x0 x5 (x0.length : Int))
def laws_toIntSSW.l1 : Nat → List (List Int) → List (Nat × List Int) → Int → Option ((List (Nat × List Int)))
  | 0, _, _, _ => none
  | k + 1, x0, x5, x7 => if x7 < (x5.length : Int) then (if 0 ≤ x7 then (laws_toIntSSW.l1 k x0 (x5.set (x7 : Int).toNat ((([(-7000000000000000101)] : List Int).length, ([(-7000000000000000101)] : List Int)) : (Nat × List Int))) (wrap64 (x7 + 1))) else (none)) else (if 0 ≤ (x0.length : Int) then (if (x0.length : Int) ≤ (x5.length : Int) then (some x5) else (none)) else (none))
end
def laws_toIntSSW.f (k : Nat) (l0 : List (List Int)) (a1 : Bool) : Option (List (Nat × List Int)) := if a1 = true then (laws_toIntSSW.j0 k l0 a1 ((l0.length : Int) == 0)) else (laws_toIntSSW.j0 k l0 a1 false)
theorem laws_toIntSSW.mono_l : ∀ k, (∀ y0 y1 y2, LeO (laws_toIntSSW.j0 k y0 y1 y2) (laws_toIntSSW.j0 (k + 1) y0 y1 y2)) ∧ (∀ y0 y1 y2 y3, LeO (laws_toIntSSW.l0 k y0 y1 y2 y3) (laws_toIntSSW.l0 (k + 1) y0 y1 y2 y3)) ∧ (∀ y0 y1 y2, LeO (laws_toIntSSW.l1 k y0 y1 y2) (laws_toIntSSW.l1 (k + 1) y0 y1 y2))
  | 0 => ⟨fun _ _ _ r h => by simp [laws_toIntSSW.j0] at h, fun _ _ _ _ r h => by simp [laws_toIntSSW.l0] at h, fun _ _ _ r h => by simp [laws_toIntSSW.l1] at h⟩
  | k + 1 => by
    obtain ⟨ih0, ih1, ih2⟩ := laws_toIntSSW.mono_l k
    refine ⟨?_, ?_, ?_⟩
    · intro y0 y1 y2
      unfold laws_toIntSSW.j0
      repeat' first
      | (with_reducible exact ih0 _ _ _)
      | (with_reducible exact ih1 _ _ _ _)
      | (with_reducible exact ih2 _ _ _)
      | (with_reducible exact laws_toIntSP.mono _ _ _)
      | (with_reducible exact LeO.refl _)
      | (with_reducible exact LeO.none _)
      | (with_reducible refine LeO.ite ?_ ?_)
      | (with_reducible refine LeO.bind ?_ (fun _ => ?_))
      | exact ih0 _ _ _
      | exact ih1 _ _ _ _
      | exact ih2 _ _ _
      | exact laws_toIntSP.mono _ _ _
      | exact LeO.none _
      | refine LeO.ite ?_ ?_
      | refine LeO.bind ?_ (fun _ => ?_)
    · intro y0 y1 y2 y3
      unfold laws_toIntSSW.l0
      repeat' first
      | (with_reducible exact ih0 _ _ _)
      | (with_reducible exact ih1 _ _ _ _)
      | (with_reducible exact ih2 _ _ _)
      | (with_reducible exact laws_toIntSP.mono _ _ _)
      | (with_reducible exact LeO.refl _)
      | (with_reducible exact LeO.none _)
      | (with_reducible refine LeO.ite ?_ ?_)
      | (with_reducible refine LeO.bind ?_ (fun _ => ?_))
      | exact ih0 _ _ _
      | exact ih1 _ _ _ _
      | exact ih2 _ _ _
      | exact laws_toIntSP.mono _ _ _
      | exact LeO.none _
      | refine LeO.ite ?_ ?_
      | refine LeO.bind ?_ (fun _ => ?_)
    · intro y0 y1 y2
      unfold laws_toIntSSW.l1
      repeat' first
      | (with_reducible exact ih0 _ _ _)
      | (with_reducible exact ih1 _ _ _ _)
      | (with_reducible exact ih2 _ _ _)
      | (with_reducible exact laws_toIntSP.mono _ _ _)
      | (with_reducible exact LeO.refl _)
      | (with_reducible exact LeO.none _)
      | (with_reducible refine LeO.ite ?_ ?_)
      | (with_reducible refine LeO.bind ?_ (fun _ => ?_))
      | exact ih0 _ _ _
      | exact ih1 _ _ _ _
      | exact ih2 _ _ _
      | exact laws_toIntSP.mono _ _ _
      | exact LeO.none _
      | refine LeO.ite ?_ ?_
      | refine LeO.bind ?_ (fun _ => ?_)
theorem laws_toIntSSW.mono : ∀ a0 a1 k, LeO (laws_toIntSSW.f k a0 a1) (laws_toIntSSW.f (k + 1) a0 a1) := by
  intro a0 a1 k
  obtain ⟨ih0, ih1, ih2⟩ := laws_toIntSSW.mono_l k
  unfold laws_toIntSSW.f
  repeat' first
      | (with_reducible exact ih0 _ _ _)
      | (with_reducible exact ih1 _ _ _ _)
      | (with_reducible exact ih2 _ _ _)
      | (with_reducible exact laws_toIntSP.mono _ _ _)
      | (with_reducible exact LeO.refl _)
      | (with_reducible exact LeO.none _)
      | (with_reducible refine LeO.ite ?_ ?_)
      | (with_reducible refine LeO.bind ?_ (fun _ => ?_))
      | exact ih0 _ _ _
      | exact ih1 _ _ _ _
      | exact ih2 _ _ _
      | exact laws_toIntSP.mono _ _ _
      | exact LeO.none _
      | refine LeO.ite ?_ ?_
      | refine LeO.bind ?_ (fun _ => ?_)
set_option maxHeartbeats 8000000 in
set_option maxRecDepth 100000 in
theorem laws_toIntSSW.calls (k : Nat) (A0 : Option Addr) (c0 : Nat) (l0 : List (List Int)) (a1 : Bool) (r : List (Nat × List Int)) (w : World) (hr0 : Kd.C (Kd.slice 3 (Kd.int .i64)) w A0 l0.length l0) (hc0 : l0.length ≤ c0) (h : laws_toIntSSW.f k l0 a1 = some r) :
    Calls Try.prog 39 #[.slice A0 l0.length c0, .bool a1] w fun e w' => ∃ (Ac_ : Option Addr) (cc_ : Nat), e = .returned (.slice Ac_ l0.length cc_) ∧ Kd.S (kPad 3 (Kd.int .i64)) 22 w' w.heap.size (fun _ => True) (.slice Ac_ r.length cc_) r ∧ Below w.heap.size w w' := by
  have HR0 := Aside0.mk hr0
  have HC0 := Aside0.mk hc0
  clear hr0 hc0
  have HB := Aside0.mk (Below.refl w.heap.size w)
  have H : (if a1 = true then (laws_toIntSSW.j0 k l0 a1 ((l0.length : Int) == 0)) else (laws_toIntSSW.j0 k l0 a1 false)) = some r := h
  clear h
  have HC3 := Aside0.mk H
  clear H
  go_enter Try.func39, Try.ntmps39
  go_upto_region 1 with (fail)
  go_cut [13] (fun v13 wc => ∃ (kq : Nat) (x13_2 : Bool), v13 = .bool x13_2 ∧ Aside0 (laws_toIntSSW.j0 kq l0 a1 x13_2 = some r) ∧ Aside0 (kq ≤ k) ∧ Aside0 (Below w.heap.size w wc))
  case first =>
    have H := HC3.out
    clear HC3
    by_cases c4 : a1 = true
    · subst c4
      have H1 : (laws_toIntSSW.j0 k l0 true ((l0.length : Int) == 0)) = some r := by rw [if_pos rfl] at H; exact H
      clear H
      have H := H1
      clear H1
      have H' := Aside0.mk H
      clear H
      go_wp2
      go_meet
      case rel => exact ⟨_, (((l0.length : Int) == 0)), (by first | rfl | (simp; done) | (simp [*]; done)), H', ⟨by first | omega | exact Nat.le_refl _⟩, ⟨by repeat (first | (with_reducible first | exact HB.out | apply below_alloc | apply pw_below_drewN | apply below_drew1) | exact HB.out)⟩⟩
    · replace c4 := Bool.eq_false_iff.mpr c4
      subst c4
      have H1 : (laws_toIntSSW.j0 k l0 false false) = some r := by rw [if_neg (show ¬ (false = true) by decide)] at H; exact H
      clear H
      have H := H1
      clear H1
      have H' := Aside0.mk H
      clear H
      go_wp2
      go_meet
      case rel => exact ⟨_, (false), (by first | rfl | (simp; done) | (simp [*]; done)), H', ⟨by first | omega | exact Nat.le_refl _⟩, ⟨by repeat (first | (with_reducible first | exact HB.out | apply below_alloc | apply pw_below_drewN | apply below_drew1) | exact HB.out)⟩⟩
  case rest =>
    clear HC3
    try clear p2
    try clear c3
    try clear c4
    obtain ⟨kq, x13_2, rfl, HA, HJ2, HB⟩ := hcut
    cases kq with
    | zero => exact absurd HA.out (by simp [laws_toIntSSW.j0])
    | succ kj2 =>
      have H := HA.out
      clear HA
      simp only [laws_toIntSSW.j0] at H
      by_cases c5 : x13_2 = true
      · subst c5
        have H1 : none = some r := by rw [if_pos rfl] at H; exact H
        exact absurd H1 (by simp)
      · replace c5 := Bool.eq_false_iff.mpr c5
        subst c5
        have H1 : ((laws_roomBehind.f (l0.length : Int)).bind fun t159 => (if 0 ≤ (wrap64 ((l0.length : Int) + t159)) then (if (wrap64 ((l0.length : Int) + t159) : Int).toNat ≤ 11728124029610 then (laws_toIntSSW.l0 kj2 l0 a1 (List.replicate (wrap64 ((l0.length : Int) + t159) : Int).toNat ((0, []) : (Nat × List Int))) 0) else (none)) else (none))) = some r := by rw [if_neg (show ¬ (false = true) by decide)] at H; exact H
        clear H
        have H := H1
        clear H1
        replace H := Option.bind_eq_some_iff.mp H
        obtain ⟨t159, A60, H⟩ := H
        replace H : (if 0 ≤ (wrap64 ((l0.length : Int) + t159)) then (if (wrap64 ((l0.length : Int) + t159) : Int).toNat ≤ 11728124029610 then (laws_toIntSSW.l0 kj2 l0 a1 (List.replicate (wrap64 ((l0.length : Int) + t159) : Int).toNat ((0, []) : (Nat × List Int))) 0) else (none)) else (none)) = some r := H
        have A6 := Aside0.mk A60
        clear A60
        obtain ⟨ji7, hji7⟩ : ∃ j_ : Int, (wrap64 ((l0.length : Int) + t159)) = j_ := ⟨_, rfl⟩
        replace H : (if 0 ≤ (ji7) then (if (ji7 : Int).toNat ≤ 11728124029610 then (laws_toIntSSW.l0 kj2 l0 a1 (List.replicate (ji7 : Int).toNat ((0, []) : (Nat × List Int))) 0) else (none)) else (none)) = some r := by first | (rw [hji7] at H; exact H) | (simp only [hji7] at H ⊢; exact H)
        (try rw [hji7] at A6)
        have hji7w : (IntKind.i64.wrap ((l0.length : Int) + t159)) = ji7 := (i64_w _).trans hji7
        by_cases c8 : 0 ≤ (ji7)
        · rw [if_pos c8] at H
          have c8b0 := eq_true c8
          have c8b1 : decide (0 ≤ (ji7)) = true := decide_eq_true c8
          clear c8
          by_cases c9 : (ji7 : Int).toNat ≤ 11728124029610
          · rw [if_pos c9] at H
            have c9b0 := eq_true c9
            have c9b1 : decide ((ji7 : Int).toNat ≤ 11728124029610) = true := decide_eq_true c9
            clear c9
            obtain ⟨y160, hy160⟩ : ∃ y_ : List (Nat × List Int), y_ = (List.replicate (ji7 : Int).toNat ((0, []) : (Nat × List Int))) := ⟨_, rfl⟩
            replace H : (laws_toIntSSW.l0 kj2 l0 a1 y160 0) = some r := by first | (rw [hy160]; with_reducible exact H) | (have H2_ := (Option.bind_some _ _).symm.trans H; rw [hy160]; with_reducible exact H2_) | (have H2_ := (Option.bind_some _ _).symm.trans H; with_reducible exact H2_) | with_reducible exact H | (rw [hy160]; exact H) | exact H
            have Ny160 := Aside0.mk hy160
            clear hy160
            have H' := Aside0.mk H
            clear H
            go_wp2_with (first | ((with_reducible refine gate_callee (f := 56) rfl ?_); refine goesL_ (some 18) rfl rfl Try.func56 (by kernel_rfl) rfl #[.int .i64 (l0.length : Int)] rfl (by (try simp only [List.map_toArray, List.map_cons, List.map_nil]); first | done | rfl | (simp only [List.length_drop, List.length_take]; rfl)) ?_; (with_reducible refine (laws_roomBehind.calls (l0.length : Int) t159 _ A6.out).mono ?_); rintro e w' ⟨rfl, ⟨nd, rfl⟩⟩; refine ⟨_, rfl, ?_⟩) | ((with_reducible refine gate_dst (N := 20) rfl ?_); (try (refine gate_guard (by rfl) ?_; dsimp only)); refine Kd.S_make (kPad 3 (Kd.int .i64)) _ 22 rfl (N := 20) rfl 40 _ _ rfl ji7 rfl rfl Try.underlying40 (.slice none 0 0) 24 info22 rfl (by decide) (by omega) ((0, []) : (Nat × List Int)) (ok := fun _ => True) (okp := fun _ => True) ⟨_, rfl, RP_nil _ _ _ _ _⟩ (fun _ hk => hk) trivial (of_decide_eq_true (by first | (with_reducible assumption) | assumption)) (Nat.le_trans (Nat.mul_le_mul_right _ (of_decide_eq_true (by first | (with_reducible assumption) | assumption) : ji7.toNat ≤ 11728124029610)) (by omega)) (Below.refl _ _) (Nat.le_refl _) ?_; intro v161 w10 ho11 hb hg_ hnew_; clear hg_ hnew_; (first | rw [← Ny160.out] at ho11 | (simp only [Int.reduceToNat] at ho11; rw [← Ny160.out] at ho11)); have n0_ := Aside0.mk (Kd.S_lower ho11 (below_size (by repeat (first | (with_reducible first | exact HB.out | apply below_alloc | apply pw_below_drewN | apply below_drew1) | exact HB.out)))); have n1_ := Aside0.mk (below_step (by repeat (first | (with_reducible first | exact HB.out | apply below_alloc | apply pw_below_drewN | apply below_drew1) | exact HB.out)) hb); clear HB; have HO162 := n0_; have HB := n1_; clear n0_ n1_; clear hb ho11))
            go_loopg [6] kj2 (fun kq v6 w' => ∃ (x5_2 : List (Nat × List Int)) (x6_2 : Int), v6 = .int .i64 x6_2 ∧ Aside0 (laws_toIntSSW.l0 kq l0 a1 x5_2 x6_2 = some r) ∧ Aside0 (kq ≤ kj2) ∧ Aside0 (Kd.S (kPad 3 (Kd.int .i64)) 22 w' w.heap.size (fun _ => True) v161 x5_2) ∧ Aside0 (Below w.heap.size w w'))
            case atStart => exact ⟨(y160), (0), (by first | rfl | (simp; done) | (simp [*]; done)), H', ⟨Nat.le_refl _⟩, ⟨by (with_reducible repeat (first | apply Kd.S_alloc | apply Kd.S_drewN | apply Kd.S_drew)); exact HO162.out⟩, ⟨by repeat (first | (with_reducible first | exact HB.out | apply below_alloc | apply pw_below_drewN | apply below_drew1) | exact HB.out)⟩⟩
            case round =>
              clear H'
              try clear p2
              try clear c3
              try clear c4
              try clear c5
              try clear p6
              try clear c8
              try clear c8b0
              try clear c8b1
              try clear c9
              try clear c9b0
              try clear c9b1
              try clear p2
              obtain ⟨x5_2, x6_2, rfl, HA, HK2, HO_5, HB⟩ := hrel
              cases gk with
              | zero => exact absurd HA.out (by simp [laws_toIntSSW.l0])
              | succ k2 =>
                have H := HA.out
                clear HA
                simp only [laws_toIntSSW.l0] at H
                by_cases c12 : x6_2 < (l0.length : Int)
                · rw [if_pos c12] at H
                  have c12b0 : decide (x6_2 < (l0.length : Int)) = true := decide_eq_true c12
                  clear c12
                  by_cases c13 : 0 ≤ x6_2
                  · rw [if_pos c13] at H
                    have c13b0 : decide (0 ≤ x6_2) = true := decide_eq_true c13
                    clear c13
                    replace H := Option.bind_eq_some_iff.mp H
                    obtain ⟨t164, A140, H⟩ := H
                    replace H : (if x6_2 < (x5_2.length : Int) then (laws_toIntSSW.l0 k2 l0 a1 (x5_2.set (x6_2 : Int).toNat t164) (wrap64 (x6_2 + 1))) else (none)) = some r := H
                    have A14 := Aside0.mk A140
                    clear A140
                    by_cases c15 : x6_2 < (x5_2.length : Int)
                    · rw [if_pos c15] at H
                      have c15b0 : decide (x6_2 < (x5_2.length : Int)) = true := decide_eq_true c15
                      clear c15
                      obtain ⟨y167, hy167⟩ : ∃ y_ : List (Nat × List Int), y_ = (x5_2.set (x6_2 : Int).toNat t164) := ⟨_, rfl⟩
                      replace H : (laws_toIntSSW.l0 k2 l0 a1 y167 (wrap64 (x6_2 + 1))) = some r := by first | (rw [hy167]; with_reducible exact H) | (have H2_ := (Option.bind_some _ _).symm.trans H; rw [hy167]; with_reducible exact H2_) | (have H2_ := (Option.bind_some _ _).symm.trans H; with_reducible exact H2_) | with_reducible exact H | (rw [hy167]; exact H) | exact H
                      have Ny167 := Aside0.mk hy167
                      clear hy167
                      have H' := Aside0.mk H
                      clear H
                      have p163 : 0 ≤ (x6_2 : Int) := of_decide_eq_true (by first | (with_reducible assumption) | assumption)
                      have q163 : x6_2 < (l0.length : Int) := of_decide_eq_true (by first | (with_reducible assumption) | assumption)
                      obtain ⟨ad163, A163_0, c163_0, e163, hx163_0, hl163_0, hi163_0⟩ := at_L1 HR0.out x6_2 p163 q163
                      cases e163
                      replace hx163_0 := (HB.out.cell (World.block_lt_of_cell? w _ hx163_0)).trans hx163_0
                      have HR163_0 := Aside0.mk hi163_0
                      have HC163_0 := Aside0.mk hl163_0
                      clear hi163_0 hl163_0
                      replace p163 := eq_true p163
                      replace q163 := eq_true q163
                      go_wp2_with (first | ((with_reducible refine gate_callee (f := 16) rfl ?_); refine goesL_ (some 34) rfl rfl Try.func16 (by kernel_rfl) rfl #[.slice A163_0 (rd_L1 l0 x6_2).length c163_0, .bool a1] rfl (by (try simp only [List.map_toArray, List.map_cons, List.map_nil]); first | done | rfl | (simp only [List.length_drop, List.length_take]; rfl)) ?_; (with_reducible refine (laws_toIntSP.calls k2 _ _ (rd_L1 l0 x6_2) a1 t164 _ ?side1 ?side2 A14.out).mono ?_); (case side1 => repeat (first | exact (Kd.C_below HR163_0.out HB.out) | (with_reducible refine Kd.C_alloc ?_ _) | (with_reducible refine Kd.C_drewN ?_ _) | (with_reducible refine Kd.C_drew ?_))); (case side2 => exact HC163_0.out); rintro e w17 ⟨v165, rfl, ho0, hb⟩; obtain ⟨Av165, cv165, ev165⟩ := RP_slice ho0; subst ev165; refine ⟨_, rfl, ?_⟩; have n0_ := Aside0.mk (Kd.S_elder' (by (with_reducible repeat (first | apply Kd.S_alloc | apply Kd.S_drewN | apply Kd.S_drew)); exact HO_5.out) (RP_base ho0) hb); have n1_ := Aside0.mk (RP_lower ho0 (below_size (by repeat (first | (with_reducible first | exact HB.out | apply below_alloc | apply pw_below_drewN | apply below_drew1) | exact HB.out)))); have n2_ := Aside0.mk (below_step (by repeat (first | (with_reducible first | exact HB.out | apply below_alloc | apply pw_below_drewN | apply below_drew1) | exact HB.out)) hb); clear HO_5; clear HB; have HO_5 := n0_; have HO166 := n1_; have HB := n2_; clear n0_ n1_ n2_; (try clear hb); (try clear hb2); (try clear hk); (try clear hi); (try clear ho0); have p16 : 0 ≤ (x6_2 : Int) := of_decide_eq_true (by first | (with_reducible assumption) | assumption); have q16 : (x6_2 : Int) < ((x5_2.length : Int) : Int) := of_decide_eq_true (by first | (with_reducible assumption) | assumption); obtain ⟨go16, co16, eo16, gb16, gl16, cl16, HG16⟩ := Kd.S_form HO_5.out (by omega); (first | cases eo16 | (injection eo16 with ea_ en_ ec_; (first | subst ea_ | (injection ea_ with ea_; subst ea_)); subst ec_; clear en_)); have GB16 := Aside0.mk gb16; have GG16 := Aside0.mk HG16; clear gb16 gl16 HG16; obtain ⟨_, ce16, hcl16, hM16, hcc16, hfr16, _, _⟩ := Kd.S_elem HO_5.out ((0, []) : (Nat × List Int)) (x6_2 : Int) p16 q16; obtain ⟨ve16_0, rfl, ge16_0⟩ := hM16; have hx16_0 := hcc16 0 _ rfl; have hf16_0 := hfr16 0; (try simp only [show ((kPad 3 (Kd.int .i64))).sz = 1 from rfl, Nat.mul_one, Nat.add_zero] at hx16_0); (try simp only [show ((kPad 3 (Kd.int .i64))).sz = 1 from rfl, Nat.mul_one, Nat.add_zero] at hf16_0); clear hcl16 hcc16 hfr16; (try clear hM16); replace p16 := eq_true p16; replace q16 := eq_true q16; have n_ := Aside0.mk (Kd.S_mono (ok' := (fun k_ => some k_ ≠ ((Value.slice Av165 t164.1 cv165) : Value).ownBlock)) HO_5.out (fun k_ hk => hk.2)); clear HO_5; have HO_5 := n_; clear n_; have HX18 := Aside0.mk (show Kd.S (kPad 3 (Kd.int .i64)) 22 w17 w.heap.size (fun k_ => ((fun _ => True)) k_ ∧ ¬ ((fun k_ => some k_ = ((Value.slice Av165 t164.1 cv165) : Value).ownBlock)) k_) (.slice (some ⟨go16, 0, none⟩) x5_2.length co16) x5_2 from (by (with_reducible repeat (first | apply Kd.S_alloc | apply Kd.S_drewN | apply Kd.S_drew)); exact Kd.S_mono HO_5.out (fun k_ hk => ⟨trivial, fun e_ => hk e_⟩))); obtain ⟨oki18, ce18, hcl18, hM18, hcc18, hfr18, hoki18, hH18⟩ := Kd.S_elem HX18.out ((0, []) : (Nat × List Int)) (x6_2 : Int) (of_decide_eq_true (by first | (with_reducible assumption) | assumption)) (by have h_ : (x6_2 : Int) < ((x5_2.length : Int) : Int) := of_decide_eq_true (by first | (with_reducible assumption) | assumption); first | exact h_ | (have e_ := (Kd.S_reads' HO_5.out).1; omega) | simpa using h_); obtain ⟨ve18_0, rfl, ge18_0⟩ := hM18; have HP18 := Kd.S_seg hH18 (of_decide_eq_true (by first | (with_reducible assumption) | assumption)) (by have h_ : (x6_2 : Int) < ((x5_2.length : Int) : Int) := of_decide_eq_true (by first | (with_reducible assumption) | assumption); first | exact h_ | (have e_ := (Kd.S_reads' HO_5.out).1; omega) | simpa using h_) (seg := [(Value.slice Av165 t164.1 cv165)]) (j := 0) (show 1 ≤ 1 from by decide) (x' := t164) (RP_row (RP_mono (RP_tight rfl (RP_mono (ok' := fun k_ => ((fun _ => True)) k_ ∧ k_ ≠ go16) (RP_apart' (HO166.out) (Kd.S_typed HO_5.out) (by decide)) (fun k_ hk => ⟨trivial, fun e_ => (hk.2) (by rw [e_]; rfl)⟩))) (fun _ h_ => Or.inr (h_)))) (fun _ hk => hk) (fun k_ hk_ => RP_own (RP_mono (ok' := fun k_ => ((fun _ => True)) k_ ∧ k_ ≠ go16) (RP_apart' (HO166.out) (Kd.S_typed HO_5.out) (by decide)) (fun k_ hk => ⟨trivial, fun e_ => (hk.2) (by rw [e_]; rfl)⟩)) k_ hk_.symm); have hx18_0 := hcc18 0 _ rfl; (try simp only [show ((kPad 3 (Kd.int .i64))).sz = 1 from rfl, Nat.mul_one, Nat.add_zero] at hx18_0); have hf18_0 := hfr18 0; (try simp only [show ((kPad 3 (Kd.int .i64))).sz = 1 from rfl, Nat.mul_one, Nat.add_zero] at hf18_0); clear hcl18 hcc18 hfr18 hoki18 hH18; (try clear hM18); (try simp only [show ((kPad 3 (Kd.int .i64))).sz = 1 from rfl, Nat.mul_one, Nat.add_zero] at HP18)) | ((with_reducible refine gate_store (t := 22) (p := 35) rfl ?_); refine store_event (t := 22) (p := 35) (v := ?vo_w19) (w1 := (w17.setCell ⟨go16, (x6_2 : Int).toNat, none⟩ ((Value.slice Av165 t164.1 cv165)))) ?hg ?ho ?hn ?hr ?_; (case ho => rfl); (case hg => rfl); (case hn => rfl); (case hr => first | (go_simp; done) | (go_simp; rfl)); intro w19 hw; have hg : w17.grownBy w19 (some go16) := (by rw [hw]; exact HP18.2); have hp_ : Kd.S (kPad 3 (Kd.int .i64)) 22 w19 w.heap.size (fun _ => True) (.slice (some ⟨go16, 0, none⟩) x5_2.length co16) y167 := (by rw [hw, Ny167.out]; exact HP18.1); clear HP18; have n0_ := Aside0.mk (hp_); have n1_ := Aside0.mk ((by rw [hw]; exact below_set (HB.out) GB16.out : Below w.heap.size w w19)); clear HO_5; clear HB; clear HO166; have HO_5 := n0_; have HB := n1_; clear n0_ n1_; clear hg hw hp_))
                      go_roundg k2
                      case measure => have := HJ2.out; have := HK2.out; omega
                      case rel => exact ⟨(y167), (wrap64 (x6_2 + 1)), (by first | rfl | (simp; done) | (simp [*]; done)), H', ⟨by have := HJ2.out; have := HK2.out; omega⟩, ⟨by (with_reducible repeat (first | apply Kd.S_alloc | apply Kd.S_drewN | apply Kd.S_drew)); exact HO_5.out⟩, ⟨by repeat (first | (with_reducible first | exact HB.out | apply below_alloc | apply pw_below_drewN | apply below_drew1) | exact HB.out)⟩⟩
                    · rw [if_neg c15] at H
                      exact absurd H (by simp)
                  · rw [if_neg c13] at H
                    exact absurd H (by simp)
                · rw [if_neg c12] at H
                  have c12b0 : decide (x6_2 < (l0.length : Int)) = false := decide_eq_false c12
                  clear c12
                  have H' := Aside0.mk H
                  clear H
                  go_wp2
                  go_loopg [7] k2 (fun kq v7 w' => ∃ (x5_3 : List (Nat × List Int)) (x7_3 : Int), v7 = .int .i64 x7_3 ∧ Aside0 (laws_toIntSSW.l1 kq l0 x5_3 x7_3 = some r) ∧ Aside0 (kq ≤ k2) ∧ Aside0 (Kd.S (kPad 3 (Kd.int .i64)) 22 w' w.heap.size (fun _ => True) v161 x5_3) ∧ Aside0 (Below w.heap.size w w'))
                  case atStart => exact ⟨(x5_2), ((l0.length : Int)), (by first | rfl | (simp; done) | (simp [*]; done)), H', ⟨Nat.le_refl _⟩, ⟨by (with_reducible repeat (first | apply Kd.S_alloc | apply Kd.S_drewN | apply Kd.S_drew)); exact HO_5.out⟩, ⟨by repeat (first | (with_reducible first | exact HB.out | apply below_alloc | apply pw_below_drewN | apply below_drew1) | exact HB.out)⟩⟩
                  case round =>
                    clear H'
                    try clear c1
                    try clear p1
                    try clear q1
                    try clear hx1
                    try clear p2
                    try clear c3
                    try clear c4
                    try clear c5
                    try clear p6
                    try clear c8
                    try clear c8b0
                    try clear c8b1
                    try clear c9
                    try clear c9b0
                    try clear c9b1
                    try clear c12
                    try clear c12b0
                    try clear c13
                    try clear c13b0
                    try clear c15
                    try clear c15b0
                    try clear c16
                    try clear p16
                    try clear q16
                    try clear hx16
                    try clear hf16
                    try clear c18
                    try clear hx18
                    try clear hf18
                    try clear hx163_0
                    try clear hx16_0
                    try clear hx18_0
                    try clear p16
                    try clear p163
                    try clear p2
                    try clear p6
                    try clear q16
                    try clear q163
                    obtain ⟨x5_3, x7_3, rfl, HA, HK3, HO_5, HB⟩ := hrel
                    cases gk with
                    | zero => exact absurd HA.out (by simp [laws_toIntSSW.l1])
                    | succ k3 =>
                      have H := HA.out
                      clear HA
                      simp only [laws_toIntSSW.l1] at H
                      by_cases c20 : x7_3 < (x5_3.length : Int)
                      · rw [if_pos c20] at H
                        have c20b0 : decide (x7_3 < (x5_3.length : Int)) = true := decide_eq_true c20
                        clear c20
                        obtain ⟨y168, hy168⟩ : ∃ y_ : (Nat × List Int), y_ = ((([(-7000000000000000101)] : List Int).length, ([(-7000000000000000101)] : List Int)) : (Nat × List Int)) := ⟨_, rfl⟩
                        replace H : (if 0 ≤ x7_3 then (laws_toIntSSW.l1 k3 l0 (x5_3.set (x7_3 : Int).toNat y168) (wrap64 (x7_3 + 1))) else (none)) = some r := by first | (rw [hy168]; with_reducible exact H) | (have H2_ := (Option.bind_some _ _).symm.trans H; rw [hy168]; with_reducible exact H2_) | (have H2_ := (Option.bind_some _ _).symm.trans H; with_reducible exact H2_) | with_reducible exact H | (rw [hy168]; exact H) | exact H
                        have Ny168 := Aside0.mk hy168
                        clear hy168
                        by_cases c21 : 0 ≤ x7_3
                        · rw [if_pos c21] at H
                          have c21b0 : decide (0 ≤ x7_3) = true := decide_eq_true c21
                          clear c21
                          obtain ⟨y171, hy171⟩ : ∃ y_ : List (Nat × List Int), y_ = (x5_3.set (x7_3 : Int).toNat y168) := ⟨_, rfl⟩
                          replace H : (laws_toIntSSW.l1 k3 l0 y171 (wrap64 (x7_3 + 1))) = some r := by first | (rw [hy171]; with_reducible exact H) | (have H2_ := (Option.bind_some _ _).symm.trans H; rw [hy171]; with_reducible exact H2_) | (have H2_ := (Option.bind_some _ _).symm.trans H; with_reducible exact H2_) | with_reducible exact H | (rw [hy171]; exact H) | exact H
                          have Ny171 := Aside0.mk hy171
                          clear hy171
                          have H' := Aside0.mk H
                          clear H
                          obtain ⟨Ao23, co23, eo23⟩ := Kd.S_slice HO_5.out
                          subst eo23
                          go_wp2_with (first | ((with_reducible refine gate_dst (N := 46) rfl ?_); (try (refine gate_guard (by rfl) ?_; dsimp only)); refine Kd.R_lit (Kd.int .i64) _ 3 ?hg (N := 46) ?hd (xs := ([(-7000000000000000101)] : List Int)) (inner := [.int .i64 (-7000000000000000101)]) (ok := fun _ => True) (okp := fun _ => True) ?hr ?hp (fun _ hk => hk) trivial (Below.refl _ _) (Nat.le_refl _) (by simp) ?_; (case hd => rfl); (case hg => rfl); (case hr => first | (go_simp; done) | (go_simp; rfl)); (case hp => exact (Reps.one (show Kd.M (Kd.int .i64) _ _ _ (-7000000000000000101) [.int .i64 (-7000000000000000101)] from rfl) (Reps.none _ _))); intro v169 w24 ho25 hb hg_ hnew_; clear hg_ hnew_; replace ho25 := RP_of ho25; (first | rw [← Ny168.out] at ho25 | (simp only [Int.reduceToNat] at ho25; rw [← Ny168.out] at ho25)); obtain ⟨Av169, cv169, ev169⟩ := RP_slice ho25; subst ev169; have n0_ := Aside0.mk (Kd.S_elder' (by (with_reducible repeat (first | apply Kd.S_alloc | apply Kd.S_drewN | apply Kd.S_drew)); exact HO_5.out) (RP_base ho25) hb); have n1_ := Aside0.mk (RP_lower ho25 (below_size (by repeat (first | (with_reducible first | exact HB.out | apply below_alloc | apply pw_below_drewN | apply below_drew1) | exact HB.out)))); have n2_ := Aside0.mk (below_step (by repeat (first | (with_reducible first | exact HB.out | apply below_alloc | apply pw_below_drewN | apply below_drew1) | exact HB.out)) hb); clear HO_5; clear HB; have HO_5 := n0_; have HO170 := n1_; have HB := n2_; clear n0_ n1_ n2_; clear hb ho25; have p22 : 0 ≤ (x7_3 : Int) := of_decide_eq_true (by first | (with_reducible assumption) | assumption); have q22 : (x7_3 : Int) < ((x5_3.length : Int) : Int) := of_decide_eq_true (by first | (with_reducible assumption) | assumption); obtain ⟨go22, co22, eo22, gb22, gl22, cl22, HG22⟩ := Kd.S_form HO_5.out (by omega); (first | cases eo22 | (injection eo22 with ea_ en_ ec_; (first | subst ea_ | (injection ea_ with ea_; subst ea_)); subst ec_; clear en_)); have GB22 := Aside0.mk gb22; have GG22 := Aside0.mk HG22; clear gb22 gl22 HG22; obtain ⟨_, ce22, hcl22, hM22, hcc22, hfr22, _, _⟩ := Kd.S_elem HO_5.out ((0, []) : (Nat × List Int)) (x7_3 : Int) p22 q22; obtain ⟨ve22_0, rfl, ge22_0⟩ := hM22; have hx22_0 := hcc22 0 _ rfl; have hf22_0 := hfr22 0; (try simp only [show ((kPad 3 (Kd.int .i64))).sz = 1 from rfl, Nat.mul_one, Nat.add_zero] at hx22_0); (try simp only [show ((kPad 3 (Kd.int .i64))).sz = 1 from rfl, Nat.mul_one, Nat.add_zero] at hf22_0); clear hcl22 hcc22 hfr22; (try clear hM22); replace p22 := eq_true p22; replace q22 := eq_true q22; have n_ := Aside0.mk (Kd.S_mono (ok' := (fun k_ => some k_ ≠ ((Value.slice Av169 y168.1 cv169) : Value).ownBlock)) HO_5.out (fun k_ hk => hk.2)); clear HO_5; have HO_5 := n_; clear n_; have HX26 := Aside0.mk (show Kd.S (kPad 3 (Kd.int .i64)) 22 w24 w.heap.size (fun k_ => ((fun _ => True)) k_ ∧ ¬ ((fun k_ => some k_ = ((Value.slice Av169 y168.1 cv169) : Value).ownBlock)) k_) (.slice (some ⟨go22, 0, none⟩) x5_3.length co23) x5_3 from (by (with_reducible repeat (first | apply Kd.S_alloc | apply Kd.S_drewN | apply Kd.S_drew)); exact Kd.S_mono HO_5.out (fun k_ hk => ⟨trivial, fun e_ => hk e_⟩))); obtain ⟨oki26, ce26, hcl26, hM26, hcc26, hfr26, hoki26, hH26⟩ := Kd.S_elem HX26.out ((0, []) : (Nat × List Int)) (x7_3 : Int) (of_decide_eq_true (by first | (with_reducible assumption) | assumption)) (by have h_ : (x7_3 : Int) < ((x5_3.length : Int) : Int) := of_decide_eq_true (by first | (with_reducible assumption) | assumption); first | exact h_ | (have e_ := (Kd.S_reads' HO_5.out).1; omega) | simpa using h_); obtain ⟨ve26_0, rfl, ge26_0⟩ := hM26; have HP26 := Kd.S_seg hH26 (of_decide_eq_true (by first | (with_reducible assumption) | assumption)) (by have h_ : (x7_3 : Int) < ((x5_3.length : Int) : Int) := of_decide_eq_true (by first | (with_reducible assumption) | assumption); first | exact h_ | (have e_ := (Kd.S_reads' HO_5.out).1; omega) | simpa using h_) (seg := [(Value.slice Av169 y168.1 cv169)]) (j := 0) (show 1 ≤ 1 from by decide) (x' := y168) (RP_row (RP_mono (RP_tight rfl (RP_mono (ok' := fun k_ => ((fun _ => True)) k_ ∧ k_ ≠ go22) (RP_apart' (HO170.out) (Kd.S_typed HO_5.out) (by decide)) (fun k_ hk => ⟨trivial, fun e_ => (hk.2) (by rw [e_]; rfl)⟩))) (fun _ h_ => Or.inr (h_)))) (fun _ hk => hk) (fun k_ hk_ => RP_own (RP_mono (ok' := fun k_ => ((fun _ => True)) k_ ∧ k_ ≠ go22) (RP_apart' (HO170.out) (Kd.S_typed HO_5.out) (by decide)) (fun k_ hk => ⟨trivial, fun e_ => (hk.2) (by rw [e_]; rfl)⟩)) k_ hk_.symm); have hx26_0 := hcc26 0 _ rfl; (try simp only [show ((kPad 3 (Kd.int .i64))).sz = 1 from rfl, Nat.mul_one, Nat.add_zero] at hx26_0); have hf26_0 := hfr26 0; (try simp only [show ((kPad 3 (Kd.int .i64))).sz = 1 from rfl, Nat.mul_one, Nat.add_zero] at hf26_0); clear hcl26 hcc26 hfr26 hoki26 hH26; (try clear hM26); (try simp only [show ((kPad 3 (Kd.int .i64))).sz = 1 from rfl, Nat.mul_one, Nat.add_zero] at HP26)) | ((with_reducible refine gate_store (t := 22) (p := 47) rfl ?_); refine store_event (t := 22) (p := 47) (v := ?vo_w27) (w1 := (w24.setCell ⟨go22, (x7_3 : Int).toNat, none⟩ ((Value.slice Av169 y168.1 cv169)))) ?hg ?ho ?hn ?hr ?_; (case ho => rfl); (case hg => rfl); (case hn => rfl); (case hr => first | (go_simp; done) | (go_simp; rfl)); intro w27 hw; have hg : w24.grownBy w27 (some go22) := (by rw [hw]; exact HP26.2); have hp_ : Kd.S (kPad 3 (Kd.int .i64)) 22 w27 w.heap.size (fun _ => True) (.slice (some ⟨go22, 0, none⟩) x5_3.length co23) y171 := (by rw [hw, Ny171.out]; exact HP26.1); clear HP26; have n0_ := Aside0.mk (hp_); have n1_ := Aside0.mk ((by rw [hw]; exact below_set (HB.out) GB22.out : Below w.heap.size w w27)); clear HO_5; clear HB; clear HO170; have HO_5 := n0_; have HB := n1_; clear n0_ n1_; clear hg hw hp_))
                          go_roundg k3
                          case measure => have := HJ2.out; have := HK2.out; have := HK3.out; omega
                          case rel => exact ⟨(y171), (wrap64 (x7_3 + 1)), (by first | rfl | (simp; done) | (simp [*]; done)), H', ⟨by have := HJ2.out; have := HK2.out; have := HK3.out; omega⟩, ⟨by (with_reducible repeat (first | apply Kd.S_alloc | apply Kd.S_drewN | apply Kd.S_drew)); exact HO_5.out⟩, ⟨by repeat (first | (with_reducible first | exact HB.out | apply below_alloc | apply pw_below_drewN | apply below_drew1) | exact HB.out)⟩⟩
                        · rw [if_neg c21] at H
                          exact absurd H (by simp)
                      · rw [if_neg c20] at H
                        have c20b0 : decide (x7_3 < (x5_3.length : Int)) = false := decide_eq_false c20
                        clear c20
                        by_cases c28 : 0 ≤ (l0.length : Int)
                        · rw [if_pos c28] at H
                          have c28b0 := eq_true c28
                          have c28b1 : decide (0 ≤ (l0.length : Int)) = true := decide_eq_true c28
                          clear c28
                          by_cases c29 : (l0.length : Int) ≤ (x5_3.length : Int)
                          · rw [if_pos c29] at H
                            have c29b0 := eq_true c29
                            have c29b1 : decide ((l0.length : Int) ≤ (x5_3.length : Int)) = true := decide_eq_true c29
                            clear c29
                            obtain ⟨y172, hy172⟩ : ∃ y_ : List (Nat × List Int), y_ = (x5_3.take ((l0.length : Int) : Int).toNat) := ⟨_, rfl⟩
                            have Ny172 := Aside0.mk hy172
                            clear hy172
                            have HR_ := Aside0.mk (Option.some.inj H)
                            obtain ⟨Ao30, co30, eo30⟩ := Kd.S_slice HO_5.out
                            subst eo30
                            have q31 : ((l0.length : Int) : Int) ≤ ((x5_3.length : Int) : Int) := of_decide_eq_true (by first | (with_reducible assumption) | assumption)
                            obtain ⟨i031, hi031, _, hsz31, _⟩ := info_parts info22
                            have hcut31 := cut_to (P := Try.prog) 40 22 .i64 Try.underlying40 hi031 Ao30 x5_3.length co30 (l0.length : Int) (of_decide_eq_true (by first | (with_reducible assumption) | assumption)) q31 (Kd.S_reads' HO_5.out).2.1
                            have hr31 := Kd.S_take (m := ((l0.length : Int) : Int).toNat) HO_5.out (by omega)
                            have hy31 : y172.length = ((l0.length : Int) : Int).toNat := (by rw [Ny172.out, List.length_take]; omega)
                            rw [← Ny172.out] at hr31
                            rw [← hy31] at hr31 hcut31
                            have HY_ : Aside0 (y172.length = l0.length) := ⟨by rw [hy31]; simp⟩
                            clear hy31 hi031 hsz31
                            have HO174 := Aside0.mk hr31
                            clear hr31
                            replace q31 := eq_true q31
                            go_wp2
                            go_ret
                            exact ⟨Ao30, co30, by first | rfl | (rw [HY_.out]; done) | (simp [HY_.out]; done), by rw [← HR_.out]; (with_reducible repeat (first | apply Kd.S_alloc | apply Kd.S_drewN | apply Kd.S_drew)); first | exact HO_5.out | exact Kd.S_mono HO_5.out (fun _ _ => trivial), (by repeat (first | (with_reducible first | exact HB.out | apply below_alloc | apply pw_below_drewN | apply below_drew1) | exact HB.out))⟩
                          · rw [if_neg c29] at H
                            exact absurd H (by simp)
                        · rw [if_neg c28] at H
                          exact absurd H (by simp)
          · rw [if_neg c9] at H
            exact absurd H (by simp)
        · rw [if_neg c8] at H
          exact absurd H (by simp)
theorem toIntSS_pad (kw : Nat) (A0 : Option Addr) (c0 : Nat) (l : List (List Int)) (q : List (List Int)) (P : List (Nat × List Int)) (w : World) (hr : Kd.C (Kd.slice 3 (Kd.int .i64)) w A0 l.length l) (hc : l.length ≤ c0) (hw : laws_toIntSSW.f kw l false = some P) (hq : q.length = l.length) :
    Calls Try.prog 39 #[.slice A0 l.length c0, .bool false] w fun e w' => ∃ (A : Option Addr) (c : Nat), e = .returned (.slice A q.length c) ∧ Kd.S (kPad 3 (Kd.int .i64)) 22 w' w.heap.size (fun _ => True) (.slice A P.length c) P ∧ Below w.heap.size w w' := by
  refine (laws_toIntSSW.calls kw A0 c0 l false P w hr hc hw).mono ?_
  rintro e w' ⟨A, c, he, h1, h2⟩
  exact ⟨A, c, by rw [hq]; exact he, h1, h2⟩
/-- A row of rows of whole numbers, each with its room. -/
def peIntS (q : List Int) : Nat × List Int := (q.length, pad q)
def feIntS : Nat × List Int := (([-7000000000000000101] : List Int).length, ([-7000000000000000101] : List Int))
def padIntSS (l : List (List Int)) : List (Nat × List Int) := l.map peIntS ++ List.replicate (room l.length) feIntS
theorem padIntSS_length (l : List (List Int)) : (padIntSS l).length = l.length + room l.length := by simp [padIntSS]
theorem toIntSP_eq (k : Nat) (q : List Int) (h : q.length ≤ 1000000) : laws_toIntSP.f k q false = some (peIntS q) := by
  unfold laws_toIntSP.f
  rw [if_pos ⟨rfl, h⟩]
  rfl
theorem toIntSSW_l1 (l : List (List Int)) (F : Nat) (hF : F ≤ 3000000) (hlF : l.length ≤ F) (d : Nat) : ∀ (k i : Nat), l.length ≤ i → i ≤ F → F - i = d → d < k → laws_toIntSSW.l1 k l (l.map peIntS ++ (List.replicate (i - l.length) feIntS ++ List.replicate (F - i) (0, []))) (i : Int) = some (l.map peIntS ++ List.replicate (F - l.length) feIntS) := by
  induction d with
  | zero =>
    intro k i h0 h1 hd hk
    obtain ⟨k, rfl⟩ : ∃ m, k = m + 1 := ⟨k - 1, by omega⟩
    have e : i = F := by omega
    subst e
    simp only [laws_toIntSSW.l1]; rw [if_neg (by simp only [List.length_append, List.length_replicate, List.length_map]; omega), if_pos (by omega), if_pos (by simp only [List.length_append, List.length_replicate, List.length_map]; omega)]
    simp
  | succ d ih =>
    intro k i h0 h1 hd hk
    obtain ⟨k, rfl⟩ : ∃ m, k = m + 1 := ⟨k - 1, by omega⟩
    have hs := set_fill2G (l.map peIntS) (0, []) feIntS F i (by simpa using h0) (by omega)
    simp only [List.length_map] at hs
    simp only [laws_toIntSSW.l1]; rw [if_pos (by simp only [List.length_append, List.length_replicate, List.length_map]; omega), if_pos (by omega), show wrap64 ((i : Int) + 1) = ((i + 1 : Nat) : Int) by unfold wrap64; omega, Int.toNat_natCast]
    change laws_toIntSSW.l1 k l ((l.map peIntS ++ (List.replicate (i - l.length) feIntS ++ List.replicate (F - i) (0, []))).set i feIntS) _ = _
    rw [hs]
    exact ih k (i + 1) (by omega) (by omega) (by omega) (by omega)
theorem toIntSSW_l0 (l : List (List Int)) (hq : ∀ q ∈ l, q.length ≤ 1000000) (F : Nat) (hF : F ≤ 3000000) (hlF : l.length ≤ F) (d : Nat) : ∀ (k i : Nat), i ≤ l.length → l.length - i = d → d + F + 2 < k → laws_toIntSSW.l0 k l false ((l.map peIntS).take i ++ List.replicate (F - i) (0, [])) (i : Int) = some (l.map peIntS ++ List.replicate (F - l.length) feIntS) := by
  induction d with
  | zero =>
    intro k i h1 hd hk
    obtain ⟨k, rfl⟩ : ∃ m, k = m + 1 := ⟨k - 1, by omega⟩
    have e : i = l.length := by omega
    subst e
    simp only [laws_toIntSSW.l0]; rw [if_neg (by omega)]
    have h := toIntSSW_l1 l F hF hlF (F - l.length) k l.length (Nat.le_refl _) hlF rfl (by omega)
    simp only [Nat.sub_self, List.replicate_zero, List.nil_append] at h
    rw [List.take_of_length_le (by simp)]
    exact h
  | succ d ih =>
    intro k i h1 hd hk
    obtain ⟨k, rfl⟩ : ∃ m, k = m + 1 := ⟨k - 1, by omega⟩
    have hi : i < l.length := by omega
    have hs := set_fillG (l.map peIntS) (0, []) F i (by simpa using hi) (by simpa using hlF)
    have hr : rd_L1 l (i : Int) = l[i] := by simp [rd_L1, hi]
    simp only [laws_toIntSSW.l0]; rw [if_pos (by omega), if_pos (by omega), hr, toIntSP_eq k l[i] (hq _ (List.getElem_mem hi)), Option.bind_some, if_pos (by simp only [List.length_append, List.length_take, List.length_replicate, List.length_map]; omega), show wrap64 ((i : Int) + 1) = ((i + 1 : Nat) : Int) by unfold wrap64; omega, Int.toNat_natCast]
    have hc : peIntS l[i] = (l.map peIntS)[i]'(by simpa using hi) := by simp
    rw [hc, hs]
    exact ih k (i + 1) (by omega) (by omega) (by omega)
theorem toIntSS_whole (l : List (List Int)) (hn : l.length ≤ 1000000) (hq : ∀ q ∈ l, q.length ≤ 1000000) : ∃ k, laws_toIntSSW.f k l false = some (padIntSS l) := by
  refine ⟨(l.length + (l.length + room l.length) + 3) + 1, ?_⟩
  have hr := room_le l.length
  have hw : wrap64 ((l.length : Int) + (room l.length : Int)) = ((l.length + room l.length : Nat) : Int) := by unfold wrap64; omega
  have h := toIntSSW_l0 l hq (l.length + room l.length) (by omega) (by omega) l.length (l.length + (l.length + room l.length) + 3) 0 (by omega) (by omega) (by omega)
  unfold laws_toIntSSW.f
  rw [if_neg (by decide)]
  simp only [laws_toIntSSW.j0]
  rw [if_neg (by decide), roomBehind_eq, Option.bind_some, hw, if_pos (by omega), Int.toNat_natCast, if_pos (by omega)]
  unfold padIntSS
  rw [show l.length + room l.length - l.length = room l.length by omega] at h
  simpa using h
/-- One number of rounds for all rows. -/
theorem toIntS_bareAll (l : List (List Int)) (hq : ∀ q ∈ l, q.length ≤ 1000000) : ∃ K, ∀ q ∈ l, laws_toIntS.f K q true = some q := by
  induction l with
  | nil => exact ⟨0, fun q h => absurd h (by simp)⟩
  | cons a t ih =>
    obtain ⟨K, hK⟩ := ih (fun q h => hq q (List.mem_cons_of_mem _ h))
    obtain ⟨k, hk⟩ := toIntS_bare a (hq a List.mem_cons_self)
    refine ⟨K + k, fun q h => ?_⟩
    rcases List.mem_cons.1 h with rfl | h
    · exact at_rounds (g := fun k => laws_toIntS.f k q true) (fun k => laws_toIntS.mono _ _ k) (Nat.le_add_left _ _) hk
    · exact at_rounds (g := fun k => laws_toIntS.f k q true) (fun k => laws_toIntS.mono _ _ k) (Nat.le_add_right _ _) (hK q h)
theorem toIntSS_l1 (l : List (List Int)) (F : Nat) (hF : F ≤ 3000000) (hlF : l.length ≤ F) (d : Nat) : ∀ (k i : Nat), l.length ≤ i → i ≤ F → F - i = d → d < k → laws_toIntSS.l1 k l (l ++ (List.replicate (i - l.length) [-7000000000000000101] ++ List.replicate (F - i) [])) (i : Int) = some l := by
  induction d with
  | zero =>
    intro k i h0 h1 hd hk
    obtain ⟨k, rfl⟩ : ∃ m, k = m + 1 := ⟨k - 1, by omega⟩
    have e : i = F := by omega
    subst e
    simp only [laws_toIntSS.l1]; rw [if_neg (by simp only [List.length_append, List.length_replicate]; omega), if_pos (by omega), if_pos (by simp only [List.length_append, List.length_replicate]; omega)]
    simp
  | succ d ih =>
    intro k i h0 h1 hd hk
    obtain ⟨k, rfl⟩ : ∃ m, k = m + 1 := ⟨k - 1, by omega⟩
    have hs := set_fill2G l ([] : List Int) [-7000000000000000101] F i h0 (by omega)
    simp only [laws_toIntSS.l1]; rw [if_pos (by simp only [List.length_append, List.length_replicate]; omega), if_pos (by omega), show wrap64 ((i : Int) + 1) = ((i + 1 : Nat) : Int) by unfold wrap64; omega, Int.toNat_natCast, hs]
    exact ih k (i + 1) (by omega) (by omega) (by omega) (by omega)
theorem toIntSS_l0 (l : List (List Int)) (K : Nat) (hK : ∀ q ∈ l, laws_toIntS.f K q true = some q) (F : Nat) (hF : F ≤ 3000000) (hlF : l.length ≤ F) (d : Nat) : ∀ (k i : Nat), i ≤ l.length → l.length - i = d → d + F + K + 2 < k → laws_toIntSS.l0 k l true (l.take i ++ List.replicate (F - i) []) (i : Int) = some l := by
  induction d with
  | zero =>
    intro k i h1 hd hk
    obtain ⟨k, rfl⟩ : ∃ m, k = m + 1 := ⟨k - 1, by omega⟩
    have e : i = l.length := by omega
    subst e
    simp only [laws_toIntSS.l0]; rw [if_neg (by omega)]
    have h := toIntSS_l1 l F hF hlF (F - l.length) k l.length (Nat.le_refl _) hlF rfl (by omega)
    simp only [Nat.sub_self, List.replicate_zero, List.nil_append] at h
    rw [List.take_of_length_le (by simp)]
    exact h
  | succ d ih =>
    intro k i h1 hd hk
    obtain ⟨k, rfl⟩ : ∃ m, k = m + 1 := ⟨k - 1, by omega⟩
    have hi : i < l.length := by omega
    have hs := set_fillG l ([] : List Int) F i hi hlF
    have hr : rd_L1 l (i : Int) = l[i] := by simp [rd_L1, hi]
    have hk2 : laws_toIntS.f k l[i] true = some l[i] := at_rounds (g := fun k => laws_toIntS.f k l[i] true) (fun k => laws_toIntS.mono _ _ k) (by omega) (hK _ (List.getElem_mem hi))
    simp only [laws_toIntSS.l0]; rw [if_pos (by omega), if_pos (by omega), hr, hk2, Option.bind_some, if_pos (by simp only [List.length_append, List.length_take, List.length_replicate]; omega), show wrap64 ((i : Int) + 1) = ((i + 1 : Nat) : Int) by unfold wrap64; omega, Int.toNat_natCast, hs]
    exact ih k (i + 1) (by omega) (by omega) (by omega)
theorem toIntSS_bare (l : List (List Int)) (hn : l.length ≤ 1000000) (hq : ∀ q ∈ l, q.length ≤ 1000000) : ∃ k, laws_toIntSS.f k l true = some l := by
  obtain ⟨K, hK⟩ := toIntS_bareAll l hq
  refine ⟨(l.length + (l.length + room l.length) + K + 3) + 1, ?_⟩
  unfold laws_toIntSS.f
  rw [if_pos rfl]
  by_cases h : l = []
  · subst h
    rfl
  · have e : ((l.length : Int) == 0) = false := by
      have : 0 < l.length := List.length_pos_iff.2 h
      simp only [beq_eq_false_iff_ne]; omega
    rw [e]
    have hr := room_le l.length
    have hw : wrap64 ((l.length : Int) + (room l.length : Int)) = ((l.length + room l.length : Nat) : Int) := by unfold wrap64; omega
    have h := toIntSS_l0 l K hK (l.length + room l.length) (by omega) (by omega) l.length (l.length + (l.length + room l.length) + K + 3) 0 (by omega) (by omega) (by omega)
    simp only [laws_toIntSS.j0]
    rw [if_neg (by decide), roomBehind_eq, Option.bind_some, hw, if_pos (by omega), Int.toNat_natCast, if_pos (by omega)]
    simpa using h
theorem told_peIntS (q : List Int) : told (peIntS q) = q := by simp [told, peIntS, pad]
theorem padIntSS_told (l : List (List Int)) : ∃ f, (padIntSS l).map told = l ++ f := by
  refine ⟨(List.replicate (room l.length) feIntS).map told, ?_⟩
  unfold padIntSS
  rw [List.map_append, List.map_map]
  congr 1
  exact (List.map_congr_left (fun q _ => told_peIntS q)).trans (List.map_id l)
theorem szIntSS_l0 (l : List (List Int)) (hl : l.length ≤ 9223372036854775807) (hq : ∀ q ∈ l, q.length ≤ 9223372036854775807) (d : Nat) : ∀ (k i : Nat) (left : Int), i ≤ l.length → l.length - i = d → d < k → 0 ≤ left → left ≤ 1000000 → laws_szIntSS.l0 k l left (i : Int) = some (if (total (l.drop i) : Int) ≤ left then left - total (l.drop i) else -1) := by
  induction d with
  | zero =>
    intro k i left h0 hd hk h1 h2
    obtain ⟨k, rfl⟩ : ∃ m, k = m + 1 := ⟨k - 1, by omega⟩
    have e : l.drop i = [] := List.drop_eq_nil_of_le (by omega)
    simp only [laws_szIntSS.l0]; rw [if_neg (by omega), e, if_pos (by simpa [total] using h1)]
    simp [total]
  | succ d ih =>
    intro k i left h0 hd hk h1 h2
    obtain ⟨k, rfl⟩ : ∃ m, k = m + 1 := ⟨k - 1, by omega⟩
    have hi : i < l.length := by omega
    have hr : rd_L1 l (i : Int) = l[i] := by simp [rd_L1, hi]
    have hb := hq _ (List.getElem_mem hi)
    have ht := total_drop l i hi
    have hw : wrap64 (left - (l[i].length : Int)) = left - (l[i].length : Int) := by unfold wrap64; omega
    simp only [laws_szIntSS.l0]; rw [if_pos (by omega), if_pos (by omega), hr]
    unfold laws_szIntS.f
    rw [hw, show wrap64 ((i : Int) + 1) = ((i + 1 : Nat) : Int) by unfold wrap64; omega]
    by_cases hc : left - (l[i].length : Int) < 0
    · rw [if_pos hc, Option.bind_some, if_pos (by omega), if_neg (by rw [ht]; omega)]
    · rw [if_neg hc, Option.bind_some, if_neg hc, ih k (i + 1) _ (by omega) (by omega) (by omega) (by omega) (by omega), ht]
      by_cases hx : (total (l.drop (i + 1)) : Int) ≤ left - (l[i].length : Int)
      · rw [if_pos hx, if_pos (by omega)]; congr 1; omega
      · rw [if_neg hx, if_neg (by omega)]
theorem szIntSS_eq (l : List (List Int)) (hl : l.length ≤ 9223372036854775807) (hq : ∀ q ∈ l, q.length ≤ 9223372036854775807) (left : Int) (h1 : 0 ≤ left) (h2 : left ≤ 1000000) : ∃ k, laws_szIntSS.f k l left = some (if (l.length : Int) + (total l : Int) ≤ left then left - ((l.length : Int) + (total l : Int)) else -1) := by
  refine ⟨l.length + 1, ?_⟩
  unfold laws_szIntSS.f
  have hw : wrap64 (left - (l.length : Int)) = left - (l.length : Int) := by unfold wrap64; omega
  rw [hw]
  by_cases hc : left - (l.length : Int) < 0
  · rw [if_pos hc, if_neg (by omega)]
  · rw [if_neg hc]
    have h := szIntSS_l0 l hl hq l.length (l.length + 1) 0 (left - (l.length : Int)) (by omega) (by omega) (by omega) (by omega) (by omega)
    rw [List.drop_zero] at h
    simp only [Int.natCast_zero] at h
    refine h.trans ?_
    by_cases hx : (total l : Int) ≤ left - (l.length : Int)
    · rw [if_pos hx, if_pos (by omega)]; congr 1; omega
    · rw [if_neg hx, if_neg (by omega)]
theorem szIntSS_eq2 (l : List (List Int)) (hl : l.length ≤ 4611686018427387904) (hq : ∀ q ∈ l, q.length ≤ 9223372036854775807) (left : Int) (h1 : -4611686018427387904 ≤ left) (h2 : left ≤ 1000000) : ∃ k, laws_szIntSS.f k l left = some (if (l.length : Int) + (total l : Int) ≤ left then left - ((l.length : Int) + (total l : Int)) else -1) := by
  by_cases h0 : 0 ≤ left
  · exact szIntSS_eq l (by omega) hq left h0 h2
  · refine ⟨0, ?_⟩
    unfold laws_szIntSS.f
    rw [if_pos (by unfold wrap64; omega), if_neg (by omega)]
theorem eqIntSS_loop (l : List (List Int)) (hn : l.length ≤ 1000000000) (hq : ∀ q ∈ l, q.length ≤ 9223372036854775807) (K : Nat) (hK : ∀ q ∈ l, q.length < K) (d : Nat) : ∀ (k : Nat) (i : Nat), i ≤ l.length → l.length - i = d → d + K < k → laws_eqIntSS.l0 k l l (i : Int) = some true := by
  induction d with
  | zero =>
    intro k i h0 hd hk
    obtain ⟨k, rfl⟩ : ∃ m, k = m + 1 := ⟨k - 1, by omega⟩
    simp only [laws_eqIntSS.l0]; rw [if_neg (by omega)]
  | succ d ih =>
    intro k i h0 hd hk
    obtain ⟨k, rfl⟩ : ∃ m, k = m + 1 := ⟨k - 1, by omega⟩
    have hi : i < l.length := by omega
    have hr : rd_L1 l (i : Int) = l[i] := by simp [rd_L1, hi]
    have hk2 : laws_eqIntS.f k l[i] l[i] = some true := at_rounds (g := fun k => laws_eqIntS.f k l[i] l[i]) (fun k => laws_eqIntS.mono _ _ k) (by have := hK _ (List.getElem_mem hi); omega) (eqIntS_self l[i] (hq _ (List.getElem_mem hi)))
    simp only [laws_eqIntSS.l0]; rw [if_pos (by omega), if_pos (by omega), if_pos (by omega), hr, hk2, Option.bind_some, if_pos rfl, show wrap64 ((i : Int) + 1) = ((i + 1 : Nat) : Int) by unfold wrap64; omega]
    exact ih k (i + 1) (by omega) (by omega) (by omega)
theorem eqIntSS_self (l : List (List Int)) (hn : l.length ≤ 1000000000) (hq : ∀ q ∈ l, q.length ≤ 9223372036854775807) : ∃ k, laws_eqIntSS.f k l l = some true := by
  obtain ⟨K, hK⟩ := lens_bound l
  refine ⟨l.length + K + 1, ?_⟩
  unfold laws_eqIntSS.f
  rw [if_pos rfl]
  exact eqIntSS_loop l hn hq K hK l.length (l.length + K + 1) 0 (by omega) (by omega) (by omega)
set_option maxHeartbeats 4000000 in
set_option maxRecDepth 100000 in
theorem intactIntS_padG (A0 A1 : Option Addr) (c0 c1 n : Nat) (p : List Int) (w : World) (h1 : Kd.C (Kd.int .i64) w A0 p.length p) (hc0 : p.length ≤ c0) (h2 : Kd.C (Kd.int .i64) w A1 p.length p) (hc1 : p.length ≤ c1) (hpl : p.length = n + room n) (hl : n ≤ 1000000) :
    Calls Try.prog 19 #[.slice A0 n c0, .slice A1 n c1] w fun e w' => e = .returned (.bool true) ∧ Drawn0 w w' := by
  have H1 := Aside0.mk h1
  have H2 := Aside0.mk h2
  have HC0 := Aside0.mk hc0
  have HC1 := Aside0.mk hc1
  have hm := Aside0.mk (roomBehind_eq n)
  have hmb := room_le n
  have HE := Aside0.mk (eqIntS_self p (by omega))
  obtain ⟨m, hmm⟩ : ∃ m, room n = m := ⟨_, rfl⟩
  rw [hmm] at hm hmb hpl
  have hFw : (IntKind.i64.wrap ((n : Int) + (m : Int))) = (p.length : Int) := by rw [i64_w]; unfold wrap64; omega
  have HL := Aside0.mk hpl
  clear h1 h2 hpl hmm hmb
  obtain ⟨i0, hi0, _, hsz, _⟩ := info_parts info3
  have hc1 := cut_room (P := Try.prog) 22 3 .i64 Try.underlying22 hi0 A0 n c0 (p.length : Int) (by omega) (by have := HC0.out; omega)
  have hc2 := cut_room (P := Try.prog) 22 3 .i64 Try.underlying22 hi0 A1 n c1 (p.length : Int) (by omega) (by have := HC1.out; omega)
  simp only [Int.toNat_natCast] at hc1 hc2
  clear hi0 hsz
  go_enter Try.func19, Try.ntmps19
  go_wp2_with (first | ((with_reducible refine gate_callee (f := 56) rfl ?_); refine goesL_ (some 10) rfl rfl Try.func56 (by kernel_rfl) rfl #[.int .i64 (n : Int)] rfl (by (try simp only [List.map_toArray, List.map_cons, List.map_nil]); first | done | rfl) ?_; (with_reducible refine (laws_roomBehind.calls (n : Int) (m : Int) _ hm.out).mono ?_); rintro e w' ⟨rfl, ⟨nd, rfl⟩⟩; refine ⟨_, rfl, ?_⟩) | (go_at_call 18; (with_reducible refine (laws_eqIntS.calls (p.length + 1) _ _ p _ _ p true _ ?side1 ?side2 ?side3 ?side4 HE.out).mono ?_); (case side1 => repeat (first | exact H1.out | (with_reducible refine Kd.C_alloc ?_ _) | (with_reducible refine Kd.C_drewN ?_ _) | (with_reducible refine Kd.C_drew ?_))); (case side2 => exact HC0.out); (case side3 => repeat (first | exact H2.out | (with_reducible refine Kd.C_alloc ?_ _) | (with_reducible refine Kd.C_drewN ?_ _) | (with_reducible refine Kd.C_drew ?_))); (case side4 => exact HC1.out); rintro e w' ⟨rfl, ⟨nd, rfl⟩⟩))
  have hbb : ((n : Int) == (n : Int)) = true := by simp
  go_quiet ((go_at_call 18; (with_reducible refine (laws_eqIntS.calls (p.length + 1) _ _ p _ _ p true _ ?side1 ?side2 ?side3 ?side4 HE.out).mono ?_); (case side1 => repeat (first | exact H1.out | (with_reducible refine Kd.C_alloc ?_ _) | (with_reducible refine Kd.C_drewN ?_ _) | (with_reducible refine Kd.C_drew ?_))); (case side2 => exact HC0.out); (case side3 => repeat (first | exact H2.out | (with_reducible refine Kd.C_alloc ?_ _) | (with_reducible refine Kd.C_drewN ?_ _) | (with_reducible refine Kd.C_drew ?_))); (case side4 => exact HC1.out); rintro e w' ⟨rfl, ⟨nd, rfl⟩⟩; (try first | exact ⟨rfl, _, World.drewN_drewN _ _ _⟩ | exact ⟨rfl, _, Eq.trans (World.drewN_drewN _ _ _) (congrArg (World.drewN _) (Nat.add_assoc _ _ _))⟩)))
  go_wp2
  go_ret
  exact ⟨by first | rfl | (simp; done), by repeat (first | exact Drawn0.refl _ | apply Drawn0.step)⟩
theorem cut_mid_room {P : Program} (t e : TypeId) (kl kh : IntKind) {i : TypeInfo} (ht : P.underlying t = some (.slice e)) (hi : P.info? e = some i) (size : Nat) (hsz : i.size = size) (A : Option Addr) (n c : Nat) (lo hi' : Int) (h0 : 0 ≤ lo) (h1 : lo ≤ hi') (h2 : hi' ≤ c) :
    ∀ W : World, (Instr.slice t (.slice A n c) (some (.int kl lo)) (some (.int kh hi')) none).run P W = .ok (.slice (if c = lo.toNat then A else A.map (·.add (lo.toNat * size))) (hi'.toNat - lo.toNat) (c - lo.toNat)) W := by
  intro W
  have hel : P.elem t = e := by simp [Program.elem, ht]
  have hu : P.underlying t = some (.slice (P.elem t)) := by rw [hel]; exact ht
  rw [run_slice_lh W t A n c hu kl kh lo hi' h0 h1 h2, hel]
  simp [sizeOf, typeInfo, hi, hsz, sliced, Result.andThen]
/-- An element of a row of rows with their room. -/
theorem at_kPad {α : Type} {e : Nat} {d : Kd α} {w : World} {A : Option Addr} {n : Nat} {xs : List (Nat × List α)} (h : Kd.C (kPad e d) w A n xs) (i : Int) (h0 : 0 ≤ i) (h1 : i < n) : ∃ ad A0 c0 y, A = some ad ∧ xs[i.toNat]? = some y ∧ w.cell? (ad.add i.toNat) = some (.slice A0 y.1 c0) ∧ y.1 ≤ y.2.length ∧ y.2.length ≤ c0 ∧ Kd.C d w A0 y.2.length y.2 := by
  have hl := h.1
  obtain ⟨ad, e_, hc⟩ := h.2.2 (by omega)
  have hi : i.toNat < xs.length := by omega
  obtain ⟨c, _, hK, hcell⟩ := hc i.toNat _ (List.getElem?_eq_getElem hi)
  obtain ⟨A0, c0, rfl, h2, h3, h4⟩ := hK
  have h5 : ∀ j u, [Value.slice A0 xs[i.toNat].1 c0][j]? = some u → w.cell? (ad.add (i.toNat * 1 + j)) = some u := hcell
  have h6 := h5 0 _ rfl
  rw [Nat.mul_one, Nat.add_zero] at h6
  exact ⟨ad, A0, c0, _, e_, List.getElem?_eq_getElem hi, h6, h2, h3, h4⟩
set_option maxHeartbeats 8000000 in
set_option maxRecDepth 100000 in
theorem intactIntSS_pad (ke : Nat) (A0 A1 : Option Addr) (c0 c1 n : Nat) (p : List (Nat × List Int)) (w : World) (hr0 : Kd.C (kPad 3 (Kd.int .i64)) w A0 p.length p) (hc0 : p.length ≤ c0) (hr1 : Kd.C (kPad 3 (Kd.int .i64)) w A1 p.length p) (hc1 : p.length ≤ c1) (hp : p.length = n + room n) (hn : n ≤ 1000000) (hin : ∀ x ∈ p.take n, x.2.length = x.1 + room x.1 ∧ x.1 ≤ 1000000) (he : laws_eqIntSS.f ke ((p.drop n).map told) ((p.drop n).map told) = some true) :
    Calls Try.prog 41 #[.slice A0 n c0, .slice A1 n c1] w fun e w' => e = .returned (.bool true) ∧ Drawn0 w w' := by
  have hm := Aside0.mk (roomBehind_eq n)
  have hmb := room_le n
  have H0 := Aside0.mk hr0
  have H1 := Aside0.mk hr1
  have HC0 := Aside0.mk hc0
  have HC1 := Aside0.mk hc1
  have HIN := Aside0.mk hin
  have HE := Aside0.mk he
  have HN := Aside0.mk hn
  obtain ⟨m, hmm⟩ : ∃ m, room n = m := ⟨_, rfl⟩
  rw [hmm] at hm hmb hp
  have HP := Aside0.mk hp
  have hFw : (IntKind.i64.wrap ((n : Int) + (m : Int))) = (p.length : Int) := by rw [i64_w]; unfold wrap64; omega
  have hFw2 : wrap64 ((n : Int) + (m : Int)) = (p.length : Int) := by unfold wrap64; omega
  have c4b0 : ((n : Int) == (n : Int)) = true := by simp
  have c4b1 : ((n : Int) != (n : Int)) = false := by simp
  have c4b2 : (n == n) = true := by simp
  clear hr0 hr1 hc0 hc1 hin he hn hp hmm hmb
  go_enter Try.func41, Try.ntmps41
  go_wp2_with (first | (go_at_call 56; (with_reducible refine (laws_roomBehind.calls (n : Int) (m : Int) _ hm.out).mono ?_); rintro e w' ⟨rfl, ⟨nd, rfl⟩⟩; (try first | exact ⟨rfl, _, World.drewN_drewN _ _ _⟩ | exact ⟨rfl, _, Eq.trans (World.drewN_drewN _ _ _) (congrArg (World.drewN _) (Nat.add_assoc _ _ _))⟩)))
  go_loopg [6] (n + 1) (fun kq v6 w' => ∃ x : Int, v6 = .int .i64 x ∧ Aside0 (0 ≤ x ∧ x ≤ n ∧ x + kq = n + 1) ∧ Drawn0 w w')
  case atStart => exact ⟨0, rfl, ⟨by omega⟩, by repeat (first | exact Drawn0.refl _ | apply Drawn0.step)⟩
  case round =>
    clear c4b0 c4b1 c4b2
    obtain ⟨x, rfl, HI, ⟨m1, rfl⟩⟩ := hrel
    cases gk with
    | zero => exact absurd HI.out (by omega)
    | succ k1 =>
      by_cases hlt : x < (n : Int)
      · have cc1 : decide (x < (n : Int)) = true := decide_eq_true hlt
        have cc2 : decide (0 ≤ x) = true := decide_eq_true HI.out.1
        have hpl : x < (p.length : Int) := by have := HP.out; omega
        obtain ⟨ad0, B0, b0, y0, e0, g0, hx0, hy0, hz0, hC0⟩ := at_kPad H0.out x HI.out.1 hpl
        obtain ⟨ad1, B1, b1, y1, e1, g1, hx1, hy1, hz1, hC1⟩ := at_kPad H1.out x HI.out.1 hpl
        obtain rfl : y0 = y1 := Option.some.inj (g0.symm.trans g1)
        have hmem : y0 ∈ p.take n := by
          refine List.mem_iff_getElem?.2 ⟨x.toNat, ?_⟩
          rw [List.getElem?_take_of_lt (by have := HI.out; omega)]
          exact g0
        have HY := Aside0.mk (HIN.out y0 hmem)
        have D0 := Aside0.mk hC0
        have D1 := Aside0.mk hC1
        have Z0 := Aside0.mk hz0
        have Z1 := Aside0.mk hz1
        cases e0
        cases e1
        have p2 := eq_true HI.out.1
        have p3 := eq_true hlt
        clear g0 g1 hy0 hy1 hz0 hz1 hC0 hC1 hmem hlt hpl
        go_wp2_with (first | (go_at_call 19; (with_reducible refine (intactIntS_padG _ _ _ _ y0.1 y0.2 _ ?side1 ?side2 ?side3 ?side4 HY.out.1 HY.out.2).mono ?_); (case side1 => repeat (first | exact D0.out | (with_reducible refine Kd.C_alloc ?_ _) | (with_reducible refine Kd.C_drewN ?_ _) | (with_reducible refine Kd.C_drew ?_))); (case side2 => exact Z0.out); (case side3 => repeat (first | exact D1.out | (with_reducible refine Kd.C_alloc ?_ _) | (with_reducible refine Kd.C_drewN ?_ _) | (with_reducible refine Kd.C_drew ?_))); (case side4 => exact Z1.out); rintro e w' ⟨rfl, ⟨nd, rfl⟩⟩; (try first | exact ⟨rfl, _, World.drewN_drewN _ _ _⟩ | exact ⟨rfl, _, Eq.trans (World.drewN_drewN _ _ _) (congrArg (World.drewN _) (Nat.add_assoc _ _ _))⟩)))
        repeat (go_quiet (first | (go_at_call 19; (with_reducible refine (intactIntS_padG _ _ _ _ y0.1 y0.2 _ ?side1 ?side2 ?side3 ?side4 HY.out.1 HY.out.2).mono ?_); (case side1 => repeat (first | exact D0.out | (with_reducible refine Kd.C_alloc ?_ _) | (with_reducible refine Kd.C_drewN ?_ _) | (with_reducible refine Kd.C_drew ?_))); (case side2 => exact Z0.out); (case side3 => repeat (first | exact D1.out | (with_reducible refine Kd.C_alloc ?_ _) | (with_reducible refine Kd.C_drewN ?_ _) | (with_reducible refine Kd.C_drew ?_))); (case side4 => exact Z1.out); rintro e w' ⟨rfl, ⟨nd, rfl⟩⟩; (try first | exact ⟨rfl, _, World.drewN_drewN _ _ _⟩ | exact ⟨rfl, _, Eq.trans (World.drewN_drewN _ _ _) (congrArg (World.drewN _) (Nat.add_assoc _ _ _))⟩))); try go_wp2_with (first | (go_at_call 19; (with_reducible refine (intactIntS_padG _ _ _ _ y0.1 y0.2 _ ?side1 ?side2 ?side3 ?side4 HY.out.1 HY.out.2).mono ?_); (case side1 => repeat (first | exact D0.out | (with_reducible refine Kd.C_alloc ?_ _) | (with_reducible refine Kd.C_drewN ?_ _) | (with_reducible refine Kd.C_drew ?_))); (case side2 => exact Z0.out); (case side3 => repeat (first | exact D1.out | (with_reducible refine Kd.C_alloc ?_ _) | (with_reducible refine Kd.C_drewN ?_ _) | (with_reducible refine Kd.C_drew ?_))); (case side4 => exact Z1.out); rintro e w' ⟨rfl, ⟨nd, rfl⟩⟩; (try first | exact ⟨rfl, _, World.drewN_drewN _ _ _⟩ | exact ⟨rfl, _, Eq.trans (World.drewN_drewN _ _ _) (congrArg (World.drewN _) (Nat.add_assoc _ _ _))⟩))))
        go_roundg k1
        case measure => omega
        case rel => exact ⟨x + 1, by have := HI.out; have := HN.out; rw [show wrap64 (x + 1) = x + 1 by unfold wrap64; omega], ⟨by have := HI.out; have := of_eq_true p3; omega⟩, by repeat (first | exact Drawn0.refl _ | apply Drawn0.step)⟩
      · have cc1 : decide (x < (n : Int)) = false := decide_eq_false hlt
        have hq : (n : Int) ≤ (p.length : Int) := by have := HP.out; omega
        have q1 := eq_true hq
        have q2 := eq_true (show (0 : Int) ≤ (n : Int) by omega)
        obtain ⟨i0, hi0, _, hsz, _⟩ := info_parts info22
        have hcut0 := cut_mid_room (P := Try.prog) 40 22 .i64 .i64 Try.underlying40 hi0 1 hsz A0 n c0 (n : Int) (p.length : Int) (by omega) hq (by have := HC0.out; omega)
        have hcut1 := cut_mid_room (P := Try.prog) 40 22 .i64 .i64 Try.underlying40 hi0 1 hsz A1 n c1 (n : Int) (p.length : Int) (by omega) hq (by have := HC1.out; omega)
        have hd0 := kPad_C (Kd.C_drop H0.out (show n ≤ p.length by omega) HC0.out)
        have hd1 := kPad_C (Kd.C_drop H1.out (show n ≤ p.length by omega) HC1.out)
        obtain ⟨B0, hB0⟩ : ∃ A, A = (if c0 = (n : Int).toNat then A0 else A0.map (·.add ((n : Int).toNat * 1))) := ⟨_, rfl⟩
        obtain ⟨B1, hB1⟩ : ∃ A, A = (if c1 = (n : Int).toNat then A1 else A1.map (·.add ((n : Int).toNat * 1))) := ⟨_, rfl⟩
        rw [← hB0] at hcut0
        rw [← hB1] at hcut1
        obtain ⟨y, hy⟩ : ∃ y, y = (p.drop n).map told := ⟨_, rfl⟩
        have hyl : y.length = (p.length : Int).toNat - (n : Int).toNat := by rw [hy]; simp
        have he := HE.out
        have hyd : (p.drop n).length = y.length := by rw [hy]; simp
        rw [← hy] at hd0 hd1 he
        rw [hyd] at hd0 hd1
        rw [← hyl] at hcut0 hcut1
        have D0 : Aside0 (Kd.C (Kd.slice 3 (Kd.int .i64)) w B0 y.length y) := ⟨by rw [hB0]; exact hd0⟩
        have D1 : Aside0 (Kd.C (Kd.slice 3 (Kd.int .i64)) w B1 y.length y) := ⟨by rw [hB1]; exact hd1⟩
        have Z0 : Aside0 (y.length ≤ c0 - (n : Int).toNat) := ⟨by have := HC0.out; rw [hyl]; omega⟩
        have Z1 : Aside0 (y.length ≤ c1 - (n : Int).toNat) := ⟨by have := HC1.out; rw [hyl]; omega⟩
        have E1 := Aside0.mk he
        obtain ⟨d0, hd0_⟩ : ∃ d, d = c0 - (n : Int).toNat := ⟨_, rfl⟩
        obtain ⟨d1, hd1_⟩ : ∃ d, d = c1 - (n : Int).toNat := ⟨_, rfl⟩
        rw [← hd0_] at hcut0 Z0
        rw [← hd1_] at hcut1 Z1
        clear hd0 hd1 he hy hyl hyd hB0 hB1 hi0 hsz hlt HE H0 H1 hd0_ hd1_
        go_wp2_with (first | (go_at_call 87; (with_reducible refine (laws_eqIntSS.calls ke _ _ y _ _ y true _ ?side1 ?side2 ?side3 ?side4 E1.out).mono ?_); (case side1 => repeat (first | exact D0.out | (with_reducible refine Kd.C_alloc ?_ _) | (with_reducible refine Kd.C_drewN ?_ _) | (with_reducible refine Kd.C_drew ?_))); (case side2 => exact Z0.out); (case side3 => repeat (first | exact D1.out | (with_reducible refine Kd.C_alloc ?_ _) | (with_reducible refine Kd.C_drewN ?_ _) | (with_reducible refine Kd.C_drew ?_))); (case side4 => exact Z1.out); rintro e w' ⟨rfl, ⟨nd, rfl⟩⟩; (try first | exact ⟨rfl, _, World.drewN_drewN _ _ _⟩ | exact ⟨rfl, _, Eq.trans (World.drewN_drewN _ _ _) (congrArg (World.drewN _) (Nat.add_assoc _ _ _))⟩)))
        repeat (go_quiet (first | (go_at_call 87; (with_reducible refine (laws_eqIntSS.calls ke _ _ y _ _ y true _ ?side1 ?side2 ?side3 ?side4 E1.out).mono ?_); (case side1 => repeat (first | exact D0.out | (with_reducible refine Kd.C_alloc ?_ _) | (with_reducible refine Kd.C_drewN ?_ _) | (with_reducible refine Kd.C_drew ?_))); (case side2 => exact Z0.out); (case side3 => repeat (first | exact D1.out | (with_reducible refine Kd.C_alloc ?_ _) | (with_reducible refine Kd.C_drewN ?_ _) | (with_reducible refine Kd.C_drew ?_))); (case side4 => exact Z1.out); rintro e w' ⟨rfl, ⟨nd, rfl⟩⟩; (try first | exact ⟨rfl, _, World.drewN_drewN _ _ _⟩ | exact ⟨rfl, _, Eq.trans (World.drewN_drewN _ _ _) (congrArg (World.drewN _) (Nat.add_assoc _ _ _))⟩))); try go_wp2_with (first | (go_at_call 87; (with_reducible refine (laws_eqIntSS.calls ke _ _ y _ _ y true _ ?side1 ?side2 ?side3 ?side4 E1.out).mono ?_); (case side1 => repeat (first | exact D0.out | (with_reducible refine Kd.C_alloc ?_ _) | (with_reducible refine Kd.C_drewN ?_ _) | (with_reducible refine Kd.C_drew ?_))); (case side2 => exact Z0.out); (case side3 => repeat (first | exact D1.out | (with_reducible refine Kd.C_alloc ?_ _) | (with_reducible refine Kd.C_drewN ?_ _) | (with_reducible refine Kd.C_drew ?_))); (case side4 => exact Z1.out); rintro e w' ⟨rfl, ⟨nd, rfl⟩⟩; (try first | exact ⟨rfl, _, World.drewN_drewN _ _ _⟩ | exact ⟨rfl, _, Eq.trans (World.drewN_drewN _ _ _) (congrArg (World.drewN _) (Nat.add_assoc _ _ _))⟩))))
        go_ret
        exact ⟨by first | rfl | (simp; done), by repeat (first | exact Drawn0.refl _ | apply Drawn0.step)⟩
theorem padIntSS_eq (l : List (List Int)) (hn : l.length ≤ 1000000) : ∃ k, laws_eqIntSS.f k (((padIntSS l).drop l.length).map told) (((padIntSS l).drop l.length).map told) = some true := by
  have hr := room_le l.length
  refine eqIntSS_self _ (by simp [padIntSS_length]; omega) (fun q hq => ?_)
  obtain ⟨x, hx, rfl⟩ := List.mem_map.1 hq
  have hx2 : x ∈ List.replicate (room l.length) feIntS := by
    unfold padIntSS at hx
    rw [List.drop_append_of_le_length (by simp), List.drop_eq_nil_of_le (by simp), List.nil_append] at hx
    exact hx
  obtain rfl := (List.mem_replicate.1 hx2).2
  decide
theorem padIntSS_in (l : List (List Int)) (hq : ∀ q ∈ l, q.length ≤ 1000000) : ∀ x ∈ (padIntSS l).take l.length, x.2.length = x.1 + room x.1 ∧ x.1 ≤ 1000000 := by
  intro x hx
  unfold padIntSS at hx
  rw [List.take_append_of_le_length (by simp), List.take_of_length_le (by simp)] at hx
  obtain ⟨q, hm, rfl⟩ := List.mem_map.1 hx
  exact ⟨pad_length q, hq q hm⟩
set_option maxHeartbeats 8000000 in
set_option maxRecDepth 100000 in
theorem law_walk (A0 : Option Addr) (c0 : Nat) (l0 : List (List Int)) (a1 : Bool)  (q0 : List (List Int)) (P0 : List (Nat × List Int)) (kw0 kb0 ke0 : Nat)  (w : World) (hr0 : Kd.C (Kd.slice 3 (Kd.int .i64)) w A0 l0.length l0) (hc0 : l0.length ≤ c0)  (hw0 : laws_toIntSSW.f kw0 l0 false = some P0) (hba0 : laws_toIntSS.f kb0 l0 true = some q0) (hql0 : q0.length = l0.length) (hp0 : ∃ f, P0.map told = q0 ++ f) (hpl0 : P0.length = q0.length + room q0.length) (hin0 : ∀ x ∈ P0.take q0.length, x.2.length = x.1 + room x.1 ∧ x.1 ≤ 1000000) (he0 : laws_eqIntSS.f ke0 ((P0.drop q0.length).map told) ((P0.drop q0.length).map told) = some true)   (hn : l0.length + total l0 ≤ 1000000) (ks ki : Nat) (r1 : Int) (r2 : Bool) (hs : spec_VariationsFar.f ks q0 a1 = some (r1, r2)) (hi : impl_VariationsFar.f ki q0 a1 = some (r1, r2)) :
    Calls Try.prog 11 #[.slice A0 l0.length c0, .bool a1] w fun e w' => e = .returned (.bool true) ∧ Below w.heap.size w w' := by
  have HR0 := Aside0.mk hr0
  have HC0 := Aside0.mk hc0
  have hm0 := hr0.2.1
  have hml0 := C_lens hr0
  have HW0 := Aside0.mk hw0
  have HQL0 := Aside0.mk hql0
  have HBA0 := Aside0.mk hba0
  have HP0 := Aside0.mk hp0
  have HPL0 := Aside0.mk hpl0
  have HIN0 := Aside0.mk hin0
  have HQN0 : Aside0 (q0.length ≤ 1000000) := ⟨by omega⟩
  have HE0 := Aside0.mk he0
  obtain ⟨s0, hs0⟩ : ∃ s : Int, s = (1000000 : Int) - (l0.length : Int) - (total l0 : Int) := ⟨_, rfl⟩
  obtain ⟨kz0, hzs0⟩ := szIntSS_eq l0 hm0 hml0 (1000000) (by omega) (by omega)
  rw [if_pos (by omega)] at hzs0
  replace hzs0 : laws_szIntSS.f kz0 l0 1000000 = some s0 := hzs0.trans (congrArg some (by omega))
  have HSZ0 := Aside0.mk hzs0
  have cs0 : decide (s0 < 0) = false := decide_eq_false (by omega)
  have HS := Aside0.mk hs
  have HI := Aside0.mk hi
  have HB := Aside0.mk (Below.refl w.heap.size w)
  have Z := Aside0.mk (Nat.zero_le w.heap.size)
  clear hs hi hr0 hc0 hw0 hba0 hp0 hpl0 hin0 he0 hml0 hs0 hzs0 hql0 hn hm0
  go_enter Try.func11, Try.ntmps11
  go_wp2_with (first
    | ((with_reducible refine gate_callee (f := 37) rfl ?_); refine goesL_ (some 15) rfl rfl Try.func37 (by kernel_rfl) rfl #[.slice A0 l0.length c0, .int .i64 1000000] rfl (by (try simp only [List.map_toArray, List.map_cons, List.map_nil]); first | done | rfl | (simp only [List.length_drop, List.length_take]; rfl)) ?_; (with_reducible refine (laws_szIntSS.calls kz0 _ _ l0 1000000 s0 _ ?side1 ?side2 HSZ0.out).mono ?_); (case side1 => repeat (first | exact HR0.out | exact (Kd.C_below HR0.out (by repeat (first | (with_reducible first | exact HB.out | apply below_alloc | apply pw_below_drewN | apply below_drew1) | exact HB.out))) | (with_reducible refine Kd.C_alloc ?_ _) | (with_reducible refine Kd.C_drewN ?_ _) | (with_reducible refine Kd.C_drew ?_))); (case side2 => exact HC0.out); rintro e w' ⟨rfl, ⟨nd, rfl⟩⟩; refine ⟨_, rfl, ?_⟩)
    | ((with_reducible refine gate_callee (f := 39) rfl ?_); refine goesL_ (some 20) rfl rfl Try.func39 (by kernel_rfl) rfl #[.slice A0 l0.length c0, .bool false] rfl (by (try simp only [List.map_toArray, List.map_cons, List.map_nil]); first | done | rfl | (simp only [List.length_drop, List.length_take]; rfl)) ?_; (with_reducible refine (toIntSS_pad kw0 _ _ l0 q0 P0 _ ?side1 ?side2 HW0.out HQL0.out).mono ?_); (case side1 => repeat (first | exact HR0.out | exact (Kd.C_below HR0.out (by repeat (first | (with_reducible first | exact HB.out | apply below_alloc | apply pw_below_drewN | apply below_drew1) | exact HB.out))) | (with_reducible refine Kd.C_alloc ?_ _) | (with_reducible refine Kd.C_drewN ?_ _) | (with_reducible refine Kd.C_drew ?_))); (case side2 => exact HC0.out); rintro e w1_ ⟨A1_, c1_, rfl, ho0, hb⟩; refine ⟨_, rfl, ?_⟩; obtain ⟨a1_0_, b1_0_, z1_, z2_, zo_, z4_⟩ := madeS (by exact Z.out) (by repeat (first | (with_reducible first | exact HB.out | apply below_alloc | apply pw_below_drewN | apply below_drew1) | exact HB.out)) hb ho0; clear HB Z; have O1_0 := Aside0.mk zo_; have Q1_0 := Aside0.mk z1_; have HB := Aside0.mk z4_; have Z := Aside0.mk z2_; clear z1_ z2_ z4_ zo_ hb ho0)
    | ((with_reducible refine gate_callee (f := 38) rfl ?_); refine goesL_ (some 22) rfl rfl Try.func38 (by kernel_rfl) rfl #[.slice A1_ q0.length c1_, .bool a1] rfl (by (try simp only [List.map_toArray, List.map_cons, List.map_nil]); first | done | rfl | (simp only [List.length_drop, List.length_take]; rfl)) ?_; (with_reducible refine (spec_VariationsFar.calls ks _ _ q0 a1 r1 r2 _ ?side1 ?side2 HS.out).mono ?_); (case side1 => repeat (first | exact padr2 HP0.out O1_0.out | (with_reducible refine Kd.C_alloc ?_ _) | (with_reducible refine Kd.C_drewN ?_ _) | (with_reducible refine Kd.C_drew ?_))); (case side2 => exact padl2 HP0.out (Kd.S_reads' O1_0.out).2.1); rintro e w2_ ⟨rfl, hb⟩; refine ⟨_, rfl, ?_⟩; obtain ⟨z2_, z4_⟩ := still (by exact Z.out) (by repeat (first | (with_reducible first | exact HB.out | apply below_alloc | apply pw_below_drewN | apply below_drew1) | exact HB.out)) hb; have nO1_0_ := Aside0.mk (Kd.S_below (by (with_reducible repeat (first | apply Kd.S_alloc | apply Kd.S_drewN | apply Kd.S_drew)); exact O1_0.out) hb); clear O1_0 HB Z; have O1_0 := nO1_0_; clear nO1_0_; have HB := Aside0.mk z4_; have Z := Aside0.mk z2_; clear z2_ z4_ hb)
    | ((with_reducible refine gate_callee (f := 39) rfl ?_); refine goesL_ (some 26) rfl rfl Try.func39 (by kernel_rfl) rfl #[.slice A0 l0.length c0, .bool false] rfl (by (try simp only [List.map_toArray, List.map_cons, List.map_nil]); first | done | rfl | (simp only [List.length_drop, List.length_take]; rfl)) ?_; (with_reducible refine (toIntSS_pad kw0 _ _ l0 q0 P0 _ ?side1 ?side2 HW0.out HQL0.out).mono ?_); (case side1 => repeat (first | exact HR0.out | exact (Kd.C_below HR0.out (by repeat (first | (with_reducible first | exact HB.out | apply below_alloc | apply pw_below_drewN | apply below_drew1) | exact HB.out))) | (with_reducible refine Kd.C_alloc ?_ _) | (with_reducible refine Kd.C_drewN ?_ _) | (with_reducible refine Kd.C_drew ?_))); (case side2 => exact HC0.out); rintro e w3_ ⟨A3_, c3_, rfl, ho0, hb⟩; refine ⟨_, rfl, ?_⟩; obtain ⟨a3_0_, b3_0_, z1_, z2_, zo_, z4_⟩ := madeS (by exact Z.out) (by repeat (first | (with_reducible first | exact HB.out | apply below_alloc | apply pw_below_drewN | apply below_drew1) | exact HB.out)) hb ho0; have nO1_0_ := Aside0.mk (Kd.S_below (by (with_reducible repeat (first | apply Kd.S_alloc | apply Kd.S_drewN | apply Kd.S_drew)); exact O1_0.out) hb); clear O1_0 HB Z; have O1_0 := nO1_0_; clear nO1_0_; have O3_0 := Aside0.mk zo_; have Q3_0 := Aside0.mk z1_; have HB := Aside0.mk z4_; have Z := Aside0.mk z2_; clear z1_ z2_ z4_ zo_ hb ho0)
    | ((with_reducible refine gate_callee (f := 40) rfl ?_); refine goesL_ (some 30) rfl rfl Try.func40 (by kernel_rfl) rfl #[.slice A3_ q0.length c3_, .bool a1] rfl (by (try simp only [List.map_toArray, List.map_cons, List.map_nil]); first | done | rfl | (simp only [List.length_drop, List.length_take]; rfl)) ?_; (with_reducible refine (impl_VariationsFar.calls ki _ _ q0 a1 r1 r2 _ ?side1 ?side2 HI.out).mono ?_); (case side1 => repeat (first | exact padr2 HP0.out O3_0.out | (with_reducible refine Kd.C_alloc ?_ _) | (with_reducible refine Kd.C_drewN ?_ _) | (with_reducible refine Kd.C_drew ?_))); (case side2 => exact padl2 HP0.out (Kd.S_reads' O3_0.out).2.1); rintro e w4_ ⟨rfl, hb⟩; refine ⟨_, rfl, ?_⟩; obtain ⟨z2_, z4_⟩ := still (by exact Z.out) (by repeat (first | (with_reducible first | exact HB.out | apply below_alloc | apply pw_below_drewN | apply below_drew1) | exact HB.out)) hb; have nO1_0_ := Aside0.mk (Kd.S_below (by (with_reducible repeat (first | apply Kd.S_alloc | apply Kd.S_drewN | apply Kd.S_drew)); exact O1_0.out) hb); have nO3_0_ := Aside0.mk (Kd.S_below (by (with_reducible repeat (first | apply Kd.S_alloc | apply Kd.S_drewN | apply Kd.S_drew)); exact O3_0.out) hb); clear O1_0 O3_0 HB Z; have O1_0 := nO1_0_; have O3_0 := nO3_0_; clear nO1_0_ nO3_0_; have HB := Aside0.mk z4_; have Z := Aside0.mk z2_; clear z2_ z4_ hb)
    | ((with_reducible refine gate_callee (f := 39) rfl ?_); refine goesL_ (some 43) rfl rfl Try.func39 (by kernel_rfl) rfl #[.slice A0 l0.length c0, .bool false] rfl (by (try simp only [List.map_toArray, List.map_cons, List.map_nil]); first | done | rfl | (simp only [List.length_drop, List.length_take]; rfl)) ?_; (with_reducible refine (toIntSS_pad kw0 _ _ l0 q0 P0 _ ?side1 ?side2 HW0.out HQL0.out).mono ?_); (case side1 => repeat (first | exact HR0.out | exact (Kd.C_below HR0.out (by repeat (first | (with_reducible first | exact HB.out | apply below_alloc | apply pw_below_drewN | apply below_drew1) | exact HB.out))) | (with_reducible refine Kd.C_alloc ?_ _) | (with_reducible refine Kd.C_drewN ?_ _) | (with_reducible refine Kd.C_drew ?_))); (case side2 => exact HC0.out); rintro e w5_ ⟨A5_, c5_, rfl, ho0, hb⟩; refine ⟨_, rfl, ?_⟩; obtain ⟨a5_0_, b5_0_, z1_, z2_, zo_, z4_⟩ := madeS (by exact Z.out) (by repeat (first | (with_reducible first | exact HB.out | apply below_alloc | apply pw_below_drewN | apply below_drew1) | exact HB.out)) hb ho0; have nO1_0_ := Aside0.mk (Kd.S_below (by (with_reducible repeat (first | apply Kd.S_alloc | apply Kd.S_drewN | apply Kd.S_drew)); exact O1_0.out) hb); have nO3_0_ := Aside0.mk (Kd.S_below (by (with_reducible repeat (first | apply Kd.S_alloc | apply Kd.S_drewN | apply Kd.S_drew)); exact O3_0.out) hb); clear O1_0 O3_0 HB Z; have O1_0 := nO1_0_; have O3_0 := nO3_0_; clear nO1_0_ nO3_0_; have O5_0 := Aside0.mk zo_; have Q5_0 := Aside0.mk z1_; have HB := Aside0.mk z4_; have Z := Aside0.mk z2_; clear z1_ z2_ z4_ zo_ hb ho0)
    | ((with_reducible refine gate_callee (f := 41) rfl ?_); refine goesL_ (some 44) rfl rfl Try.func41 (by kernel_rfl) rfl #[.slice A3_ q0.length c3_, .slice A5_ q0.length c5_] rfl (by (try simp only [List.map_toArray, List.map_cons, List.map_nil]); first | done | rfl | (simp only [List.length_drop, List.length_take]; rfl)) ?_; (with_reducible refine (intactIntSS_pad ke0 _ _ _ _ q0.length P0 _ ?side1 ?side2 ?side3 ?side4 HPL0.out HQN0.out HIN0.out HE0.out).mono ?_); (case side1 => repeat (first | exact (Kd.S_reads' O3_0.out).2.2 | (with_reducible refine Kd.C_alloc ?_ _) | (with_reducible refine Kd.C_drewN ?_ _) | (with_reducible refine Kd.C_drew ?_))); (case side2 => exact (Kd.S_reads' O3_0.out).2.1); (case side3 => repeat (first | exact (Kd.S_reads' O5_0.out).2.2 | (with_reducible refine Kd.C_alloc ?_ _) | (with_reducible refine Kd.C_drewN ?_ _) | (with_reducible refine Kd.C_drew ?_))); (case side4 => exact (Kd.S_reads' O5_0.out).2.1); rintro e w' ⟨rfl, ⟨nd, rfl⟩⟩; refine ⟨_, rfl, ?_⟩)
    | ((with_reducible refine gate_callee (f := 39) rfl ?_); refine goesL_ (some 48) rfl rfl Try.func39 (by kernel_rfl) rfl #[.slice A0 l0.length c0, .bool true] rfl (by (try simp only [List.map_toArray, List.map_cons, List.map_nil]); first | done | rfl | (simp only [List.length_drop, List.length_take]; rfl)) ?_; (with_reducible refine (laws_toIntSS.calls kb0 _ _ l0 true q0 _ ?side1 ?side2 HBA0.out).mono ?_); (case side1 => repeat (first | exact HR0.out | exact (Kd.C_below HR0.out (by repeat (first | (with_reducible first | exact HB.out | apply below_alloc | apply pw_below_drewN | apply below_drew1) | exact HB.out))) | (with_reducible refine Kd.C_alloc ?_ _) | (with_reducible refine Kd.C_drewN ?_ _) | (with_reducible refine Kd.C_drew ?_))); (case side2 => exact HC0.out); rintro e w6_ ⟨v6_, rfl, ho0, hb⟩; refine ⟨_, rfl, ?_⟩; obtain ⟨a6_0_, b6_0_, z1_, z2_, zo_, z4_⟩ := madeS (by exact Z.out) (by repeat (first | (with_reducible first | exact HB.out | apply below_alloc | apply pw_below_drewN | apply below_drew1) | exact HB.out)) hb ho0; have nO1_0_ := Aside0.mk (Kd.S_below (by (with_reducible repeat (first | apply Kd.S_alloc | apply Kd.S_drewN | apply Kd.S_drew)); exact O1_0.out) hb); have nO3_0_ := Aside0.mk (Kd.S_below (by (with_reducible repeat (first | apply Kd.S_alloc | apply Kd.S_drewN | apply Kd.S_drew)); exact O3_0.out) hb); have nO5_0_ := Aside0.mk (Kd.S_below (by (with_reducible repeat (first | apply Kd.S_alloc | apply Kd.S_drewN | apply Kd.S_drew)); exact O5_0.out) hb); clear O1_0 O3_0 O5_0 HB Z; have O1_0 := nO1_0_; have O3_0 := nO3_0_; have O5_0 := nO5_0_; clear nO1_0_ nO3_0_ nO5_0_; have O6_0 := Aside0.mk zo_; have Q6_0 := Aside0.mk z1_; have HB := Aside0.mk z4_; have Z := Aside0.mk z2_; clear z1_ z2_ z4_ zo_ hb ho0; obtain ⟨A6_, c6_, e6_⟩ := Kd.S_slice O6_0.out; subst e6_)
    | ((with_reducible refine gate_callee (f := 40) rfl ?_); refine goesL_ (some 50) rfl rfl Try.func40 (by kernel_rfl) rfl #[.slice A6_ q0.length c6_, .bool a1] rfl (by (try simp only [List.map_toArray, List.map_cons, List.map_nil]); first | done | rfl | (simp only [List.length_drop, List.length_take]; rfl)) ?_; (with_reducible refine (impl_VariationsFar.calls ki _ _ q0 a1 r1 r2 _ ?side1 ?side2 HI.out).mono ?_); (case side1 => repeat (first | exact (Kd.S_reads' O6_0.out).2.2 | (with_reducible refine Kd.C_alloc ?_ _) | (with_reducible refine Kd.C_drewN ?_ _) | (with_reducible refine Kd.C_drew ?_))); (case side2 => exact (Kd.S_reads' O6_0.out).2.1); rintro e w7_ ⟨rfl, hb⟩; refine ⟨_, rfl, ?_⟩; obtain ⟨z2_, z4_⟩ := still (by exact Z.out) (by repeat (first | (with_reducible first | exact HB.out | apply below_alloc | apply pw_below_drewN | apply below_drew1) | exact HB.out)) hb; have nO1_0_ := Aside0.mk (Kd.S_below (by (with_reducible repeat (first | apply Kd.S_alloc | apply Kd.S_drewN | apply Kd.S_drew)); exact O1_0.out) hb); have nO3_0_ := Aside0.mk (Kd.S_below (by (with_reducible repeat (first | apply Kd.S_alloc | apply Kd.S_drewN | apply Kd.S_drew)); exact O3_0.out) hb); have nO5_0_ := Aside0.mk (Kd.S_below (by (with_reducible repeat (first | apply Kd.S_alloc | apply Kd.S_drewN | apply Kd.S_drew)); exact O5_0.out) hb); have nO6_0_ := Aside0.mk (Kd.S_below (by (with_reducible repeat (first | apply Kd.S_alloc | apply Kd.S_drewN | apply Kd.S_drew)); exact O6_0.out) hb); clear O1_0 O3_0 O5_0 O6_0 HB Z; have O1_0 := nO1_0_; have O3_0 := nO3_0_; have O5_0 := nO5_0_; have O6_0 := nO6_0_; clear nO1_0_ nO3_0_ nO5_0_ nO6_0_; have HB := Aside0.mk z4_; have Z := Aside0.mk z2_; clear z2_ z4_ hb))
  go_ret
  exact ⟨by first | rfl | (simp; done), by repeat (first | (with_reducible first | exact HB.out | apply below_alloc | apply pw_below_drewN | apply below_drew1) | exact HB.out)⟩
set_option maxHeartbeats 8000000 in
set_option maxRecDepth 100000 in
theorem law_big0 (A0 : Option Addr) (c0 : Nat) (l0 : List (List Int)) (a1 : Bool) (w : World) (hr0 : Kd.C (Kd.slice 3 (Kd.int .i64)) w A0 l0.length l0) (hc0 : l0.length ≤ c0) (hn : ¬ l0.length + total l0 ≤ 1000000) :
    Calls Try.prog 11 #[.slice A0 l0.length c0, .bool a1] w fun e w' => e = .returned (.bool true) ∧ Below w.heap.size w w' := by
  have HR0 := Aside0.mk hr0; have HC0 := Aside0.mk hc0; have hm0 := hr0.2.1; have hml0 := C_lens hr0
  obtain ⟨s0, hs0⟩ : ∃ s : Int, s = (-1) := ⟨_, rfl⟩
  obtain ⟨kz0, hzs0⟩ := szIntSS_eq l0 hm0 hml0 (1000000) (by omega) (by omega)
  rw [if_neg (by omega)] at hzs0
  replace hzs0 : laws_szIntSS.f kz0 l0 1000000 = some s0 := hzs0.trans (congrArg some (by omega))
  have HSZ0 := Aside0.mk hzs0
  have cs0 : decide (s0 < 0) = true := decide_eq_true (by omega)
  have HB := Aside0.mk (Below.refl w.heap.size w)
  have Z := Aside0.mk (Nat.zero_le w.heap.size)
  clear hn hr0 hc0 hm0 hml0 hs0 hzs0
  go_enter Try.func11, Try.ntmps11
  go_wp2_with (first
    | ((with_reducible refine gate_callee (f := 37) rfl ?_); refine goesL_ (some 15) rfl rfl Try.func37 (by kernel_rfl) rfl #[.slice A0 l0.length c0, .int .i64 1000000] rfl (by (try simp only [List.map_toArray, List.map_cons, List.map_nil]); first | done | rfl | (simp only [List.length_drop, List.length_take]; rfl)) ?_; (with_reducible refine (laws_szIntSS.calls kz0 _ _ l0 1000000 s0 _ ?side1 ?side2 HSZ0.out).mono ?_); (case side1 => repeat (first | exact HR0.out | exact (Kd.C_below HR0.out (by repeat (first | (with_reducible first | exact HB.out | apply below_alloc | apply pw_below_drewN | apply below_drew1) | exact HB.out))) | (with_reducible refine Kd.C_alloc ?_ _) | (with_reducible refine Kd.C_drewN ?_ _) | (with_reducible refine Kd.C_drew ?_))); (case side2 => exact HC0.out); rintro e w' ⟨rfl, ⟨nd, rfl⟩⟩; refine ⟨_, rfl, ?_⟩))
  go_ret
  exact ⟨by first | rfl | (simp; done), by repeat (first | (with_reducible first | exact HB.out | apply below_alloc | apply pw_below_drewN | apply below_drew1) | exact HB.out)⟩
/-- What is left to show, over numbers and lists alone. -/
def Pure : Prop := ∀ (l0 : List (List Int)) (a1 : Bool), l0.length + total l0 ≤ 1000000 → ∃ (ks ki : Nat) (r1 : Int) (r2 : Bool), spec_VariationsFar.f ks l0 a1 = some (r1, r2) ∧ impl_VariationsFar.f ki l0 a1 = some (r1, r2)
theorem law_holds (P_ : Pure) (A0 : Option Addr) (c0 : Nat) (l0 : List (List Int)) (a1 : Bool) (w : World) (hr0 : Kd.C (Kd.slice 3 (Kd.int .i64)) w A0 l0.length l0) (hc0 : l0.length ≤ c0) :
    Calls Try.prog 11 #[.slice A0 l0.length c0, .bool a1] w fun e w' => e = .returned (.bool true) ∧ Below w.heap.size w w' := by
  by_cases hn0 : l0.length + total l0 ≤ 1000000
  case neg => exact law_big0 A0 c0 l0 a1 w hr0 hc0 hn0
  have hn := hn0
  obtain ⟨ks, ki, r1, r2, hs, hi⟩ := P_ l0 a1 (by omega)
  have hl0 : ∀ q ∈ l0, q.length ≤ 1000000 := fun q hq => by have := total_le l0 q hq; omega
  obtain ⟨kw0, hw0⟩ := toIntSS_whole l0 (by omega) hl0
  obtain ⟨kb0, hba0⟩ := toIntSS_bare l0 (by omega) hl0
  have hrm0 := room_le l0.length
  obtain ⟨ke0, he0⟩ := padIntSS_eq l0 (by omega)
  exact law_walk A0 c0 l0 a1 l0 (padIntSS l0) kw0 kb0 ke0  w hr0 hc0 hw0 hba0 (by first | rfl | simp) (padIntSS_told l0) (by simp [padIntSS_length]) (by first | exact padIntSS_in l0 hl0 | (rw [List.length_map]; exact padIntSS_in l0 hl0)) (by first | exact he0 | (rw [List.length_map]; exact he0))   (by omega) ks ki r1 r2 hs hi
end Go.Proofs.Ytolacpnhndbalaa.QVar
