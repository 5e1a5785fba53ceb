/- The walk of the law FnExactSingleOf: what its calls come to. -/
import Derived.Test.YtolacpnhndbalaaQSingleOfx
namespace Go.Proofs.Ytolacpnhndbalaa.QSingleOf
open Go.RowKit Go.Proofs.YtolacpnhndbalaaW.PrintWords Go.Proofs.YtolacpnhndbalaaW.PrintLast Go.Proofs.YtolacpnhndbalaaW.PrintMore
set_option linter.unusedVariables false
set_option linter.unusedSimpArgs false
section
variable {P : Program} {ops : Array Oper} {rest : List Oper} {o : Oper} {a : Act} {Q : Exit → Act → World → Prop} {α : Type}
theorem lit_whole (d : Kd α) {w0 W : World} (base e : Nat) (hgd : o.guard = none) {N : Tmp} (hd : o.dst = some N) {xs : List α} {inner : List Value} {ok okp : Nat → Prop}
    (hrun : (execOp a.eval o).run P W = .ok (.value (.slice (some ⟨W.heap.size, 0, none⟩) xs.length xs.length)) (W.alloc (.cells inner.toArray e)))
    (hrep : Reps (d.M W base okp) d.sz xs inner) (hok : ∀ k, okp k → ok k) (hfresh : ok W.heap.size) (HB : Below base w0 W) (hbase : base ≤ W.heap.size) (hm : xs.length ≤ 9223372036854775807)
    (h : ∀ g w1, d.R e w1 base ok (.slice (some ⟨g, 0, none⟩) xs.length xs.length) xs → Below base w0 w1 → W.grownBy w1 none → base ≤ g → wpList P ops Q rest (a.put o.dst (.slice (some ⟨g, 0, none⟩) xs.length xs.length)) w1) : wpList P ops Q (o :: rest) a W := by
  refine Kd.event_run hgd hrun (h _ _ ⟨fun k hk => ?_, inner, ?_, ?_⟩ (HB.alloc hbase _) (World.grownBy_alloc W _ none) hbase)
  · have : W.heap.size = k := by simpa [Value.ownBlock] using hk
    subst this
    exact hfresh
  · have h2 := World.ownsRow_lit (base := base) (e := e) (size := d.sz) W inner.toArray xs.length hbase (by simpa [maxLen] using hm) (by simpa using hrep.1)
    simpa using h2
  · refine hrep.imp_ (fun p c hp => d.M_mono (fun k hk => ⟨hok k hk.1, fun he => ?_⟩) (Kd.M_below (d.M_bound hp) (below_alloc (Below.refl _ _) _)))
    have h3 : k = W.heap.size := by simpa [Value.ownBlock] using he
    have := hk.2.2.1
    omega
/-- 'make', the row told whole: its capacity is its length. -/
theorem make_whole (d : Kd α) {w0 W : World} (base e : Nat) (hgd : o.guard = none) {N : Tmp} (hd : o.dst = some N) (t : TypeId) (x y : Operand) (ho : o.op = .makeSlice t x y) (n : Int) (hx : a.eval x = .int .i64 n) (hy : a.eval y = .int .i64 n)
    (ht : P.underlying t = some (.slice e)) (z : Value) (bytes : Nat) (hinfo : (P.info? e).map (fun i => (i.zero, i.size, i.bytes)) = some (some z, d.sz, bytes)) (hz : z.cells.size = d.sz) (hs0 : 0 < d.sz) (hb0 : 0 < bytes)
    (z0 : α) {ok okp : Nat → Prop} (hzero : d.M W base okp z0 z.cells.toList) (hok : ∀ k, okp k → ok k) (hfresh : ok W.heap.size) (h0 : 0 ≤ n) (hl : n.toNat * bytes ≤ 281474976710656) (HB : Below base w0 W) (hbase : base ≤ W.heap.size)
    (h : ∀ g w1, d.R e w1 base ok (.slice (some ⟨g, 0, none⟩) n.toNat n.toNat) (List.replicate n.toNat z0) → Below base w0 w1 → W.grownBy w1 none → base ≤ g → wpList P ops Q rest (a.put o.dst (.slice (some ⟨g, 0, none⟩) n.toNat n.toNat)) w1) : wpList P ops Q (o :: rest) a W := by
  obtain ⟨m, rfl⟩ := Int.eq_ofNat_of_zero_le h0
  simp only [Int.toNat_natCast] at hl h
  obtain ⟨i0, hi, hzz⟩ := Option.map_eq_some_iff.1 hinfo
  simp only [Prod.mk.injEq] at hzz
  obtain ⟨hz0, hz1, hz2⟩ := hzz
  have hm : m ≤ 281474976710656 := Nat.le_trans (Nat.le_mul_of_pos_right _ hb0) hl
  have hr := run_make (P := P) W t e i0 z ht hi hz0 .i64 .i64 (m : Int) (m : Int) (by omega) (by omega)
    (by
      have h3 : ((i0.bytes * m : Nat) : Int) ≤ 281474976710656 := by rw [hz2, Nat.mul_comm]; omega
      rwa [Int.natCast_mul] at h3) (by omega)
  simp only [Int.toNat_natCast] at hr
  rw [hz1] at hr
  refine lit_whole d base e hgd hd (xs := List.replicate m z0) (inner := (madeCells z.cells (m * d.sz)).toList) (okp := okp) (ok := ok) ?_ (Kd.reps_made hz hs0 hzero m) hok hfresh HB hbase (by simp; omega) (by simpa using h)
  simp [execOp, ho, hx, hy, hr]
end
theorem cut_room {P : Program} (t e : TypeId) (kh : IntKind) {i : TypeInfo} (ht : P.underlying t = some (.slice e)) (hi : P.info? e = some i) (A : Option Addr) (n c : Nat) (j : Int) (h0 : 0 ≤ j) (hc : j ≤ c) :
    ∀ W : World, (Instr.slice t (.slice A n c) none (some (.int kh j)) none).run P W = .ok (.slice A j.toNat c) W := by
  intro W
  have hel : P.elem t = e := by simp [Program.elem, ht]
  have hu : P.underlying t = some (.slice (P.elem t)) := by rw [hel]; exact ht
  have ha : (A.map fun x => x.add 0) = A := by cases A <;> simp [Addr.add]
  rw [run_slice_h W t A n c hu kh j h0 hc, hel]
  simp [sizeOf, typeInfo, hi, sliced, Result.andThen, ha]
section
variable {α : Type} {d : Kd α}
/-- The begin of a row that is read. -/
theorem C_begin {w : World} {A : Option Addr} {n : Nat} {xs ys : List α} (h : d.C w A n (xs ++ ys)) : d.C w A xs.length xs := by
  obtain ⟨h1, h2, h3⟩ := h
  simp only [List.length_append] at h1
  refine ⟨rfl, by omega, fun hp => ?_⟩
  obtain ⟨ad, e, hc⟩ := h3 (by omega)
  refine ⟨ad, e, fun j p hj => hc j p ?_⟩
  rw [List.getElem?_append_left (List.getElem?_eq_some_iff.1 hj).1]
  exact hj
end
theorem made {α : Type} {d : Kd α} {e : Nat} {v : Value} {xs : List α} {w W W' : World} {bp : Nat} (hp : bp ≤ W.heap.size) (hB : Below w.heap.size w W) (hb : Below W.heap.size W W') (ho : d.R e W' W.heap.size (fun _ => True) v xs) :
    ∃ a b, (bp ≤ a ∧ a ≤ b) ∧ b ≤ W'.heap.size ∧ d.R e W' w.heap.size (fun k => a ≤ k ∧ k < b) v xs ∧ Below w.heap.size w W' :=
  ⟨W.heap.size, W'.heap.size, ⟨hp, hb.size⟩, Nat.le_refl _, Kd.R_lower (Kd.R_mono (Kd.R_bound ho) (fun k hk => ⟨hk.2.1, hk.2.2.1⟩)) hB.size, below_step hB hb⟩
theorem still {w W W' : World} {bp : Nat} (hp : bp ≤ W.heap.size) (hB : Below w.heap.size w W) (hb : Below W.heap.size W W') : bp ≤ W'.heap.size ∧ Below w.heap.size w W' := ⟨Nat.le_trans hp hb.size, below_step hB hb⟩
def room (n : Nat) : Nat := if n % 6 = 5 then 0 else if n % 3 = 0 then 1 else n
theorem room_le (n : Nat) : room n ≤ n + 1 := by unfold room; split <;> (try split) <;> omega
theorem roomBehind_eq (n : Nat) : laws_roomBehind.f (n : Int) = some (room n : Int) := by
  have h6 : Int.tmod (n : Int) 6 = ((n % 6 : Nat) : Int) := by rw [Int.tmod_eq_emod_of_nonneg (by omega)]; rfl
  have h3 : Int.tmod (n : Int) 3 = ((n % 3 : Nat) : Int) := by rw [Int.tmod_eq_emod_of_nonneg (by omega)]; rfl
  unfold laws_roomBehind.f room
  rw [h6, h3]
  by_cases a : n % 6 = 5
  · rw [if_pos (by omega), if_pos a]; rfl
  · rw [if_neg (by omega), if_neg a]
    by_cases b : n % 3 = 0
    · rw [if_pos (by omega), if_pos b]; rfl
    · rw [if_neg (by omega), if_neg b]
def pad (l : List Int) : List Int := l ++ List.replicate (room l.length) (-7000000000000000101)
theorem pad_length (l : List Int) : (pad l).length = l.length + room l.length := by simp [pad]

theorem set_fill (l : List Int) (F i : Nat) (h : i < l.length) (hF : l.length ≤ F) : (l.take i ++ List.replicate (F - i) 0).set i (rd l i) = l.take (i + 1) ++ List.replicate (F - (i + 1)) 0 := by
  have h1 : F - i = (F - (i + 1)) + 1 := by omega
  rw [h1, List.replicate_succ, List.set_append_right _ _ (by simp; omega)]
  have h2 : i - (l.take i).length = 0 := by simp; omega
  rw [h2, List.set_cons_zero]
  have h3 : l.take (i + 1) = l.take i ++ [rd l i] := by
    rw [List.take_add_one, List.getElem?_eq_getElem h]
    simp [rd, h]
  rw [h3, List.append_assoc]
  rfl
theorem set_fill2 (l : List Int) (F i : Nat) (h : l.length ≤ i) (hF : i < F) : (l ++ (List.replicate (i - l.length) (-7000000000000000101) ++ List.replicate (F - i) 0)).set i (-7000000000000000101) = l ++ (List.replicate (i + 1 - l.length) (-7000000000000000101) ++ List.replicate (F - (i + 1)) 0) := by
  have h1 : F - i = (F - (i + 1)) + 1 := by omega
  rw [List.set_append_right _ _ h, List.set_append_right _ _ (by simp), h1, List.replicate_succ]
  have h2 : i - l.length - (List.replicate (i - l.length) (-7000000000000000101 : Int)).length = 0 := by simp
  rw [h2, List.set_cons_zero]
  have h3 : i + 1 - l.length = (i - l.length) + 1 := by omega
  rw [h3, List.replicate_succ', List.append_assoc]
  rfl
set_option maxHeartbeats 4000000 in
set_option maxRecDepth 100000 in
theorem toIntS_pad (A0 : Option Addr) (c0 : Nat) (l0 : List Int) (w : World) (hr0 : Kd.C (Kd.int .i64) w A0 l0.length l0) (hc0 : l0.length ≤ c0) (hn : l0.length ≤ 1000000) :
    Calls Try.prog 16 #[.slice A0 l0.length c0, .bool false] w fun e w' => ∃ g, e = .returned (.slice (some ⟨g, 0, none⟩) l0.length (pad l0).length) ∧ Kd.R (Kd.int .i64) 3 w' w.heap.size (fun _ => True) (.slice (some ⟨g, 0, none⟩) (pad l0).length (pad l0).length) (pad l0) ∧ Below w.heap.size w w' := by
  have HR0 := Aside0.mk hr0
  have HC0 := Aside0.mk hc0
  have HN := Aside0.mk hn
  have hm := Aside0.mk (roomBehind_eq l0.length)
  have hmb := room_le l0.length
  obtain ⟨m, hmm⟩ : ∃ m, room l0.length = m := ⟨_, rfl⟩
  obtain ⟨F, hF⟩ : ∃ F, (pad l0).length = F := ⟨_, rfl⟩
  rw [hmm] at hm hmb
  have hFm : F = l0.length + m := by rw [← hF, pad_length, hmm]
  have hFw : (IntKind.i64.wrap ((l0.length : Int) + (m : Int))) = (F : Int) := by rw [i64_w]; unfold wrap64; omega
  have hFF := Aside0.mk hF
  have MM := Aside0.mk hmm
  have HFM := Aside0.mk hFm
  have HMB := Aside0.mk hmb
  rw [hF]
  clear hr0 hc0 hF hmm hFm hn hmb
  have hp0 : decide (0 ≤ (F : Int)) = true := by simp
  have HB := Aside0.mk (Below.refl w.heap.size w)
  go_enter Try.func16, Try.ntmps16
  go_wp2_with (first | ((with_reducible refine gate_callee (f := 56) rfl ?_); refine goesL_ (some 18) rfl rfl Try.func56 (by kernel_rfl) rfl #[.int .i64 (l0.length : Int)] rfl (by (try simp only [List.map_toArray, List.map_cons, List.map_nil]); first | done | rfl) ?_; (with_reducible refine (laws_roomBehind.calls (l0.length : Int) (m : Int) _ hm.out).mono ?_); rintro e w' ⟨rfl, ⟨nd, rfl⟩⟩; refine ⟨_, rfl, ?_⟩) | ((with_reducible refine gate_dst (N := 20) rfl ?_); (try (refine gate_guard (by rfl) ?_; dsimp only)); refine make_whole (Kd.int .i64) _ 3 rfl (N := 20) rfl 22 _ _ rfl (F : Int) rfl rfl Try.underlying22 (.int .i64 0) 8 info3 rfl (by decide) (by omega) 0 (ok := fun _ => True) (okp := fun _ => True) rfl (fun _ hk => hk) trivial (by omega) (by have := HFM.out; have := HMB.out; have := HN.out; omega) (Below.refl _ _) (Nat.le_refl _) ?_; intro g w10 ho11 hb hg_ hgb; clear hg_; have n0_ := Aside0.mk (Kd.R_lower ho11 (below_size (by repeat (first | (with_reducible first | exact HB.out | apply below_alloc | apply pw_below_drewN | apply below_drew1) | exact HB.out)))); have n1_ := Aside0.mk (below_step (by repeat (first | (with_reducible first | exact HB.out | apply below_alloc | apply pw_below_drewN | apply below_drew1) | exact HB.out)) hb); clear HB; have HO109 := n0_; have HB := n1_; clear n0_ n1_ hb ho11))
  go_loopg [6] l0.length (fun kq v6 w' => ∃ x : Int, v6 = .int .i64 x ∧ Aside0 (0 ≤ x ∧ x + kq = l0.length) ∧ Aside0 (Kd.R (Kd.int .i64) 3 w' w.heap.size (fun _ => True) (.slice (some ⟨g, 0, none⟩) F F) (l0.take x.toNat ++ List.replicate (F - x.toNat) 0)) ∧ Aside0 (Below w.heap.size w w'))
  case atStart => exact ⟨0, rfl, ⟨by omega⟩, ⟨by have h := HO109.out; simp only [Int.toNat_natCast] at h; simpa using h⟩, HB⟩
  case round =>
    clear HO109 HB
    obtain ⟨x, rfl, HI, HO, HB⟩ := hrel
    by_cases hlt : x < (l0.length : Int)
    · have c1 : decide (x < (l0.length : Int)) = true := decide_eq_true hlt
      have c2 : decide (0 ≤ x) = true := decide_eq_true HI.out.1
      have c3 : decide (x < (F : Int)) = true := decide_eq_true (by have := HFM.out; omega)
      obtain ⟨ad, e1, hx1⟩ := Kd.at_int HR0.out x HI.out.1 hlt
      cases e1
      replace hx1 := (HB.out.cell (World.block_lt_of_cell? w _ hx1)).trans hx1
      have hl : (l0.take x.toNat ++ List.replicate (F - x.toNat) 0).length = F := by have := HI.out; have := HFM.out; simp only [List.length_append, List.length_take, List.length_replicate]; omega
      obtain ⟨hx2, hf2⟩ := Kd.R_celln 0 HO.out x HI.out.1 (by have := HFM.out; omega)
      have HP := Kd.R_putg HO.out x (rd l0 x)
      obtain ⟨y, hy⟩ : ∃ y, y = (l0.take x.toNat ++ List.replicate (F - x.toNat) 0).set x.toNat (rd l0 x) := ⟨_, rfl⟩
      have hy2 : y = l0.take (x + 1).toNat ++ List.replicate (F - (x + 1).toNat) 0 := by
        rw [hy]
        have h0 := HI.out
        have h1 := HFM.out
        obtain ⟨i, rfl⟩ := Int.eq_ofNat_of_zero_le h0.1
        have e : ((i : Int) + 1).toNat = i + 1 := by omega
        rw [e]
        simp only [Int.toNat_natCast]
        exact set_fill l0 F i (by omega) (by omega)
      rw [← hy] at HP
      have HY := Aside0.mk hy2
      have GB := Aside0.mk (Kd.R_base HO.out g (by simp [Value.ownBlock]))
      clear hy hy2 hl
      replace hlt := eq_true hlt
      have p2 := eq_true HI.out.1
      have p3 := eq_true (of_decide_eq_true c3)
      go_wp2_with (first | ((with_reducible refine gate_store (t := 3) (p := 33) rfl ?_); refine store_event (t := 3) (p := 33) (v := ?vo_w17) (w1 := (wr.setCell ⟨g, x.toNat, none⟩ (.int .i64 (rd l0 x)))) ?hg ?ho ?hn ?hr ?_; (case ho => rfl); (case hg => rfl); (case hn => rfl); (case hr => first | (go_simp; done) | (go_simp; rfl)); intro w17 hw; have n0_ := Aside0.mk (by rw [hw]; exact HP.1 : Kd.R (Kd.int .i64) 3 w17 w.heap.size (fun _ => True) (.slice (some ⟨g, 0, none⟩) F F) y); have n1_ := Aside0.mk (by rw [hw]; exact below_set HB.out GB.out : Below w.heap.size w w17); clear HO HB HP; have HO := n0_; have HB := n1_; clear n0_ n1_ hw))
      cases gk with
      | zero => exact absurd HI.out.2 (by have := of_eq_true hlt; omega)
      | succ k1 =>
        go_roundg k1
        case measure => omega
        case rel => exact ⟨x + 1, by have := HI.out; have := HN.out; rw [show wrap64 (x + 1) = x + 1 by unfold wrap64; omega], ⟨by have := HI.out; omega⟩, ⟨by rw [← HY.out]; exact HO.out⟩, HB⟩
    · have c1 : decide (x < (l0.length : Int)) = false := decide_eq_false hlt
      have hx : x = (l0.length : Int) := by have := HI.out; omega
      subst hx
      have HO' : Aside0 (Kd.R (Kd.int .i64) 3 wr w.heap.size (fun _ => True) (.slice (some ⟨g, 0, none⟩) F F) (l0 ++ List.replicate (F - l0.length) 0)) := ⟨by have h := HO.out; simpa using h⟩
      clear HO HI hlt
      go_wp2
      go_loopg [7] (F - l0.length) (fun kq v6 w' => ∃ x : Int, v6 = .int .i64 x ∧ Aside0 ((l0.length : Int) ≤ x ∧ x + kq = F) ∧ Aside0 (Kd.R (Kd.int .i64) 3 w' w.heap.size (fun _ => True) (.slice (some ⟨g, 0, none⟩) F F) (l0 ++ (List.replicate (x.toNat - l0.length) (-7000000000000000101) ++ List.replicate (F - x.toNat) 0))) ∧ Aside0 (Below w.heap.size w w'))
      case atStart => exact ⟨l0.length, rfl, ⟨by have := HFM.out; omega⟩, ⟨by have h := HO'.out; simpa using h⟩, HB⟩
      case round =>
        clear HO' HB c1
        obtain ⟨x, rfl, HI, HO, HB⟩ := hrel
        by_cases hlt : x < (F : Int)
        · have c1 : decide (x < (F : Int)) = true := decide_eq_true hlt
          have c2 : decide (0 ≤ x) = true := decide_eq_true (by have := HI.out; omega)
          obtain ⟨hx2, hf2⟩ := Kd.R_celln 0 HO.out x (by have := HI.out; omega) hlt
          have HP := Kd.R_putg HO.out x (-7000000000000000101)
          obtain ⟨y, hy⟩ : ∃ y, y = (l0 ++ (List.replicate (x.toNat - l0.length) (-7000000000000000101) ++ List.replicate (F - x.toNat) 0)).set x.toNat (-7000000000000000101) := ⟨_, rfl⟩
          have hy2 : y = l0 ++ (List.replicate ((x + 1).toNat - l0.length) (-7000000000000000101) ++ List.replicate (F - (x + 1).toNat) 0) := by
            rw [hy]
            have h0 := HI.out
            obtain ⟨i, rfl⟩ := Int.eq_ofNat_of_zero_le (show 0 ≤ x by omega)
            have e : ((i : Int) + 1).toNat = i + 1 := by omega
            rw [e]
            simp only [Int.toNat_natCast]
            exact set_fill2 l0 F i (by omega) (by omega)
          rw [← hy] at HP
          have HY := Aside0.mk hy2
          have GB := Aside0.mk (Kd.R_base HO.out g (by simp [Value.ownBlock]))
          clear hy hy2
          have p2 := eq_true (of_decide_eq_true c2)
          have p3 := eq_true hlt
          go_wp2
          cases gk with
          | zero => exact absurd HI.out.2 (by have := of_decide_eq_true c1; omega)
          | succ k1 =>
            go_roundg k1
            case measure => omega
            case rel => exact ⟨x + 1, by have := HI.out; have := HN.out; have := HFM.out; have := HMB.out; rw [show wrap64 (x + 1) = x + 1 by unfold wrap64; omega], ⟨by have := HI.out; omega⟩, ⟨by rw [← HY.out]; exact HP.1⟩, ⟨below_set HB.out GB.out⟩⟩
        · have c1 : decide (x < (F : Int)) = false := decide_eq_false hlt
          have hx : x = (F : Int) := by have := HI.out; omega
          subst hx
          have HO' : Aside0 (Kd.R (Kd.int .i64) 3 wr w.heap.size (fun _ => True) (.slice (some ⟨g, 0, none⟩) F F) (pad l0)) := ⟨by have h := HO.out; have e : F - l0.length = room l0.length := (by rw [MM.out]; have := HFM.out; omega); simpa [pad, e] using h⟩
          clear HO HI hlt
          obtain ⟨i027, hi027, _, hsz27, _⟩ := info_parts info3
          have hcut27 := cut_to (P := Try.prog) 22 3 .i64 Try.underlying22 hi027 (some ⟨g, 0, none⟩) F F (l0.length : Int) (by omega) (by have := HFM.out; omega) (Nat.le_refl _)
          go_wp2
          go_ret
          exact ⟨g, by simp, HO'.out, HB.out⟩

theorem eqIntS_loop (l : List Int) (hn : l.length ≤ 9223372036854775807) (d : Nat) : ∀ (k : Nat) (x : Int), 0 ≤ x → (l.length : Int) - x = d → d < k → laws_eqIntS.l0 k l l x = some true := by
  induction d with
  | zero =>
    intro k x h0 hd hk
    obtain ⟨k, rfl⟩ : ∃ m, k = m + 1 := ⟨k - 1, by omega⟩
    simp only [laws_eqIntS.l0]; rw [if_neg (by omega)]
  | succ d ih =>
    intro k x h0 hd hk
    obtain ⟨k, rfl⟩ : ∃ m, k = m + 1 := ⟨k - 1, by omega⟩
    simp only [laws_eqIntS.l0]; rw [if_pos (by omega), if_pos h0, if_pos (by omega), if_pos trivial, show wrap64 (x + 1) = x + 1 by unfold wrap64; omega]
    exact ih k (x + 1) (by omega) (by omega) (by omega)
theorem eqIntS_self (l : List Int) (hn : l.length ≤ 9223372036854775807) : laws_eqIntS.f (l.length + 1) l l = some true := by
  unfold laws_eqIntS.f
  rw [if_pos rfl]
  exact eqIntS_loop l hn l.length (l.length + 1) 0 (by omega) (by omega) (by omega)
set_option maxHeartbeats 4000000 in
set_option maxRecDepth 100000 in
theorem intactIntS_pad (g1 g2 : Nat) (l : List Int) (w : World) (hl : l.length ≤ 1000000) 
    (h1 : ∃ b ok, Kd.R (Kd.int .i64) 3 w b ok (.slice (some ⟨g1, 0, none⟩) (pad l).length (pad l).length) (pad l))
    (h2 : ∃ b ok, Kd.R (Kd.int .i64) 3 w b ok (.slice (some ⟨g2, 0, none⟩) (pad l).length (pad l).length) (pad l)) :
    Calls Try.prog 19 #[.slice (some ⟨g1, 0, none⟩) l.length (pad l).length, .slice (some ⟨g2, 0, none⟩) l.length (pad l).length] w fun e w' => e = .returned (.bool true) ∧ Drawn0 w w' := by
  obtain ⟨_, _, h1⟩ := h1
  obtain ⟨_, _, h2⟩ := h2
  have H1 := Aside0.mk (Kd.R_reads' h1).2.2
  have H2 := Aside0.mk (Kd.R_reads' h2).2.2
  have hm := Aside0.mk (roomBehind_eq l.length)
  have hmb := room_le l.length
  have HE := Aside0.mk (eqIntS_self (pad l) (by rw [pad_length]; omega))
  obtain ⟨p, hp⟩ : ∃ p, pad l = p := ⟨_, rfl⟩
  have hpl := pad_length l
  obtain ⟨m, hmm⟩ : ∃ m, room l.length = m := ⟨_, rfl⟩
  rw [hp] at H1 H2 HE hpl ⊢
  rw [hmm] at hm hmb hpl
  have hFw : (IntKind.i64.wrap ((l.length : Int) + (m : Int))) = (p.length : Int) := by rw [i64_w]; unfold wrap64; omega
  have HL := Aside0.mk hpl
  clear h1 h2 hp hpl hmm hmb
  obtain ⟨i0, hi0, _, hsz, _⟩ := info_parts info3
  have hc1 := cut_room (P := Try.prog) 22 3 .i64 Try.underlying22 hi0 (some ⟨g1, 0, none⟩) l.length p.length (p.length : Int) (by omega) (Int.le_refl _)
  have hc2 := cut_room (P := Try.prog) 22 3 .i64 Try.underlying22 hi0 (some ⟨g2, 0, none⟩) l.length p.length (p.length : Int) (by omega) (Int.le_refl _)
  simp only [Int.toNat_natCast] at hc1 hc2
  clear hi0 hsz
  go_enter Try.func19, Try.ntmps19
  go_wp2_with (first | ((with_reducible refine gate_callee (f := 56) rfl ?_); refine goesL_ (some 10) rfl rfl Try.func56 (by kernel_rfl) rfl #[.int .i64 (l.length : Int)] rfl (by (try simp only [List.map_toArray, List.map_cons, List.map_nil]); first | done | rfl) ?_; (with_reducible refine (laws_roomBehind.calls (l.length : Int) (m : Int) _ hm.out).mono ?_); rintro e w' ⟨rfl, ⟨nd, rfl⟩⟩; refine ⟨_, rfl, ?_⟩) | (go_at_call 18; (with_reducible refine (laws_eqIntS.calls (p.length + 1) _ _ p _ _ p true _ ?side1 ?side2 ?side3 ?side4 HE.out).mono ?_); (case side1 => repeat (first | exact H1.out | (with_reducible refine Kd.C_alloc ?_ _) | (with_reducible refine Kd.C_drewN ?_ _) | (with_reducible refine Kd.C_drew ?_))); (case side2 => exact Nat.le_refl _); (case side3 => repeat (first | exact H2.out | (with_reducible refine Kd.C_alloc ?_ _) | (with_reducible refine Kd.C_drewN ?_ _) | (with_reducible refine Kd.C_drew ?_))); (case side4 => exact Nat.le_refl _); rintro e w' ⟨rfl, ⟨nd, rfl⟩⟩))
  have hbb : ((l.length : Int) == (l.length : Int)) = true := by simp
  go_quiet ((go_at_call 18; (with_reducible refine (laws_eqIntS.calls (p.length + 1) _ _ p _ _ p true _ ?side1 ?side2 ?side3 ?side4 HE.out).mono ?_); (case side1 => repeat (first | exact H1.out | (with_reducible refine Kd.C_alloc ?_ _) | (with_reducible refine Kd.C_drewN ?_ _) | (with_reducible refine Kd.C_drew ?_))); (case side2 => exact Nat.le_refl _); (case side3 => repeat (first | exact H2.out | (with_reducible refine Kd.C_alloc ?_ _) | (with_reducible refine Kd.C_drewN ?_ _) | (with_reducible refine Kd.C_drew ?_))); (case side4 => exact Nat.le_refl _); rintro e w' ⟨rfl, ⟨nd, rfl⟩⟩; (try first | exact ⟨rfl, _, World.drewN_drewN _ _ _⟩ | exact ⟨rfl, _, Eq.trans (World.drewN_drewN _ _ _) (congrArg (World.drewN _) (Nat.add_assoc _ _ _))⟩)))
  go_wp2
  go_ret
  exact ⟨by first | rfl | (simp; done), by repeat (first | exact Drawn0.refl _ | apply Drawn0.step)⟩
theorem toIntS_l1 (l : List Int) (F : Nat) (hF : F ≤ 3000000) (d : Nat) : ∀ (k i : Nat), l.length ≤ i → i ≤ F → F - i = d → d < k → laws_toIntS.l1 k l (l ++ (List.replicate (i - l.length) (-7000000000000000101) ++ List.replicate (F - i) 0)) (i : Int) = some l := by
  induction d with
  | zero =>
    intro k i h0 h1 hd hk
    obtain ⟨k, rfl⟩ : ∃ m, k = m + 1 := ⟨k - 1, by omega⟩
    simp only [laws_toIntS.l1]; rw [if_neg (by simp only [List.length_append, List.length_replicate]; omega), if_pos (by omega), if_pos (by simp only [List.length_append, List.length_replicate]; omega)]
    simp
  | succ d ih =>
    intro k i h0 h1 hd hk
    obtain ⟨k, rfl⟩ : ∃ m, k = m + 1 := ⟨k - 1, by omega⟩
    simp only [laws_toIntS.l1]; rw [if_pos (by simp only [List.length_append, List.length_replicate]; omega), if_pos (by omega), show wrap64 ((i : Int) + 1) = ((i + 1 : Nat) : Int) by unfold wrap64; omega, Int.toNat_natCast, set_fill2 l F i h0 (by omega)]
    exact ih k (i + 1) (by omega) (by omega) (by omega) (by omega)
theorem toIntS_l0 (l : List Int) (F : Nat) (hF : F ≤ 3000000) (hl : l.length ≤ F) (d : Nat) : ∀ (k i : Nat), i ≤ l.length → l.length - i = d → d + F + 2 < k → laws_toIntS.l0 k l (l.take i ++ List.replicate (F - i) 0) (i : Int) = some l := by
  induction d with
  | zero =>
    intro k i h1 hd hk
    obtain ⟨k, rfl⟩ : ∃ m, k = m + 1 := ⟨k - 1, by omega⟩
    have e : i = l.length := by omega
    subst e
    simp only [laws_toIntS.l0]; rw [if_neg (by omega)]
    have h := toIntS_l1 l F hF (F - l.length) k l.length (Nat.le_refl _) hl rfl (by omega)
    simpa using h
  | succ d ih =>
    intro k i h1 hd hk
    obtain ⟨k, rfl⟩ : ∃ m, k = m + 1 := ⟨k - 1, by omega⟩
    simp only [laws_toIntS.l0]; rw [if_pos (by omega), if_pos (by omega), if_pos (by simp only [List.length_append, List.length_take, List.length_replicate]; omega), show wrap64 ((i : Int) + 1) = ((i + 1 : Nat) : Int) by unfold wrap64; omega, Int.toNat_natCast, set_fill l F i (by omega) hl]
    exact ih k (i + 1) (by omega) (by omega) (by omega)
theorem toIntS_j0 (l : List Int) (hn : l.length ≤ 1000000) (F : Nat) (hF : l.length + room l.length = F) (k : Nat) (hk : l.length + F + 2 < k) : laws_toIntS.j0 (k + 1) l false = some l := by
  have hr := room_le l.length
  have hw : wrap64 ((l.length : Int) + (room l.length : Int)) = (F : Int) := by unfold wrap64; omega
  have hb : F ≤ 35184372088832 := by omega
  have h := toIntS_l0 l F (by omega) (by omega) l.length k 0 (by omega) (by omega) hk
  simp only [laws_toIntS.j0]
  rw [if_neg (by decide), roomBehind_eq, Option.bind_some, hw, if_pos (by omega), Int.toNat_natCast, if_pos hb]
  simpa using h
theorem toIntS_bare (l : List Int) (hn : l.length ≤ 1000000) : ∃ k, laws_toIntS.f k l true = some l := by
  refine ⟨(l.length + (l.length + room l.length) + 3) + 1, ?_⟩
  unfold laws_toIntS.f
  rw [if_pos rfl]
  by_cases h : l = []
  · subst h
    rfl
  · have e : ((l.length : Int) == 0) = false := by
      have : 0 < l.length := List.length_pos_iff.2 h
      simp only [beq_eq_false_iff_ne]; omega
    rw [e]
    exact toIntS_j0 l hn _ rfl _ (by omega)
theorem pad_reads {w : World} {b : Nat} {ok : Nat → Prop} {A : Option Addr} {l : List Int} (h : Kd.R (Kd.int .i64) 3 w b ok (.slice A (pad l).length (pad l).length) (pad l)) : Kd.C (Kd.int .i64) w A l.length l := C_begin (Kd.R_reads' h).2.2
theorem pad_le (l : List Int) : l.length ≤ (pad l).length := by rw [pad_length]; omega
theorem pad_seen {w : World} {b : Nat} {ok : Nat → Prop} {A : Option Addr} {l : List Int} (h : Kd.R (Kd.int .i64) 3 w b ok (.slice A (pad l).length (pad l).length) (pad l)) : Kd.R (Kd.int .i64) 3 w b ok (.slice A l.length (pad l).length) l := by
  have h2 := Kd.R_take h (pad_le l)
  have e : (pad l).take l.length = l := by simp [pad]
  rwa [e] at h2
theorem padr {α : Type} {d : Kd α} {e : Nat} {w : World} {b : Nat} {ok : Nat → Prop} {A : Option Addr} {c : Nat} {q P : List α} (hp : ∃ f, P = q ++ f) (h : d.R e w b ok (.slice A P.length c) P) : d.C w A q.length q := by
  obtain ⟨f, rfl⟩ := hp
  exact C_begin (Kd.R_reads' h).2.2
theorem padl {α : Type} {q P : List α} {c : Nat} (hp : ∃ f, P = q ++ f) (h : P.length ≤ c) : q.length ≤ c := by
  obtain ⟨f, rfl⟩ := hp
  simp at h; omega
theorem padseen {α : Type} {d : Kd α} {e : Nat} {w : World} {b : Nat} {ok : Nat → Prop} {A : Option Addr} {c : Nat} {q P : List α} (hp : ∃ f, P = q ++ f) (h : d.R e w b ok (.slice A P.length c) P) : d.R e w b ok (.slice A q.length c) q := by
  obtain ⟨f, rfl⟩ := hp
  have h2 := Kd.R_take h (show q.length ≤ (q ++ f).length by simp)
  have e_ : (q ++ f).take q.length = q := by simp
  rwa [e_] at h2
mutual
def laws_toTermSW.j0 : Nat → List (S73) → Bool → Option ((List (S71)))
  | 0, _, _ => none
  | k + 1, x0, x13 => if x13 = true then (none) else ((laws_roomBehind.f (x0.length : Int)).bind fun t201 => (if 0 ≤ (wrap64 ((x0.length : Int) + t201)) then (if (wrap64 ((x0.length : Int) + t201) : Int).toNat ≤ 8796093022208 then (laws_toTermSW.l0 k x0 (List.replicate (wrap64 ((x0.length : Int) + t201) : Int).toNat z71) 0) else (none)) else (none)))
def laws_toTermSW.l0 : Nat → List (S73) → List (S71) → Int → Option ((List (S71)))
  | 0, _, _, _ => none
  | k + 1, x0, x5, x6 => if x6 < (x0.length : Int) then (if 0 ≤ x6 then ((laws_toTerm.f ((rd_T73 x0 x6).f0) ((rd_T73 x0 x6).f1) ((rd_T73 x0 x6).f2) ((rd_T73 x0 x6).f3)).bind fun bt206 => (if x6 < (x5.length : Int) then (laws_toTermSW.l0 k x0 (x5.set (x6 : Int).toNat (⟨bt206.1, bt206.2.1, bt206.2.2.1, bt206.2.2.2⟩ : S71)) (wrap64 (x6 + 1))) else (none))) else (none)) else (laws_toTermSW.l1 k x0 x5 (x0.length : Int))
def laws_toTermSW.l1 : Nat → List (S73) → List (S71) → Int → Option ((List (S71)))
  | 0, _, _, _ => none
  | k + 1, x0, x5, x7 => if x7 < (x5.length : Int) then ((laws_fillerTerm.f).bind fun bt211 => (if 0 ≤ x7 then (laws_toTermSW.l1 k x0 (x5.set (x7 : Int).toNat (⟨bt211.1, bt211.2.1, bt211.2.2.1, bt211.2.2.2⟩ : S71)) (wrap64 (x7 + 1))) else (none))) else (if 0 ≤ (x0.length : Int) then (if (x0.length : Int) ≤ (x5.length : Int) then (some x5) else (none)) else (none))
end
def laws_toTermSW.f (k : Nat) (l0 : List (S73)) (a1 : Bool) : Option ((List (S71))) := if a1 = true then (laws_toTermSW.j0 k l0 ((l0.length : Int) == 0)) else (laws_toTermSW.j0 k l0 false)
theorem laws_toTermSW.mono_l : ∀ k, (∀ y0 y1, LeO (laws_toTermSW.j0 k y0 y1) (laws_toTermSW.j0 (k + 1) y0 y1)) ∧ (∀ y0 y1 y2, LeO (laws_toTermSW.l0 k y0 y1 y2) (laws_toTermSW.l0 (k + 1) y0 y1 y2)) ∧ (∀ y0 y1 y2, LeO (laws_toTermSW.l1 k y0 y1 y2) (laws_toTermSW.l1 (k + 1) y0 y1 y2))
  | 0 => ⟨fun _ _ r h => by simp [laws_toTermSW.j0] at h, fun _ _ _ r h => by simp [laws_toTermSW.l0] at h, fun _ _ _ r h => by simp [laws_toTermSW.l1] at h⟩
  | k + 1 => by
    obtain ⟨ih0, ih1, ih2⟩ := laws_toTermSW.mono_l k
    refine ⟨?_, ?_, ?_⟩
    · intro y0 y1
      unfold laws_toTermSW.j0
      repeat' first
      | (with_reducible exact ih0 _ _)
      | (with_reducible exact ih1 _ _ _)
      | (with_reducible exact ih2 _ _ _)
      | (with_reducible exact LeO.refl _)
      | (with_reducible exact LeO.none _)
      | (with_reducible refine LeO.ite ?_ ?_)
      | (with_reducible refine LeO.bind ?_ (fun _ => ?_))
      | exact ih0 _ _
      | exact ih1 _ _ _
      | exact ih2 _ _ _
      | exact LeO.none _
      | refine LeO.ite ?_ ?_
      | refine LeO.bind ?_ (fun _ => ?_)
    · intro y0 y1 y2
      unfold laws_toTermSW.l0
      repeat' first
      | (with_reducible exact ih0 _ _)
      | (with_reducible exact ih1 _ _ _)
      | (with_reducible exact ih2 _ _ _)
      | (with_reducible exact LeO.refl _)
      | (with_reducible exact LeO.none _)
      | (with_reducible refine LeO.ite ?_ ?_)
      | (with_reducible refine LeO.bind ?_ (fun _ => ?_))
      | exact ih0 _ _
      | exact ih1 _ _ _
      | exact ih2 _ _ _
      | exact LeO.none _
      | refine LeO.ite ?_ ?_
      | refine LeO.bind ?_ (fun _ => ?_)
    · intro y0 y1 y2
      unfold laws_toTermSW.l1
      repeat' first
      | (with_reducible exact ih0 _ _)
      | (with_reducible exact ih1 _ _ _)
      | (with_reducible exact ih2 _ _ _)
      | (with_reducible exact LeO.refl _)
      | (with_reducible exact LeO.none _)
      | (with_reducible refine LeO.ite ?_ ?_)
      | (with_reducible refine LeO.bind ?_ (fun _ => ?_))
      | exact ih0 _ _
      | exact ih1 _ _ _
      | exact ih2 _ _ _
      | exact LeO.none _
      | refine LeO.ite ?_ ?_
      | refine LeO.bind ?_ (fun _ => ?_)
theorem laws_toTermSW.mono : ∀ a0 a1 k, LeO (laws_toTermSW.f k a0 a1) (laws_toTermSW.f (k + 1) a0 a1) := by
  intro a0 a1 k
  obtain ⟨ih0, ih1, ih2⟩ := laws_toTermSW.mono_l k
  unfold laws_toTermSW.f
  repeat' first
      | (with_reducible exact ih0 _ _)
      | (with_reducible exact ih1 _ _ _)
      | (with_reducible exact ih2 _ _ _)
      | (with_reducible exact LeO.refl _)
      | (with_reducible exact LeO.none _)
      | (with_reducible refine LeO.ite ?_ ?_)
      | (with_reducible refine LeO.bind ?_ (fun _ => ?_))
      | exact ih0 _ _
      | exact ih1 _ _ _
      | exact ih2 _ _ _
      | exact LeO.none _
      | refine LeO.ite ?_ ?_
      | refine LeO.bind ?_ (fun _ => ?_)
set_option maxHeartbeats 8000000 in
set_option maxRecDepth 100000 in
theorem laws_toTermSW.calls (k : Nat) (A0 : Option Addr) (c0 : Nat) (l0 : List (S73)) (a1 : Bool) (r : List (S71)) (w : World) (hr0 : Kd.C k73 w A0 l0.length l0) (hc0 : l0.length ≤ c0) (h : laws_toTermSW.f k l0 a1 = some r) :
    Calls Try.prog 46 #[.slice A0 l0.length c0, .bool a1] w fun e w' => ∃ (Ac_ : Option Addr) (cc_ : Nat), e = .returned (.slice Ac_ l0.length cc_) ∧ Kd.R k71 71 w' w.heap.size (fun _ => True) (.slice Ac_ r.length cc_) r ∧ Below w.heap.size w w' := by
  have hu73 := Try.underlying73
  have hu71 := Try.underlying71
  have HR0 := Aside0.mk hr0
  have HC0 := Aside0.mk hc0
  clear hr0 hc0
  have HB := Aside0.mk (Below.refl w.heap.size w)
  have H : (if a1 = true then (laws_toTermSW.j0 k l0 ((l0.length : Int) == 0)) else (laws_toTermSW.j0 k l0 false)) = some r := h
  clear h
  have HC3 := Aside0.mk H
  clear H
  go_enter Try.func46, Try.ntmps46
  go_upto_region 1 with (fail)
  go_cut [13] (fun v13 wc => ∃ (kq : Nat) (x13_2 : Bool), v13 = .bool x13_2 ∧ Aside0 (laws_toTermSW.j0 kq l0 x13_2 = some r) ∧ Aside0 (kq ≤ k) ∧ Aside0 (Below w.heap.size w wc))
  case first =>
    have H := HC3.out
    clear HC3
    by_cases c4 : a1 = true
    · subst c4
      have H1 : (laws_toTermSW.j0 k l0 ((l0.length : Int) == 0)) = some r := by rw [if_pos rfl] at H; exact H
      clear H
      have H := H1
      clear H1
      have H' := Aside0.mk H
      clear H
      go_wp2
      go_meet
      case rel => exact ⟨_, (((l0.length : Int) == 0)), (by first | rfl | (simp; done) | (simp [*]; done)), H', ⟨by first | omega | exact Nat.le_refl _⟩, ⟨by repeat (first | (with_reducible first | exact HB.out | apply below_alloc | apply pw_below_drewN | apply below_drew1) | exact HB.out)⟩⟩
    · replace c4 := Bool.eq_false_iff.mpr c4
      subst c4
      have H1 : (laws_toTermSW.j0 k l0 false) = some r := by rw [if_neg (show ¬ (false = true) by decide)] at H; exact H
      clear H
      have H := H1
      clear H1
      have H' := Aside0.mk H
      clear H
      go_wp2
      go_meet
      case rel => exact ⟨_, (false), (by first | rfl | (simp; done) | (simp [*]; done)), H', ⟨by first | omega | exact Nat.le_refl _⟩, ⟨by repeat (first | (with_reducible first | exact HB.out | apply below_alloc | apply pw_below_drewN | apply below_drew1) | exact HB.out)⟩⟩
  case rest =>
    clear HC3
    try clear p2
    try clear c4
    obtain ⟨kq, x13_2, rfl, HA, HJ2, HB⟩ := hcut
    cases kq with
    | zero => exact absurd HA.out (by simp [laws_toTermSW.j0])
    | succ kj2 =>
      have H := HA.out
      clear HA
      simp only [laws_toTermSW.j0] at H
      by_cases c5 : x13_2 = true
      · subst c5
        have H1 : none = some r := by rw [if_pos rfl] at H; exact H
        exact absurd H1 (by simp)
      · replace c5 := Bool.eq_false_iff.mpr c5
        subst c5
        have H1 : ((laws_roomBehind.f (l0.length : Int)).bind fun t201 => (if 0 ≤ (wrap64 ((l0.length : Int) + t201)) then (if (wrap64 ((l0.length : Int) + t201) : Int).toNat ≤ 8796093022208 then (laws_toTermSW.l0 kj2 l0 (List.replicate (wrap64 ((l0.length : Int) + t201) : Int).toNat z71) 0) else (none)) else (none))) = some r := by rw [if_neg (show ¬ (false = true) by decide)] at H; exact H
        clear H
        have H := H1
        clear H1
        replace H := Option.bind_eq_some_iff.mp H
        obtain ⟨t201, A60, H⟩ := H
        replace H : (if 0 ≤ (wrap64 ((l0.length : Int) + t201)) then (if (wrap64 ((l0.length : Int) + t201) : Int).toNat ≤ 8796093022208 then (laws_toTermSW.l0 kj2 l0 (List.replicate (wrap64 ((l0.length : Int) + t201) : Int).toNat z71) 0) else (none)) else (none)) = some r := H
        have A6 := Aside0.mk A60
        clear A60
        obtain ⟨ji7, hji7⟩ : ∃ j_ : Int, (wrap64 ((l0.length : Int) + t201)) = j_ := ⟨_, rfl⟩
        replace H : (if 0 ≤ (ji7) then (if (ji7 : Int).toNat ≤ 8796093022208 then (laws_toTermSW.l0 kj2 l0 (List.replicate (ji7 : Int).toNat z71) 0) else (none)) else (none)) = some r := by first | (rw [hji7] at H; exact H) | (simp only [hji7] at H ⊢; exact H)
        (try rw [hji7] at A6)
        have hji7w : (IntKind.i64.wrap ((l0.length : Int) + t201)) = ji7 := (i64_w _).trans hji7
        by_cases c8 : 0 ≤ (ji7)
        · rw [if_pos c8] at H
          have c8b0 := eq_true c8
          have c8b1 : decide (0 ≤ (ji7)) = true := decide_eq_true c8
          clear c8
          by_cases c9 : (ji7 : Int).toNat ≤ 8796093022208
          · rw [if_pos c9] at H
            have c9b0 := eq_true c9
            have c9b1 : decide ((ji7 : Int).toNat ≤ 8796093022208) = true := decide_eq_true c9
            clear c9
            obtain ⟨y202, hy202⟩ : ∃ y_ : List (S71), y_ = (List.replicate (ji7 : Int).toNat z71) := ⟨_, rfl⟩
            replace H : (laws_toTermSW.l0 kj2 l0 y202 0) = some r := by first | (rw [hy202]; with_reducible exact H) | (have H2_ := (Option.bind_some _ _).symm.trans H; rw [hy202]; with_reducible exact H2_) | (have H2_ := (Option.bind_some _ _).symm.trans H; with_reducible exact H2_) | with_reducible exact H | (rw [hy202]; exact H) | exact H
            have Ny202 := Aside0.mk hy202
            clear hy202
            have H' := Aside0.mk H
            clear H
            go_wp2_with (first | ((with_reducible refine gate_callee (f := 56) rfl ?_); refine goesL_ (some 18) rfl rfl Try.func56 (by kernel_rfl) rfl #[.int .i64 (l0.length : Int)] rfl (by (try simp only [List.map_toArray, List.map_cons, List.map_nil]); first | done | rfl | (simp only [List.length_drop, List.length_take]; rfl)) ?_; (with_reducible refine (laws_roomBehind.calls (l0.length : Int) t201 _ A6.out).mono ?_); rintro e w' ⟨rfl, ⟨nd, rfl⟩⟩; refine ⟨_, rfl, ?_⟩) | ((with_reducible refine gate_dst (N := 20) rfl ?_); (try (refine gate_guard (by rfl) ?_; dsimp only)); refine Kd.R_make k71 _ 71 rfl (N := 20) rfl 49 _ _ rfl ji7 rfl rfl Try.underlying49 (.agg #[(.int .i64 0), (.int .i64 0), (.int .i64 0), (.int .i64 0)]) 32 info71 rfl (by decide) (by omega) z71 (ok := fun _ => True) (okp := fun _ => True) (k71_mkM _ _ _ z71 ) (fun _ hk => hk) trivial (of_decide_eq_true (by first | (with_reducible assumption) | assumption)) (Nat.le_trans (Nat.mul_le_mul_right _ (of_decide_eq_true (by first | (with_reducible assumption) | assumption) : ji7.toNat ≤ 8796093022208)) (by omega)) (Below.refl _ _) (Nat.le_refl _) ?_; intro v203 w10 ho11 hb hg_ hnew_; clear hg_ hnew_; (first | rw [← Ny202.out] at ho11 | (simp only [Int.reduceToNat] at ho11; rw [← Ny202.out] at ho11)); have n0_ := Aside0.mk (Kd.R_lower ho11 (below_size (by repeat (first | (with_reducible first | exact HB.out | apply below_alloc | apply pw_below_drewN | apply below_drew1) | exact HB.out)))); have n1_ := Aside0.mk (below_step (by repeat (first | (with_reducible first | exact HB.out | apply below_alloc | apply pw_below_drewN | apply below_drew1) | exact HB.out)) hb); clear HB; have HO204 := n0_; have HB := n1_; clear n0_ n1_; clear hb ho11))
            go_loopg [6] kj2 (fun kq v6 w' => ∃ (x5_2 : List (S71)) (x6_2 : Int), v6 = .int .i64 x6_2 ∧ Aside0 (laws_toTermSW.l0 kq l0 x5_2 x6_2 = some r) ∧ Aside0 (kq ≤ kj2) ∧ Aside0 (Kd.R k71 71 w' w.heap.size (fun _ => True) v203 x5_2) ∧ Aside0 (Below w.heap.size w w'))
            case atStart => exact ⟨(y202), (0), (by first | rfl | (simp; done) | (simp [*]; done)), H', ⟨Nat.le_refl _⟩, ⟨by (with_reducible repeat (first | apply Kd.R_alloc | apply Kd.R_drewN | apply Kd.R_drew)); exact HO204.out⟩, ⟨by repeat (first | (with_reducible first | exact HB.out | apply below_alloc | apply pw_below_drewN | apply below_drew1) | exact HB.out)⟩⟩
            case round =>
              clear H'
              try clear p2
              try clear c4
              try clear c5
              try clear p6
              try clear c8
              try clear c8b0
              try clear c8b1
              try clear c9
              try clear c9b0
              try clear c9b1
              try clear p2
              obtain ⟨x5_2, x6_2, rfl, HA, HK2, HO_5, HB⟩ := hrel
              cases gk with
              | zero => exact absurd HA.out (by simp [laws_toTermSW.l0])
              | succ k2 =>
                have H := HA.out
                clear HA
                simp only [laws_toTermSW.l0] at H
                by_cases c12 : x6_2 < (l0.length : Int)
                · rw [if_pos c12] at H
                  have c12b0 : decide (x6_2 < (l0.length : Int)) = true := decide_eq_true c12
                  clear c12
                  by_cases c13 : 0 ≤ x6_2
                  · rw [if_pos c13] at H
                    have c13b0 : decide (0 ≤ x6_2) = true := decide_eq_true c13
                    clear c13
                    replace H := Option.bind_eq_some_iff.mp H
                    obtain ⟨⟨t206, t207, t208, t209⟩, A140, H⟩ := H
                    replace H : (if x6_2 < (x5_2.length : Int) then (laws_toTermSW.l0 k2 l0 (x5_2.set (x6_2 : Int).toNat (⟨t206, t207, t208, t209⟩ : S71)) (wrap64 (x6_2 + 1))) else (none)) = some r := H
                    have A14 := Aside0.mk A140
                    clear A140
                    by_cases c15 : x6_2 < (x5_2.length : Int)
                    · rw [if_pos c15] at H
                      have c15b0 : decide (x6_2 < (x5_2.length : Int)) = true := decide_eq_true c15
                      clear c15
                      obtain ⟨y210, hy210⟩ : ∃ y_ : List (S71), y_ = (x5_2.set (x6_2 : Int).toNat (⟨t206, t207, t208, t209⟩ : S71)) := ⟨_, rfl⟩
                      replace H : (laws_toTermSW.l0 k2 l0 y210 (wrap64 (x6_2 + 1))) = some r := by first | (rw [hy210]; with_reducible exact H) | (have H2_ := (Option.bind_some _ _).symm.trans H; rw [hy210]; with_reducible exact H2_) | (have H2_ := (Option.bind_some _ _).symm.trans H; with_reducible exact H2_) | with_reducible exact H | (rw [hy210]; exact H) | exact H
                      have Ny210 := Aside0.mk hy210
                      clear hy210
                      have H' := Aside0.mk H
                      clear H
                      have p205 : 0 ≤ (x6_2 : Int) := of_decide_eq_true (by first | (with_reducible assumption) | assumption)
                      have q205 : x6_2 < (l0.length : Int) := of_decide_eq_true (by first | (with_reducible assumption) | assumption)
                      obtain ⟨ad205, e205, hx205_0, hx205_1, hx205_2, hx205_3⟩ := at_T73 HR0.out x6_2 p205 q205
                      cases e205
                      replace hx205_0 := (HB.out.cell (World.block_lt_of_cell? w _ hx205_0)).trans hx205_0
                      replace hx205_1 := (HB.out.cell (World.block_lt_of_cell? w _ hx205_1)).trans hx205_1
                      replace hx205_2 := (HB.out.cell (World.block_lt_of_cell? w _ hx205_2)).trans hx205_2
                      replace hx205_3 := (HB.out.cell (World.block_lt_of_cell? w _ hx205_3)).trans hx205_3
                      replace p205 := eq_true p205
                      replace q205 := eq_true q205
                      go_wp2_with (first | ((with_reducible refine gate_callee (f := 92) rfl ?_); refine goesL_ (some 33) rfl rfl Try.func92 (by kernel_rfl) rfl #[.agg #[.int .i64 ((rd_T73 l0 x6_2).f0), .int .i64 ((rd_T73 l0 x6_2).f1), .int .i64 ((rd_T73 l0 x6_2).f2), .int .i64 ((rd_T73 l0 x6_2).f3)]] rfl (by (try simp only [List.map_toArray, List.map_cons, List.map_nil]); first | done | rfl | (simp only [List.length_drop, List.length_take]; rfl)) ?_; (with_reducible refine (laws_toTerm.calls ((rd_T73 l0 x6_2).f0) ((rd_T73 l0 x6_2).f1) ((rd_T73 l0 x6_2).f2) ((rd_T73 l0 x6_2).f3) t206 t207 t208 t209 _ A14.out).mono ?_); rintro e w17 ⟨rfl, hb⟩; refine ⟨_, rfl, ?_⟩; have n0_ := Aside0.mk (Kd.R_below (by (with_reducible repeat (first | apply Kd.R_alloc | apply Kd.R_drewN | apply Kd.R_drew)); exact HO_5.out) hb); have n1_ := Aside0.mk (below_step (by repeat (first | (with_reducible first | exact HB.out | apply below_alloc | apply pw_below_drewN | apply below_drew1) | exact HB.out)) hb); clear HO_5; clear HB; have HO_5 := n0_; have HB := n1_; clear n0_ n1_; (try clear hb); (try clear hb2); (try clear hk); (try clear hi); have p16 : 0 ≤ (x6_2 : Int) := of_decide_eq_true (by first | (with_reducible assumption) | assumption); have q16 : (x6_2 : Int) < ((x5_2.length : Int) : Int) := of_decide_eq_true (by first | (with_reducible assumption) | assumption); obtain ⟨go16, co16, eo16, gb16, gl16, cl16, HG16⟩ := Kd.R_form HO_5.out (by omega); (first | cases eo16 | (injection eo16 with ea_ en_ ec_; (first | subst ea_ | (injection ea_ with ea_; subst ea_)); subst ec_; clear en_)); have GB16 := Aside0.mk gb16; have GG16 := Aside0.mk HG16; clear gb16 gl16 HG16; obtain ⟨ce16, hcl16, hM16, hcc16, hfr16⟩ := Kd.R_elem HO_5.out z71 (x6_2 : Int) p16 q16; obtain rfl := k71_openM hM16; have hx16_0 : w17.cell? ⟨go16, (x6_2 : Int).toNat * 4, none⟩ = some (.int .i64 ((rd_T71 x5_2 x6_2).f0)) := hcc16 0 _ rfl; have hx16_1 : w17.cell? ⟨go16, (x6_2 : Int).toNat * 4 + 1, none⟩ = some (.int .i64 ((rd_T71 x5_2 x6_2).f1)) := hcc16 1 _ rfl; have hx16_2 : w17.cell? ⟨go16, (x6_2 : Int).toNat * 4 + 2, none⟩ = some (.int .i64 ((rd_T71 x5_2 x6_2).f2)) := hcc16 2 _ rfl; have hx16_3 : w17.cell? ⟨go16, (x6_2 : Int).toNat * 4 + 3, none⟩ = some (.int .i64 ((rd_T71 x5_2 x6_2).f3)) := hcc16 3 _ rfl; have hf16_0 : w17.frozen? ⟨go16, (x6_2 : Int).toNat * 4, none⟩ = false := hfr16 0; have hf16_1 : w17.frozen? ⟨go16, (x6_2 : Int).toNat * 4 + 1, none⟩ = false := hfr16 1; have hf16_2 : w17.frozen? ⟨go16, (x6_2 : Int).toNat * 4 + 2, none⟩ = false := hfr16 2; have hf16_3 : w17.frozen? ⟨go16, (x6_2 : Int).toNat * 4 + 3, none⟩ = false := hfr16 3; clear hcl16 hcc16 hfr16 hM16; replace p16 := eq_true p16; replace q16 := eq_true q16; have HX18 := Aside0.mk (show Kd.R k71 71 w17 w.heap.size (fun _ => True) (.slice (some ⟨go16, 0, none⟩) x5_2.length co16) x5_2 from (by (with_reducible repeat (first | apply Kd.R_alloc | apply Kd.R_drewN | apply Kd.R_drew)); exact HO_5.out)); obtain ⟨ce18, hcl18, hM18, hcc18, hfr18⟩ := Kd.R_elem HX18.out z71 (x6_2 : Int) (of_decide_eq_true (by first | (with_reducible assumption) | assumption)) (by have h_ : (x6_2 : Int) < ((x5_2.length : Int) : Int) := of_decide_eq_true (by first | (with_reducible assumption) | assumption); first | exact h_ | (have e_ := (Kd.R_reads' HO_5.out).1; omega) | simpa using h_); obtain rfl := k71_openM hM18; have HP18 := Kd.R_seg HX18.out (x6_2 : Int) (of_decide_eq_true (by first | (with_reducible assumption) | assumption)) (by have h_ : (x6_2 : Int) < ((x5_2.length : Int) : Int) := of_decide_eq_true (by first | (with_reducible assumption) | assumption); first | exact h_ | (have e_ := (Kd.R_reads' HO_5.out).1; omega) | simpa using h_) (seg := [.int .i64 t206, .int .i64 t207, .int .i64 t208, .int .i64 t209]) (j := 0) hcl18 hcc18 (show 4 ≤ 4 from by decide) (x' := (⟨t206, t207, t208, t209⟩ : S71)) (k71_mkM _ _ _ (⟨t206, t207, t208, t209⟩ : S71) ) (fun _ hk => hk); have hx18_0 := hcc18 0 _ rfl; (try simp only [show (k71).sz = 4 from rfl, Nat.mul_one, Nat.add_zero] at hx18_0); have hf18_0 := hfr18 0; (try simp only [show (k71).sz = 4 from rfl, Nat.mul_one, Nat.add_zero] at hf18_0); have hx18_1 := hcc18 1 _ rfl; (try simp only [show (k71).sz = 4 from rfl, Nat.mul_one, Nat.add_zero] at hx18_1); have hf18_1 := hfr18 1; (try simp only [show (k71).sz = 4 from rfl, Nat.mul_one, Nat.add_zero] at hf18_1); have hx18_2 := hcc18 2 _ rfl; (try simp only [show (k71).sz = 4 from rfl, Nat.mul_one, Nat.add_zero] at hx18_2); have hf18_2 := hfr18 2; (try simp only [show (k71).sz = 4 from rfl, Nat.mul_one, Nat.add_zero] at hf18_2); have hx18_3 := hcc18 3 _ rfl; (try simp only [show (k71).sz = 4 from rfl, Nat.mul_one, Nat.add_zero] at hx18_3); have hf18_3 := hfr18 3; (try simp only [show (k71).sz = 4 from rfl, Nat.mul_one, Nat.add_zero] at hf18_3); clear hcl18 hcc18 hfr18 hM18) | ((with_reducible refine gate_store (t := 71) (p := 34) rfl ?_); refine store_event (t := 71) (p := 34) (v := ?vo_w19) (w1 := ((((w17.setCell ⟨go16, (x6_2 : Int).toNat * 4, none⟩ (.int .i64 t206)).setCell ⟨go16, (x6_2 : Int).toNat * 4 + 1, none⟩ (.int .i64 t207)).setCell ⟨go16, (x6_2 : Int).toNat * 4 + 2, none⟩ (.int .i64 t208)).setCell ⟨go16, (x6_2 : Int).toNat * 4 + 3, none⟩ (.int .i64 t209))) ?hg ?ho ?hn ?hr ?_; (case ho => rfl); (case hg => rfl); (case hn => rfl); (case hr => first | (go_simp; done) | (go_simp; rfl)); intro w19 hw; have hg : w17.grownBy w19 (some go16) := (by rw [hw]; exact HP18.2); have hp_ : Kd.R k71 71 w19 w.heap.size (fun _ => True) (.slice (some ⟨go16, 0, none⟩) x5_2.length co16) y210 := (by rw [hw, Ny210.out]; exact HP18.1); clear HP18; have n0_ := Aside0.mk (hp_); have n1_ := Aside0.mk ((by rw [hw]; exact below_set (below_set (below_set (below_set (HB.out) GB16.out) GB16.out) GB16.out) GB16.out : Below w.heap.size w w19)); clear HO_5; clear HB; have HO_5 := n0_; have HB := n1_; clear n0_ n1_; clear hg hw hp_))
                      go_roundg k2
                      case measure => have := HJ2.out; have := HK2.out; omega
                      case rel => exact ⟨(y210), (wrap64 (x6_2 + 1)), (by first | rfl | (simp; done) | (simp [*]; done)), H', ⟨by have := HJ2.out; have := HK2.out; omega⟩, ⟨by (with_reducible repeat (first | apply Kd.R_alloc | apply Kd.R_drewN | apply Kd.R_drew)); exact HO_5.out⟩, ⟨by repeat (first | (with_reducible first | exact HB.out | apply below_alloc | apply pw_below_drewN | apply below_drew1) | exact HB.out)⟩⟩
                    · rw [if_neg c15] at H
                      exact absurd H (by simp)
                  · rw [if_neg c13] at H
                    exact absurd H (by simp)
                · rw [if_neg c12] at H
                  have c12b0 : decide (x6_2 < (l0.length : Int)) = false := decide_eq_false c12
                  clear c12
                  have H' := Aside0.mk H
                  clear H
                  go_wp2
                  go_loopg [7] k2 (fun kq v7 w' => ∃ (x5_3 : List (S71)) (x7_3 : Int), v7 = .int .i64 x7_3 ∧ Aside0 (laws_toTermSW.l1 kq l0 x5_3 x7_3 = some r) ∧ Aside0 (kq ≤ k2) ∧ Aside0 (Kd.R k71 71 w' w.heap.size (fun _ => True) v203 x5_3) ∧ Aside0 (Below w.heap.size w w'))
                  case atStart => exact ⟨(x5_2), ((l0.length : Int)), (by first | rfl | (simp; done) | (simp [*]; done)), H', ⟨Nat.le_refl _⟩, ⟨by (with_reducible repeat (first | apply Kd.R_alloc | apply Kd.R_drewN | apply Kd.R_drew)); exact HO_5.out⟩, ⟨by repeat (first | (with_reducible first | exact HB.out | apply below_alloc | apply pw_below_drewN | apply below_drew1) | exact HB.out)⟩⟩
                  case round =>
                    clear H'
                    try clear c1
                    try clear p1
                    try clear q1
                    try clear hx1
                    try clear p2
                    try clear q2
                    try clear hx2
                    try clear c4
                    try clear c5
                    try clear p6
                    try clear c8
                    try clear c8b0
                    try clear c8b1
                    try clear c9
                    try clear c9b0
                    try clear c9b1
                    try clear c12
                    try clear c12b0
                    try clear c13
                    try clear c13b0
                    try clear c15
                    try clear c15b0
                    try clear c16
                    try clear p16
                    try clear q16
                    try clear hx16
                    try clear hf16
                    try clear c18
                    try clear hx18
                    try clear hf18
                    try clear hx16_0
                    try clear hx16_1
                    try clear hx16_2
                    try clear hx16_3
                    try clear hx18_0
                    try clear hx18_1
                    try clear hx18_2
                    try clear hx18_3
                    try clear hx205_0
                    try clear hx205_1
                    try clear hx205_2
                    try clear hx205_3
                    try clear p16
                    try clear p2
                    try clear p205
                    try clear p6
                    try clear q16
                    try clear q205
                    obtain ⟨x5_3, x7_3, rfl, HA, HK3, HO_5, HB⟩ := hrel
                    cases gk with
                    | zero => exact absurd HA.out (by simp [laws_toTermSW.l1])
                    | succ k3 =>
                      have H := HA.out
                      clear HA
                      simp only [laws_toTermSW.l1] at H
                      by_cases c20 : x7_3 < (x5_3.length : Int)
                      · rw [if_pos c20] at H
                        have c20b0 : decide (x7_3 < (x5_3.length : Int)) = true := decide_eq_true c20
                        clear c20
                        replace H := Option.bind_eq_some_iff.mp H
                        obtain ⟨⟨t211, t212, t213, t214⟩, A210, H⟩ := H
                        replace H : (if 0 ≤ x7_3 then (laws_toTermSW.l1 k3 l0 (x5_3.set (x7_3 : Int).toNat (⟨t211, t212, t213, t214⟩ : S71)) (wrap64 (x7_3 + 1))) else (none)) = some r := H
                        have A21 := Aside0.mk A210
                        clear A210
                        by_cases c22 : 0 ≤ x7_3
                        · rw [if_pos c22] at H
                          have c22b0 : decide (0 ≤ x7_3) = true := decide_eq_true c22
                          clear c22
                          obtain ⟨y215, hy215⟩ : ∃ y_ : List (S71), y_ = (x5_3.set (x7_3 : Int).toNat (⟨t211, t212, t213, t214⟩ : S71)) := ⟨_, rfl⟩
                          replace H : (laws_toTermSW.l1 k3 l0 y215 (wrap64 (x7_3 + 1))) = some r := by first | (rw [hy215]; with_reducible exact H) | (have H2_ := (Option.bind_some _ _).symm.trans H; rw [hy215]; with_reducible exact H2_) | (have H2_ := (Option.bind_some _ _).symm.trans H; with_reducible exact H2_) | with_reducible exact H | (rw [hy215]; exact H) | exact H
                          have Ny215 := Aside0.mk hy215
                          clear hy215
                          have H' := Aside0.mk H
                          clear H
                          obtain ⟨Ao24, co24, eo24⟩ := Kd.R_slice HO_5.out
                          subst eo24
                          go_wp2_with (first | ((with_reducible refine gate_callee (f := 93) rfl ?_); refine goesL_ (some 45) rfl rfl Try.func93 (by kernel_rfl) rfl #[] rfl (by (try simp only [List.map_toArray, List.map_cons, List.map_nil]); first | done | rfl | (simp only [List.length_drop, List.length_take]; rfl)) ?_; (with_reducible refine (laws_fillerTerm.calls  t211 t212 t213 t214 _ A21.out).mono ?_); rintro e w25 ⟨rfl, hb⟩; refine ⟨_, rfl, ?_⟩; have n0_ := Aside0.mk (Kd.R_below (by (with_reducible repeat (first | apply Kd.R_alloc | apply Kd.R_drewN | apply Kd.R_drew)); exact HO_5.out) hb); have n1_ := Aside0.mk (below_step (by repeat (first | (with_reducible first | exact HB.out | apply below_alloc | apply pw_below_drewN | apply below_drew1) | exact HB.out)) hb); clear HO_5; clear HB; have HO_5 := n0_; have HB := n1_; clear n0_ n1_; (try clear hb); (try clear hb2); (try clear hk); (try clear hi); have p23 : 0 ≤ (x7_3 : Int) := of_decide_eq_true (by first | (with_reducible assumption) | assumption); have q23 : (x7_3 : Int) < ((x5_3.length : Int) : Int) := of_decide_eq_true (by first | (with_reducible assumption) | assumption); obtain ⟨go23, co23, eo23, gb23, gl23, cl23, HG23⟩ := Kd.R_form HO_5.out (by omega); (first | cases eo23 | (injection eo23 with ea_ en_ ec_; (first | subst ea_ | (injection ea_ with ea_; subst ea_)); subst ec_; clear en_)); have GB23 := Aside0.mk gb23; have GG23 := Aside0.mk HG23; clear gb23 gl23 HG23; obtain ⟨ce23, hcl23, hM23, hcc23, hfr23⟩ := Kd.R_elem HO_5.out z71 (x7_3 : Int) p23 q23; obtain rfl := k71_openM hM23; have hx23_0 : w25.cell? ⟨go23, (x7_3 : Int).toNat * 4, none⟩ = some (.int .i64 ((rd_T71 x5_3 x7_3).f0)) := hcc23 0 _ rfl; have hx23_1 : w25.cell? ⟨go23, (x7_3 : Int).toNat * 4 + 1, none⟩ = some (.int .i64 ((rd_T71 x5_3 x7_3).f1)) := hcc23 1 _ rfl; have hx23_2 : w25.cell? ⟨go23, (x7_3 : Int).toNat * 4 + 2, none⟩ = some (.int .i64 ((rd_T71 x5_3 x7_3).f2)) := hcc23 2 _ rfl; have hx23_3 : w25.cell? ⟨go23, (x7_3 : Int).toNat * 4 + 3, none⟩ = some (.int .i64 ((rd_T71 x5_3 x7_3).f3)) := hcc23 3 _ rfl; have hf23_0 : w25.frozen? ⟨go23, (x7_3 : Int).toNat * 4, none⟩ = false := hfr23 0; have hf23_1 : w25.frozen? ⟨go23, (x7_3 : Int).toNat * 4 + 1, none⟩ = false := hfr23 1; have hf23_2 : w25.frozen? ⟨go23, (x7_3 : Int).toNat * 4 + 2, none⟩ = false := hfr23 2; have hf23_3 : w25.frozen? ⟨go23, (x7_3 : Int).toNat * 4 + 3, none⟩ = false := hfr23 3; clear hcl23 hcc23 hfr23 hM23; replace p23 := eq_true p23; replace q23 := eq_true q23; have HX26 := Aside0.mk (show Kd.R k71 71 w25 w.heap.size (fun _ => True) (.slice (some ⟨go23, 0, none⟩) x5_3.length co24) x5_3 from (by (with_reducible repeat (first | apply Kd.R_alloc | apply Kd.R_drewN | apply Kd.R_drew)); exact HO_5.out)); obtain ⟨ce26, hcl26, hM26, hcc26, hfr26⟩ := Kd.R_elem HX26.out z71 (x7_3 : Int) (of_decide_eq_true (by first | (with_reducible assumption) | assumption)) (by have h_ : (x7_3 : Int) < ((x5_3.length : Int) : Int) := of_decide_eq_true (by first | (with_reducible assumption) | assumption); first | exact h_ | (have e_ := (Kd.R_reads' HO_5.out).1; omega) | simpa using h_); obtain rfl := k71_openM hM26; have HP26 := Kd.R_seg HX26.out (x7_3 : Int) (of_decide_eq_true (by first | (with_reducible assumption) | assumption)) (by have h_ : (x7_3 : Int) < ((x5_3.length : Int) : Int) := of_decide_eq_true (by first | (with_reducible assumption) | assumption); first | exact h_ | (have e_ := (Kd.R_reads' HO_5.out).1; omega) | simpa using h_) (seg := [.int .i64 t211, .int .i64 t212, .int .i64 t213, .int .i64 t214]) (j := 0) hcl26 hcc26 (show 4 ≤ 4 from by decide) (x' := (⟨t211, t212, t213, t214⟩ : S71)) (k71_mkM _ _ _ (⟨t211, t212, t213, t214⟩ : S71) ) (fun _ hk => hk); have hx26_0 := hcc26 0 _ rfl; (try simp only [show (k71).sz = 4 from rfl, Nat.mul_one, Nat.add_zero] at hx26_0); have hf26_0 := hfr26 0; (try simp only [show (k71).sz = 4 from rfl, Nat.mul_one, Nat.add_zero] at hf26_0); have hx26_1 := hcc26 1 _ rfl; (try simp only [show (k71).sz = 4 from rfl, Nat.mul_one, Nat.add_zero] at hx26_1); have hf26_1 := hfr26 1; (try simp only [show (k71).sz = 4 from rfl, Nat.mul_one, Nat.add_zero] at hf26_1); have hx26_2 := hcc26 2 _ rfl; (try simp only [show (k71).sz = 4 from rfl, Nat.mul_one, Nat.add_zero] at hx26_2); have hf26_2 := hfr26 2; (try simp only [show (k71).sz = 4 from rfl, Nat.mul_one, Nat.add_zero] at hf26_2); have hx26_3 := hcc26 3 _ rfl; (try simp only [show (k71).sz = 4 from rfl, Nat.mul_one, Nat.add_zero] at hx26_3); have hf26_3 := hfr26 3; (try simp only [show (k71).sz = 4 from rfl, Nat.mul_one, Nat.add_zero] at hf26_3); clear hcl26 hcc26 hfr26 hM26) | ((with_reducible refine gate_store (t := 71) (p := 46) rfl ?_); refine store_event (t := 71) (p := 46) (v := ?vo_w27) (w1 := ((((w25.setCell ⟨go23, (x7_3 : Int).toNat * 4, none⟩ (.int .i64 t211)).setCell ⟨go23, (x7_3 : Int).toNat * 4 + 1, none⟩ (.int .i64 t212)).setCell ⟨go23, (x7_3 : Int).toNat * 4 + 2, none⟩ (.int .i64 t213)).setCell ⟨go23, (x7_3 : Int).toNat * 4 + 3, none⟩ (.int .i64 t214))) ?hg ?ho ?hn ?hr ?_; (case ho => rfl); (case hg => rfl); (case hn => rfl); (case hr => first | (go_simp; done) | (go_simp; rfl)); intro w27 hw; have hg : w25.grownBy w27 (some go23) := (by rw [hw]; exact HP26.2); have hp_ : Kd.R k71 71 w27 w.heap.size (fun _ => True) (.slice (some ⟨go23, 0, none⟩) x5_3.length co24) y215 := (by rw [hw, Ny215.out]; exact HP26.1); clear HP26; have n0_ := Aside0.mk (hp_); have n1_ := Aside0.mk ((by rw [hw]; exact below_set (below_set (below_set (below_set (HB.out) GB23.out) GB23.out) GB23.out) GB23.out : Below w.heap.size w w27)); clear HO_5; clear HB; have HO_5 := n0_; have HB := n1_; clear n0_ n1_; clear hg hw hp_))
                          go_roundg k3
                          case measure => have := HJ2.out; have := HK2.out; have := HK3.out; omega
                          case rel => exact ⟨(y215), (wrap64 (x7_3 + 1)), (by first | rfl | (simp; done) | (simp [*]; done)), H', ⟨by have := HJ2.out; have := HK2.out; have := HK3.out; omega⟩, ⟨by (with_reducible repeat (first | apply Kd.R_alloc | apply Kd.R_drewN | apply Kd.R_drew)); exact HO_5.out⟩, ⟨by repeat (first | (with_reducible first | exact HB.out | apply below_alloc | apply pw_below_drewN | apply below_drew1) | exact HB.out)⟩⟩
                        · rw [if_neg c22] at H
                          exact absurd H (by simp)
                      · rw [if_neg c20] at H
                        have c20b0 : decide (x7_3 < (x5_3.length : Int)) = false := decide_eq_false c20
                        clear c20
                        by_cases c28 : 0 ≤ (l0.length : Int)
                        · rw [if_pos c28] at H
                          have c28b0 := eq_true c28
                          have c28b1 : decide (0 ≤ (l0.length : Int)) = true := decide_eq_true c28
                          clear c28
                          by_cases c29 : (l0.length : Int) ≤ (x5_3.length : Int)
                          · rw [if_pos c29] at H
                            have c29b0 := eq_true c29
                            have c29b1 : decide ((l0.length : Int) ≤ (x5_3.length : Int)) = true := decide_eq_true c29
                            clear c29
                            obtain ⟨y216, hy216⟩ : ∃ y_ : List (S71), y_ = (x5_3.take ((l0.length : Int) : Int).toNat) := ⟨_, rfl⟩
                            have Ny216 := Aside0.mk hy216
                            clear hy216
                            have HR_ := Aside0.mk (Option.some.inj H)
                            obtain ⟨Ao30, co30, eo30⟩ := Kd.R_slice HO_5.out
                            subst eo30
                            have q31 : ((l0.length : Int) : Int) ≤ ((x5_3.length : Int) : Int) := of_decide_eq_true (by first | (with_reducible assumption) | assumption)
                            obtain ⟨i031, hi031, _, hsz31, _⟩ := info_parts info71
                            have hcut31 := cut_to (P := Try.prog) 49 71 .i64 Try.underlying49 hi031 Ao30 x5_3.length co30 (l0.length : Int) (of_decide_eq_true (by first | (with_reducible assumption) | assumption)) q31 (Kd.R_reads' HO_5.out).2.1
                            have hr31 := Kd.R_take (m := ((l0.length : Int) : Int).toNat) HO_5.out (by omega)
                            have hy31 : y216.length = ((l0.length : Int) : Int).toNat := (by rw [Ny216.out, List.length_take]; omega)
                            rw [← Ny216.out] at hr31
                            rw [← hy31] at hr31 hcut31
                            have HY_ : Aside0 (y216.length = l0.length) := ⟨by rw [hy31]; simp⟩
                            clear hy31 hi031 hsz31
                            have HO218 := Aside0.mk hr31
                            clear hr31
                            replace q31 := eq_true q31
                            go_wp2
                            go_ret
                            exact ⟨Ao30, co30, by first | rfl | (rw [HY_.out]; done) | (simp [HY_.out]; done), by rw [← HR_.out]; (with_reducible repeat (first | apply Kd.R_alloc | apply Kd.R_drewN | apply Kd.R_drew)); first | exact HO_5.out | exact Kd.R_mono HO_5.out (fun _ _ => trivial), (by repeat (first | (with_reducible first | exact HB.out | apply below_alloc | apply pw_below_drewN | apply below_drew1) | exact HB.out))⟩
                          · rw [if_neg c29] at H
                            exact absurd H (by simp)
                        · rw [if_neg c28] at H
                          exact absurd H (by simp)
          · rw [if_neg c9] at H
            exact absurd H (by simp)
        · rw [if_neg c8] at H
          exact absurd H (by simp)

/-! ### rows of S71 with room behind -/
def cvTermS (x : S73) : S71 := ⟨x.f0, x.f1, x.f2, x.f3⟩
def fillTermS : S71 := ⟨-7000000000000000101, -7000000000000000101, -7000000000000000101, -7000000000000000101⟩
def padTermS (l : List S73) : List S71 := l.map cvTermS ++ List.replicate (room l.length) fillTermS
theorem padTermS_length (l : List S73) : (padTermS l).length = l.length + room l.length := by simp [padTermS]
theorem set_fillTermS (Q : List S71) (F i : Nat) (h : i < Q.length) (hF : Q.length ≤ F) : (Q.take i ++ List.replicate (F - i) z71).set i Q[i] = Q.take (i + 1) ++ List.replicate (F - (i + 1)) z71 := by
  have h1 : F - i = (F - (i + 1)) + 1 := by omega
  rw [h1, List.replicate_succ, List.set_append_right _ _ (by simp; omega)]
  have h2 : i - (Q.take i).length = 0 := by simp; omega
  rw [h2, List.set_cons_zero, List.take_succ_eq_append_getElem h, List.append_assoc]
  rfl
theorem set_fill2TermS (Q : List S71) (F i : Nat) (h : Q.length ≤ i) (hF : i < F) : (Q ++ (List.replicate (i - Q.length) fillTermS ++ List.replicate (F - i) z71)).set i fillTermS = Q ++ (List.replicate (i + 1 - Q.length) fillTermS ++ List.replicate (F - (i + 1)) z71) := by
  have h1 : F - i = (F - (i + 1)) + 1 := by omega
  rw [List.set_append_right _ _ h, List.set_append_right _ _ (by simp), h1, List.replicate_succ]
  have h2 : i - Q.length - (List.replicate (i - Q.length) fillTermS).length = 0 := by simp
  rw [h2, List.set_cons_zero]
  have h3 : i + 1 - Q.length = (i - Q.length) + 1 := by omega
  rw [h3, List.replicate_succ', List.append_assoc]
  rfl

theorem laws_toTermS_l1 (l : List S73) (F : Nat) (hF : F ≤ 3000000) (hlF : l.length ≤ F) (d : Nat) : ∀ (k i : Nat), l.length ≤ i → i ≤ F → F - i = d → d < k → laws_toTermS.l1 k l (l.map cvTermS ++ (List.replicate (i - l.length) fillTermS ++ List.replicate (F - i) z71)) (i : Int) = some (l.map cvTermS) := by
  induction d with
  | zero =>
    intro k i h0 h1 hd hk
    obtain ⟨k, rfl⟩ : ∃ m, k = m + 1 := ⟨k - 1, by omega⟩
    have e : i = F := by omega
    subst e
    simp only [laws_toTermS.l1]; rw [if_neg (by simp only [List.length_append, List.length_replicate, List.length_map]; omega), if_pos (by omega), if_pos (by simp only [List.length_append, List.length_replicate, List.length_map]; omega)]
    simp
  | succ d ih =>
    intro k i h0 h1 hd hk
    obtain ⟨k, rfl⟩ : ∃ m, k = m + 1 := ⟨k - 1, by omega⟩
    have hs := set_fill2TermS (l.map cvTermS) F i (by simpa using h0) (by omega)
    simp only [List.length_map] at hs
    simp only [laws_toTermS.l1]; rw [if_pos (by simp only [List.length_append, List.length_replicate, List.length_map]; omega), show laws_fillerTerm.f = some ((-7000000000000000101), (-7000000000000000101), (-7000000000000000101), (-7000000000000000101)) from rfl, Option.bind_some, if_pos (by omega), show wrap64 ((i : Int) + 1) = ((i + 1 : Nat) : Int) by unfold wrap64; omega, Int.toNat_natCast]
    change laws_toTermS.l1 k l ((l.map cvTermS ++ (List.replicate (i - l.length) fillTermS ++ List.replicate (F - i) z71)).set i fillTermS) _ = _
    rw [hs]
    exact ih k (i + 1) (by omega) (by omega) (by omega) (by omega)
theorem laws_toTermS_l0 (l : List S73) (F : Nat) (hF : F ≤ 3000000) (hlF : l.length ≤ F) (d : Nat) : ∀ (k i : Nat), i ≤ l.length → l.length - i = d → d + F + 2 < k → laws_toTermS.l0 k l ((l.map cvTermS).take i ++ List.replicate (F - i) z71) (i : Int) = some (l.map cvTermS) := by
  induction d with
  | zero =>
    intro k i h1 hd hk
    obtain ⟨k, rfl⟩ : ∃ m, k = m + 1 := ⟨k - 1, by omega⟩
    have e : i = l.length := by omega
    subst e
    simp only [laws_toTermS.l0]; rw [if_neg (by omega)]
    have h := laws_toTermS_l1 l F hF hlF (F - l.length) k l.length (Nat.le_refl _) hlF rfl (by omega)
    simp only [Nat.sub_self, List.replicate_zero, List.nil_append] at h
    rw [List.take_of_length_le (by simp)]
    exact h
  | succ d ih =>
    intro k i h1 hd hk
    obtain ⟨k, rfl⟩ : ∃ m, k = m + 1 := ⟨k - 1, by omega⟩
    have hi : i < l.length := by omega
    have hs := set_fillTermS (l.map cvTermS) F i (by simpa using hi) (by simpa using hlF)
    have hr : rd_T73 l (i : Int) = l[i] := by simp [rd_T73, hi]
    simp only [laws_toTermS.l0]; rw [if_pos (by omega), if_pos (by omega), hr, show laws_toTerm.f l[i].f0 l[i].f1 l[i].f2 l[i].f3 = some (l[i].f0, l[i].f1, l[i].f2, l[i].f3) from rfl, Option.bind_some, if_pos (by simp only [List.length_append, List.length_take, List.length_replicate, List.length_map]; omega), show wrap64 ((i : Int) + 1) = ((i + 1 : Nat) : Int) by unfold wrap64; omega, Int.toNat_natCast]
    have hc : (⟨l[i].f0, l[i].f1, l[i].f2, l[i].f3⟩ : S71) = (l.map cvTermS)[i]'(by simpa using hi) := by simp [cvTermS]
    change laws_toTermS.l0 k l (((l.map cvTermS).take i ++ List.replicate (F - i) z71).set i (⟨l[i].f0, l[i].f1, l[i].f2, l[i].f3⟩ : S71)) _ = _
    rw [hc, hs]
    exact ih k (i + 1) (by omega) (by omega) (by omega)
theorem laws_toTermS_j0 (l : List S73) (hn : l.length ≤ 1000000) (F : Nat) (hF : l.length + room l.length = F) (k : Nat) (hk : l.length + F + 2 < k) : laws_toTermS.j0 (k + 1) l false = some (l.map cvTermS) := by
  have hr := room_le l.length
  have hw : wrap64 ((l.length : Int) + (room l.length : Int)) = (F : Int) := by unfold wrap64; omega
  have h := laws_toTermS_l0 l F (by omega) (by omega) l.length k 0 (by omega) (by omega) hk
  simp only [laws_toTermS.j0]
  rw [if_neg (by decide), roomBehind_eq, Option.bind_some, hw, if_pos (by omega), Int.toNat_natCast, if_pos (by omega)]
  simpa using h

theorem laws_toTermSW_l1 (l : List S73) (F : Nat) (hF : F ≤ 3000000) (hlF : l.length ≤ F) (d : Nat) : ∀ (k i : Nat), l.length ≤ i → i ≤ F → F - i = d → d < k → laws_toTermSW.l1 k l (l.map cvTermS ++ (List.replicate (i - l.length) fillTermS ++ List.replicate (F - i) z71)) (i : Int) = some (l.map cvTermS ++ List.replicate (F - l.length) fillTermS) := by
  induction d with
  | zero =>
    intro k i h0 h1 hd hk
    obtain ⟨k, rfl⟩ : ∃ m, k = m + 1 := ⟨k - 1, by omega⟩
    have e : i = F := by omega
    subst e
    simp only [laws_toTermSW.l1]; rw [if_neg (by simp only [List.length_append, List.length_replicate, List.length_map]; omega), if_pos (by omega), if_pos (by simp only [List.length_append, List.length_replicate, List.length_map]; omega)]
    simp
  | succ d ih =>
    intro k i h0 h1 hd hk
    obtain ⟨k, rfl⟩ : ∃ m, k = m + 1 := ⟨k - 1, by omega⟩
    have hs := set_fill2TermS (l.map cvTermS) F i (by simpa using h0) (by omega)
    simp only [List.length_map] at hs
    simp only [laws_toTermSW.l1]; rw [if_pos (by simp only [List.length_append, List.length_replicate, List.length_map]; omega), show laws_fillerTerm.f = some ((-7000000000000000101), (-7000000000000000101), (-7000000000000000101), (-7000000000000000101)) from rfl, Option.bind_some, if_pos (by omega), show wrap64 ((i : Int) + 1) = ((i + 1 : Nat) : Int) by unfold wrap64; omega, Int.toNat_natCast]
    change laws_toTermSW.l1 k l ((l.map cvTermS ++ (List.replicate (i - l.length) fillTermS ++ List.replicate (F - i) z71)).set i fillTermS) _ = _
    rw [hs]
    exact ih k (i + 1) (by omega) (by omega) (by omega) (by omega)
theorem laws_toTermSW_l0 (l : List S73) (F : Nat) (hF : F ≤ 3000000) (hlF : l.length ≤ F) (d : Nat) : ∀ (k i : Nat), i ≤ l.length → l.length - i = d → d + F + 2 < k → laws_toTermSW.l0 k l ((l.map cvTermS).take i ++ List.replicate (F - i) z71) (i : Int) = some (l.map cvTermS ++ List.replicate (F - l.length) fillTermS) := by
  induction d with
  | zero =>
    intro k i h1 hd hk
    obtain ⟨k, rfl⟩ : ∃ m, k = m + 1 := ⟨k - 1, by omega⟩
    have e : i = l.length := by omega
    subst e
    simp only [laws_toTermSW.l0]; rw [if_neg (by omega)]
    have h := laws_toTermSW_l1 l F hF hlF (F - l.length) k l.length (Nat.le_refl _) hlF rfl (by omega)
    simp only [Nat.sub_self, List.replicate_zero, List.nil_append] at h
    rw [List.take_of_length_le (by simp)]
    exact h
  | succ d ih =>
    intro k i h1 hd hk
    obtain ⟨k, rfl⟩ : ∃ m, k = m + 1 := ⟨k - 1, by omega⟩
    have hi : i < l.length := by omega
    have hs := set_fillTermS (l.map cvTermS) F i (by simpa using hi) (by simpa using hlF)
    have hr : rd_T73 l (i : Int) = l[i] := by simp [rd_T73, hi]
    simp only [laws_toTermSW.l0]; rw [if_pos (by omega), if_pos (by omega), hr, show laws_toTerm.f l[i].f0 l[i].f1 l[i].f2 l[i].f3 = some (l[i].f0, l[i].f1, l[i].f2, l[i].f3) from rfl, Option.bind_some, if_pos (by simp only [List.length_append, List.length_take, List.length_replicate, List.length_map]; omega), show wrap64 ((i : Int) + 1) = ((i + 1 : Nat) : Int) by unfold wrap64; omega, Int.toNat_natCast]
    have hc : (⟨l[i].f0, l[i].f1, l[i].f2, l[i].f3⟩ : S71) = (l.map cvTermS)[i]'(by simpa using hi) := by simp [cvTermS]
    change laws_toTermSW.l0 k l (((l.map cvTermS).take i ++ List.replicate (F - i) z71).set i (⟨l[i].f0, l[i].f1, l[i].f2, l[i].f3⟩ : S71)) _ = _
    rw [hc, hs]
    exact ih k (i + 1) (by omega) (by omega) (by omega)
theorem laws_toTermSW_j0 (l : List S73) (hn : l.length ≤ 1000000) (F : Nat) (hF : l.length + room l.length = F) (k : Nat) (hk : l.length + F + 2 < k) : laws_toTermSW.j0 (k + 1) l false = some (l.map cvTermS ++ List.replicate (F - l.length) fillTermS) := by
  have hr := room_le l.length
  have hw : wrap64 ((l.length : Int) + (room l.length : Int)) = (F : Int) := by unfold wrap64; omega
  have h := laws_toTermSW_l0 l F (by omega) (by omega) l.length k 0 (by omega) (by omega) hk
  simp only [laws_toTermSW.j0]
  rw [if_neg (by decide), roomBehind_eq, Option.bind_some, hw, if_pos (by omega), Int.toNat_natCast, if_pos (by omega)]
  simpa using h

theorem toTermS_whole (l : List S73) (hn : l.length ≤ 1000000) : ∃ k, laws_toTermSW.f k l false = some (padTermS l) := by
  refine ⟨(l.length + (l.length + room l.length) + 3) + 1, ?_⟩
  unfold laws_toTermSW.f
  rw [if_neg (by decide), laws_toTermSW_j0 l hn _ rfl _ (by omega)]
  unfold padTermS
  rw [show l.length + room l.length - l.length = room l.length by omega]
theorem toTermS_bare (l : List S73) (hn : l.length ≤ 1000000) : ∃ k, laws_toTermS.f k l true = some (l.map cvTermS) := by
  refine ⟨(l.length + (l.length + room l.length) + 3) + 1, ?_⟩
  unfold laws_toTermS.f
  rw [if_pos rfl]
  by_cases h : l = []
  · subst h
    rfl
  · have e : ((l.length : Int) == 0) = false := by
      have : 0 < l.length := List.length_pos_iff.2 h
      simp only [beq_eq_false_iff_ne]; omega
    rw [e]
    exact laws_toTermS_j0 l hn _ rfl _ (by omega)
theorem eqTerm_self (a0 : Int) (a1 : Int) (a2 : Int) (a3 : Int) : laws_eqTerm.f a0 a1 a2 a3 a0 a1 a2 a3 = some true := by unfold laws_eqTerm.f; simp

theorem eqTermS_loop (l : List S71) (hn : l.length ≤ 1000000000) (d : Nat) : ∀ (k : Nat) (i : Nat), i ≤ l.length → l.length - i = d → d < k → laws_eqTermS.l0 k l l (i : Int) = some true := by
  induction d with
  | zero =>
    intro k i h0 hd hk
    obtain ⟨k, rfl⟩ : ∃ m, k = m + 1 := ⟨k - 1, by omega⟩
    simp only [laws_eqTermS.l0]; rw [if_neg (by omega)]
  | succ d ih =>
    intro k i h0 hd hk
    obtain ⟨k, rfl⟩ : ∃ m, k = m + 1 := ⟨k - 1, by omega⟩
    simp only [laws_eqTermS.l0]; rw [if_pos (by omega), if_pos (by omega), if_pos (by omega), eqTerm_self, Option.bind_some, if_pos rfl, show wrap64 ((i : Int) + 1) = ((i + 1 : Nat) : Int) by unfold wrap64; omega]
    exact ih k (i + 1) (by omega) (by omega) (by omega)
theorem eqTermS_self (l : List S71) (hn : l.length ≤ 1000000000) : laws_eqTermS.f (l.length + 1) l l = some true := by
  unfold laws_eqTermS.f
  rw [if_pos rfl]
  exact eqTermS_loop l hn l.length (l.length + 1) 0 (by omega) (by omega) (by omega)
def laws_intactTermS.T2 : Bool × List (List Nat × List Nat) := (true, [([], []), ([0], [0]), ([], []), ([2], [2]), ([1, 3], [1, 3]), ([4], [4]), ([5], [5]), ([5], [5]), ([6, 7, 5], [5, 6, 7]), ([5], [5]), ([5], [5]), ([9, 10, 5], [5, 9, 10]), ([8, 11, 5, 5], [5, 8, 11]), ([5, 12], [5, 12]), ([13, 12, 0, 1, 2, 3, 4, 5, 6, 7, 8, 9, 10, 11, 12, 13], [13])])
def laws_intactTermS.B2 : List Nat := [0, 1, 0, 4, 15, 31, 63, 63, 255, 63, 63, 1599, 4095, 8191, 16383]
theorem laws_intactTermS.tab2 : rtab .any (opsOf Try.f48 2) = laws_intactTermS.T2 := by kernel_rfl
theorem laws_intactTermS.bits2 : waitsOk laws_intactTermS.T2.2 laws_intactTermS.B2 = true := by kernel_rfl
set_option maxHeartbeats 8000000 in
set_option maxRecDepth 100000 in
theorem laws_intactTermS.pad (k : Nat) (A0 A1 : Option Addr) (c0 c1 n : Nat) (p : List S71) (w : World) (hr0 : Kd.C k71 w A0 p.length p) (hc0 : p.length ≤ c0) (hr1 : Kd.C k71 w A1 p.length p) (hc1 : p.length ≤ c1) (hp : p.length = n + room n) (hn : n ≤ 1000000) (he : laws_eqTermS.f k p p = some true) :
    Calls Try.prog 48 #[.slice A0 n c0, .slice A1 n c1] w fun e w' => e = .returned (.bool true) ∧ Below w.heap.size w w' := by
  have hmb := room_le n
  have HR132 := Aside0.mk hr0
  have HC132 := Aside0.mk hc0
  have HR136 := Aside0.mk hr1
  have HC136 := Aside0.mk hc1
  have HB := Aside0.mk (Below.refl w.heap.size w)
  have A3 := Aside0.mk (roomBehind_eq n)
  have A10 := Aside0.mk he
  obtain ⟨ji5, hji5⟩ : ∃ j_ : Int, (wrap64 ((n : Int) + (room n : Int))) = j_ := ⟨_, rfl⟩
  have hje : ji5 = (p.length : Int) := by rw [← hji5, hp]; unfold wrap64; omega
  have hji5w : (IntKind.i64.wrap ((n : Int) + (room n : Int))) = ji5 := (i64_w _).trans hji5
  have c4b0 : ((n : Int) == (n : Int)) = true := by simp
  have c4b1 : ((n : Int) != (n : Int)) = false := by simp
  have c4b2 : (n == n) = true := by simp
  have c6b0 : (0 ≤ ji5) = True := eq_true (by omega)
  have c6b1 : decide (0 ≤ ji5) = true := decide_eq_true (by omega)
  obtain ⟨i0_, hi0_, _, hsz0_, _⟩ := info_parts info71
  have hcut12 := cut_room (P := Try.prog) 49 71 .i64 Try.underlying49 hi0_ A0 n c0 ji5 (by omega) (by omega)
  have hcut13 := cut_room (P := Try.prog) 49 71 .i64 Try.underlying49 hi0_ A1 n c1 ji5 (by omega) (by omega)
  rw [show ji5.toNat = p.length by omega] at hcut12 hcut13
  clear hmb hje hr0 hc0 hr1 hc1 he hp hi0_ hsz0_ hn
  go_enter Try.func48, Try.ntmps48
  try go_wp2_with (first | ((with_reducible refine gate_callee (f := 56) rfl ?_); refine goesL_ (some 10) rfl rfl Try.func56 (by kernel_rfl) rfl #[.int .i64 (n : Int)] rfl (by (try simp only [List.map_toArray, List.map_cons, List.map_nil]); first | done | rfl | (simp only [List.length_drop, List.length_take]; rfl)) ?_; (with_reducible refine (laws_roomBehind.calls (n : Int) (room n : Int) _ A3.out).mono ?_); rintro e w' ⟨rfl, ⟨nd, rfl⟩⟩; refine ⟨_, rfl, ?_⟩))
  refine start_ (n := 15) (S := fun w' => True) (ds := []) #[false, false, false, false, false, false, false, false, false, false, false, false, false, false, false] (by kernel_rfl) rfl rfl trivial (fun hHeld => ?_); refine with_tabW laws_intactTermS.tab2 laws_intactTermS.bits2 (fun HT_ HW_ => ?_)
  generalize hq_ : World.drew _ = w11 at hHeld ⊢
  have nHR132_ : Aside0 (Kd.C k71 w11 A0 p.length p) := ⟨by rw [← hq_]; exact (by repeat (first | exact HR132.out | (with_reducible refine Kd.C_alloc ?_ _) | (with_reducible refine Kd.C_drewN ?_ _) | (with_reducible refine Kd.C_drew ?_)))⟩
  have nHR136_ : Aside0 (Kd.C k71 w11 A1 p.length p) := ⟨by rw [← hq_]; exact (by repeat (first | exact HR136.out | (with_reducible refine Kd.C_alloc ?_ _) | (with_reducible refine Kd.C_drewN ?_ _) | (with_reducible refine Kd.C_drew ?_)))⟩
  have nHB_ : Aside0 (Below w.heap.size w w11) := ⟨by rw [← hq_]; exact (by repeat (first | (with_reducible first | exact HB.out | apply below_alloc | apply pw_below_drewN | apply below_drew1) | exact HB.out))⟩
  clear hq_ HR132 HR136 HB
  have HR132 := nHR132_
  have HR136 := nHR136_
  have HB := nHB_
  clear nHR132_ nHR136_ nHB_
  refine pure_ (i := 0) (N := some 12) (v := ?_) (a' := ?_) #[true, false, false, false, false, false, false, false, false, false, false, false, false, false, false] rfl rfl (any_of HT_.out (by kernel_rfl)) (fun _ _ _ h => h) (Or.inl ⟨by rfl, ?_⟩) ?_ ?_
  rotate_left
  · intro w'
    go_simp
    with_reducible rfl
  rotate_left
  · simp only [Act.put, List.setIfInBounds_toArray, List.set_cons_zero, List.set_cons_succ, i64_w, i32_w]
    rfl
  refine pure_ (i := 1) (N := some 13) (v := ?_) (a' := ?_) #[true, true, false, false, false, false, false, false, false, false, false, false, false, false, false] rfl rfl (any_of HT_.out (by kernel_rfl)) (fun _ _ _ h => h) (Or.inl ⟨by rfl, ?_⟩) ?_ ?_
  rotate_left
  · intro w'
    go_simp
    with_reducible rfl
  rotate_left
  · simp only [Act.put, List.setIfInBounds_toArray, List.set_cons_zero, List.set_cons_succ, i64_w, i32_w]
    rfl
  refine pure_ (i := 2) (N := some 14) (v := ?_) (a' := ?_) #[true, true, true, false, false, false, false, false, false, false, false, false, false, false, false] rfl rfl (any_of HT_.out (by kernel_rfl)) (fun _ _ _ h => h) (Or.inl ⟨by rfl, ?_⟩) ?_ ?_
  rotate_left
  · intro w'
    go_simp
    with_reducible rfl
  rotate_left
  · simp only [Act.put, List.setIfInBounds_toArray, List.set_cons_zero, List.set_cons_succ, i64_w, i32_w]
    rfl
  refine pure_ (i := 3) (N := some 15) (v := ?_) (a' := ?_) #[true, true, true, true, false, false, false, false, false, false, false, false, false, false, false] rfl rfl (any_of HT_.out (by kernel_rfl)) (fun _ _ _ h => h) (Or.inl ⟨by rfl, ?_⟩) ?_ ?_
  rotate_left
  · intro w'
    go_simp
    with_reducible rfl
  rotate_left
  · simp only [Act.put, List.setIfInBounds_toArray, List.set_cons_zero, List.set_cons_succ, i64_w, i32_w]
    rfl
  refine pure_ (i := 4) (N := some 16) (v := ?_) (a' := ?_) #[true, true, true, true, true, false, false, false, false, false, false, false, false, false, false] rfl rfl (any_of HT_.out (by kernel_rfl)) (fun _ _ _ h => h) (Or.inl ⟨by rfl, ?_⟩) ?_ ?_
  rotate_left
  · intro w'
    go_simp
    with_reducible rfl
  rotate_left
  · simp only [Act.put, List.setIfInBounds_toArray, List.set_cons_zero, List.set_cons_succ, i64_w, i32_w]
    rfl
  refine pure_ (i := 5) (N := some 17) (v := ?_) (a' := ?_) #[true, true, true, true, true, true, false, false, false, false, false, false, false, false, false] rfl rfl (any_of HT_.out (by kernel_rfl)) (fun _ _ _ h => h) (Or.inl ⟨by rfl, ?_⟩) ?_ ?_
  rotate_left
  · intro w'
    go_simp
    with_reducible rfl
  rotate_left
  · simp only [Act.put, List.setIfInBounds_toArray, List.set_cons_zero, List.set_cons_succ, i64_w, i32_w]
    rfl
  refine pure_ (i := 6) (N := some 18) (v := ?_) (a' := ?_) #[true, true, true, true, true, true, true, false, false, false, false, false, false, false, false] rfl rfl (any_of HT_.out (by kernel_rfl)) (fun _ _ _ h => h) (Or.inl ⟨by rfl, ?_⟩) ?_ ?_
  rotate_left
  · intro w'
    go_simp
    with_reducible rfl
  rotate_left
  · simp only [Act.put, List.setIfInBounds_toArray, List.set_cons_zero, List.set_cons_succ, i64_w, i32_w]
    rfl
  refine pure_ (i := 7) (N := some 19) (v := ?_) (a' := ?_) #[true, true, true, true, true, true, true, true, false, false, false, false, false, false, false] rfl rfl (any_of HT_.out (by kernel_rfl)) (fun _ _ _ h => h) (Or.inl ⟨by rfl, ?_⟩) ?_ ?_
  rotate_left
  · intro w'
    go_simp
    with_reducible rfl
  rotate_left
  · simp only [Act.put, List.setIfInBounds_toArray, List.set_cons_zero, List.set_cons_succ, i64_w, i32_w]
    rfl
  refine pure_ (i := 8) (N := some 20) (v := ?_) (a' := ?_) #[true, true, true, true, true, true, true, true, true, false, false, false, false, false, false] rfl rfl (any_of HT_.out (by kernel_rfl)) (fun _ _ _ h => h) (Or.inl ⟨by rfl, ?_⟩) ?_ ?_
  rotate_left
  · intro w'
    go_simp
    with_reducible rfl
  rotate_left
  · simp only [Act.put, List.setIfInBounds_toArray, List.set_cons_zero, List.set_cons_succ, i64_w, i32_w]
    rfl
  refine pure_ (i := 9) (N := some 21) (v := ?_) (a' := ?_) #[true, true, true, true, true, true, true, true, true, true, false, false, false, false, false] rfl rfl (any_of HT_.out (by kernel_rfl)) (fun _ _ _ h => h) (Or.inl ⟨by rfl, ?_⟩) ?_ ?_
  rotate_left
  · intro w'
    go_simp
    with_reducible rfl
  rotate_left
  · simp only [Act.put, List.setIfInBounds_toArray, List.set_cons_zero, List.set_cons_succ, i64_w, i32_w]
    rfl
  refine pure_ (i := 10) (N := some 22) (v := ?_) (a' := ?_) #[true, true, true, true, true, true, true, true, true, true, true, false, false, false, false] rfl rfl (any_of HT_.out (by kernel_rfl)) (fun _ _ _ h => h) (Or.inl ⟨by rfl, ?_⟩) ?_ ?_
  rotate_left
  · intro w'
    go_simp
    with_reducible rfl
  rotate_left
  · simp only [Act.put, List.setIfInBounds_toArray, List.set_cons_zero, List.set_cons_succ, i64_w, i32_w]
    rfl
  refine pure_ (i := 11) (N := some 23) (v := ?_) (a' := ?_) #[true, true, true, true, true, true, true, true, true, true, true, true, false, false, false] rfl rfl (any_of HT_.out (by kernel_rfl)) (fun _ _ _ h => h) (Or.inl ⟨by rfl, ?_⟩) ?_ ?_
  rotate_left
  · intro w'
    go_simp
    with_reducible rfl
  rotate_left
  · simp only [Act.put, List.setIfInBounds_toArray, List.set_cons_zero, List.set_cons_succ, i64_w, i32_w]
    rfl
  refine one_ (i := 12) (N := some 24) #[true, true, true, true, true, true, true, true, true, true, true, true, true, false, false] rfl rfl (one_of HT_.out (by kernel_rfl)) (by decide) (fun K hK => ?_)
  refine goes_ Try.func52 (by kernel_rfl) rfl #[.slice A0 p.length c0, .slice A1 p.length c1] (by rfl) rfl rfl (by (try simp only [List.map_toArray, List.map_cons, List.map_nil]); first | done | rfl | (simp only [List.length_drop, List.length_take]; rfl)) ?_
  with_reducible refine (laws_eqTermS.calls k _ _ p _ _ p true _ ?side1 ?side2 ?side3 ?side4 A10.out).mono ?_
  (case side1 => repeat (first | exact HR132.out | exact (Kd.C_below HR132.out HB.out) | (with_reducible refine Kd.C_alloc ?_ _) | (with_reducible refine Kd.C_drewN ?_ _) | (with_reducible refine Kd.C_drew ?_)))
  (case side2 => exact HC132.out)
  (case side3 => repeat (first | exact HR136.out | exact (Kd.C_below HR136.out HB.out) | (with_reducible refine Kd.C_alloc ?_ _) | (with_reducible refine Kd.C_drewN ?_ _) | (with_reducible refine Kd.C_drew ?_)))
  (case side4 => exact HC136.out)
  rintro e w14 ⟨rfl, hb⟩
  refine ⟨_, rfl, ?_⟩
  have n0_ := Aside0.mk (below_step (by repeat (first | (with_reducible first | exact HB.out | apply below_alloc | apply pw_below_drewN | apply below_drew1) | exact HB.out)) hb)
  clear HB
  have HB := n0_
  clear n0_
  (try clear hb)
  (try clear hb2)
  (try clear hk)
  (try clear hi)
  refine hK.out _ _ trivial (fun hHeld => ?_)
  clear hK K
  refine norm_ (a' := ?_) ?_ ?_
  rotate_left
  · show Act.put _ (some 24) _ = _
    simp only [Act.put, List.setIfInBounds_toArray, List.set_cons_zero, List.set_cons_succ, i64_w, i32_w]
    rfl
  refine pure_ (i := 13) (N := some 25) (v := ?_) (a' := ?_) #[true, true, true, true, true, true, true, true, true, true, true, true, true, true, false] rfl rfl (any_of HT_.out (by kernel_rfl)) (fun _ _ _ h => h) (Or.inl ⟨by rfl, ?_⟩) ?_ ?_
  rotate_left
  · intro w'
    go_simp
    with_reducible rfl
  rotate_left
  · simp only [Act.put, List.setIfInBounds_toArray, List.set_cons_zero, List.set_cons_succ, i64_w, i32_w]
    rfl
  refine pure_ (i := 14) (N := some 4) (v := ?_) (a' := ?_) #[true, true, true, true, true, true, true, true, true, true, true, true, true, true, true] rfl rfl (any_of HT_.out (by kernel_rfl)) (fun _ _ _ h => h) (Or.inl ⟨by rfl, ?_⟩) ?_ ?_
  rotate_left
  · intro w'
    go_simp
    with_reducible rfl
  rotate_left
  · simp only [Act.put, List.setIfInBounds_toArray, List.set_cons_zero, List.set_cons_succ, i64_w, i32_w]
    rfl
  refine done_ (done_of HT_.out (by kernel_rfl)) ?_
  try go_wp2
  go_ret
  exact ⟨by first | rfl | (simp [errW_none, errW_some] <;> rfl) | (simp only [← hji5]; first | rfl | (simp [errW_none, errW_some] <;> rfl)) | (simp [*, errW_none, errW_some] <;> rfl), by repeat (first | (with_reducible first | exact HB.out | apply below_alloc | apply pw_below_drewN | apply below_drew1) | exact HB.out)⟩
theorem toTermS_pad (kw : Nat) (A0 : Option Addr) (c0 : Nat) (l : List S73) (q P : List S71) (w : World) (hr : Kd.C k73 w A0 l.length l) (hc : l.length ≤ c0) (hw : laws_toTermSW.f kw l false = some P) (hq : q.length = l.length) :
    Calls Try.prog 46 #[.slice A0 l.length c0, .bool false] w fun e w' => ∃ (A : Option Addr) (c : Nat), e = .returned (.slice A q.length c) ∧ Kd.R k71 71 w' w.heap.size (fun _ => True) (.slice A P.length c) P ∧ Below w.heap.size w w' := by
  refine (laws_toTermSW.calls kw A0 c0 l false P w hr hc hw).mono ?_
  rintro e w' ⟨A, c, he, h1, h2⟩
  exact ⟨A, c, by rw [hq]; exact he, h1, h2⟩
def marks (a : Int) (n : Nat) : List Int := (List.range n).map fun i : Nat => a + (i : Int)
theorem marks_length (a : Int) (n : Nat) : (marks a n).length = n := by simp [marks]
theorem marks_take (a : Int) (l : List Int) (i : Nat) (h : i < l.length) : (marks a i ++ l.drop i).set i (a + (i : Int)) = marks a (i + 1) ++ l.drop (i + 1) := by
  have h1 : l.drop i = l[i] :: l.drop (i + 1) := (List.drop_eq_getElem_cons h)
  rw [h1, List.set_append_right _ _ (by simp [marks])]
  have h2 : i - (marks a i).length = 0 := by simp [marks]
  rw [h2, List.set_cons_zero]
  have h3 : marks a (i + 1) = marks a i ++ [a + (i : Int)] := by simp [marks, List.range_succ]
  rw [h3, List.append_assoc]
  rfl
theorem markIntS_l0 (l : List Int) (a : Int) (ha : 0 ≤ a) (hn : l.length ≤ 1000000) (hb : a ≤ 1000000000000) (d : Nat) : ∀ (k i : Nat), i ≤ l.length → l.length - i = d → d < k → laws_markIntS.l0 k (marks a i ++ l.drop i) (a + (i : Int)) (i : Int) = some (a + (l.length : Int), marks a l.length) := by
  induction d with
  | zero =>
    intro k i h1 hd hk
    obtain ⟨k, rfl⟩ : ∃ m, k = m + 1 := ⟨k - 1, by omega⟩
    have e : i = l.length := by omega
    subst e
    simp only [laws_markIntS.l0]; rw [if_neg (by simp [marks])]
    simp
  | succ d ih =>
    intro k i h1 hd hk
    obtain ⟨k, rfl⟩ : ∃ m, k = m + 1 := ⟨k - 1, by omega⟩
    have hlen : ((marks a i ++ l.drop i).length : Int) = l.length := by simp [marks]; omega
    simp only [laws_markIntS.l0]; rw [if_pos (by omega), if_pos (by omega), show wrap64 ((i : Int) + 1) = ((i + 1 : Nat) : Int) by unfold wrap64; omega, Int.toNat_natCast, marks_take a l i (by omega), show wrap64 (a + (i : Int) + 1) = a + ((i + 1 : Nat) : Int) by unfold wrap64; omega]
    exact ih k (i + 1) (by omega) (by omega) (by omega)
theorem markIntS_eq (l : List Int) (a : Int) (ha : 0 ≤ a) (hn : l.length ≤ 1000000) (hb : a ≤ 1000000000000) : ∃ k, laws_markIntS.f k l a = some (a + (l.length : Int), marks a l.length) := by
  refine ⟨l.length + 1, ?_⟩
  unfold laws_markIntS.f
  have h := markIntS_l0 l a ha hn hb l.length (l.length + 1) 0 (by omega) (by omega) (by omega)
  simpa [marks] using h
theorem heldIntS_l0 (n : Nat) (a : Int) (ha : 0 ≤ a) (hn : n ≤ 1000000) (hb : a ≤ 1000000000000) (d : Nat) : ∀ (k i : Nat), i ≤ n → n - i = d → d < k → laws_heldIntS.l0 k (marks a n) (a + (i : Int)) (i : Int) = some (a + (n : Int)) := by
  induction d with
  | zero =>
    intro k i h1 hd hk
    obtain ⟨k, rfl⟩ : ∃ m, k = m + 1 := ⟨k - 1, by omega⟩
    have e : i = n := by omega
    subst e
    simp only [laws_heldIntS.l0]; rw [if_neg (by simp [marks])]
  | succ d ih =>
    intro k i h1 hd hk
    obtain ⟨k, rfl⟩ : ∃ m, k = m + 1 := ⟨k - 1, by omega⟩
    have hlen : ((marks a n).length : Int) = n := by simp [marks]
    have hrd : rd (marks a n) (i : Int) = a + (i : Int) := by
      have : i < n := by omega
      simp [rd, marks, this]
    simp only [laws_heldIntS.l0]; rw [if_pos (by omega), if_pos (by omega), if_pos hrd, show wrap64 ((i : Int) + 1) = ((i + 1 : Nat) : Int) by unfold wrap64; omega, show wrap64 (a + (i : Int) + 1) = a + ((i + 1 : Nat) : Int) by unfold wrap64; omega]
    exact ih k (i + 1) (by omega) (by omega) (by omega)
theorem heldIntS_eq (n : Nat) (a : Int) (ha : 0 ≤ a) (hn : n ≤ 1000000) (hb : a ≤ 1000000000000) : ∃ k, laws_heldIntS.f k (marks a n) a = some (a + (n : Int)) := by
  refine ⟨n + 1, ?_⟩
  unfold laws_heldIntS.f
  have h := heldIntS_l0 n a ha hn hb n (n + 1) 0 (by omega) (by omega) (by omega)
  simpa using h
theorem held_calls (k : Nat) (A0 : Option Addr) (c0 n : Nat) (a q : Int) (w : World) (hr : Kd.C (Kd.int .i64) w A0 (marks a n).length (marks a n)) (hc : n ≤ c0) (h : laws_heldIntS.f k (marks a n) a = some q) :
    Calls Try.prog 21 #[.slice A0 n c0, .int .i64 a] w fun e w' => e = .returned (.int .i64 q) ∧ Drawn0 w w' := by
  have h2 := laws_heldIntS.calls k A0 c0 (marks a n) a q w hr (by rw [marks_length]; exact hc) h
  rw [marks_length] at h2
  exact h2
def marksT (a : Int) (n : Nat) : List S71 := (List.range n).map fun i : Nat => (⟨a + 4 * (i : Int), a + 4 * (i : Int) + 1, a + 4 * (i : Int) + 2, a + 4 * (i : Int) + 3⟩ : S71)
theorem marksT_length (a : Int) (n : Nat) : (marksT a n).length = n := by simp [marksT]
theorem marksT_take (a : Int) (l : List S71) (i : Nat) (h : i < l.length) : (marksT a i ++ l.drop i).set i (⟨a + 4 * (i : Int), a + 4 * (i : Int) + 1, a + 4 * (i : Int) + 2, a + 4 * (i : Int) + 3⟩ : S71) = marksT a (i + 1) ++ l.drop (i + 1) := by
  have h1 : l.drop i = l[i] :: l.drop (i + 1) := (List.drop_eq_getElem_cons h)
  rw [h1, List.set_append_right _ _ (by simp [marksT])]
  have h2 : i - (marksT a i).length = 0 := by simp [marksT]
  rw [h2, List.set_cons_zero]
  have h3 : marksT a (i + 1) = marksT a i ++ [(⟨a + 4 * (i : Int), a + 4 * (i : Int) + 1, a + 4 * (i : Int) + 2, a + 4 * (i : Int) + 3⟩ : S71)] := by simp [marksT, List.range_succ]
  rw [h3, List.append_assoc]
  rfl
theorem rdT_set (xs : List S71) (i : Nat) (v : S71) (h : i < xs.length) : rd_T71 (xs.set i v) (i : Int) = v := by simp [rd_T71, h]
theorem markT_step (k : Nat) (xs : List S71) (i : Nat) (a : Int) (h : i < xs.length) (hn : xs.length ≤ 1000000) (ha : 0 ≤ a) (hb : a ≤ 2000000000000) :
    laws_markTermS.l0 (k + 1) xs a (i : Int) = laws_markTermS.l0 k (xs.set i (⟨a, a + 1, a + 2, a + 3⟩ : S71)) (a + 4) ((i + 1 : Nat) : Int) := by
  have c1 : (i : Int) < (xs.length : Int) := by omega
  have c2 : (0 : Int) ≤ (i : Int) := by omega
  have e1 : wrap64 (a + 1) = a + 1 := by unfold wrap64; omega
  have e2 : wrap64 (a + 1 + 1) = a + 2 := by unfold wrap64; omega
  have e3 : wrap64 (a + 2 + 1) = a + 3 := by unfold wrap64; omega
  have e4 : wrap64 (a + 3 + 1) = a + 4 := by unfold wrap64; omega
  have e5 : wrap64 ((i : Int) + 1) = ((i + 1 : Nat) : Int) := by unfold wrap64; omega
  conv => lhs; simp only [laws_markTermS.l0]
  rw [if_pos c1, if_pos c2, e1, e2, e3, e4, e5]
  simp only [Option.bind_some, Int.toNat_natCast, rdT_set xs i _ h, List.set_set]
theorem markTermS_l0 (l : List S71) (a : Int) (ha : 0 ≤ a) (hn : l.length ≤ 1000000) (hb : a ≤ 1000000000000) (d : Nat) : ∀ (k i : Nat), i ≤ l.length → l.length - i = d → d < k → laws_markTermS.l0 k (marksT a i ++ l.drop i) (a + 4 * (i : Int)) (i : Int) = some (a + 4 * (l.length : Int), marksT a l.length) := by
  induction d with
  | zero =>
    intro k i h1 hd hk
    obtain ⟨k, rfl⟩ : ∃ m, k = m + 1 := ⟨k - 1, by omega⟩
    have e : i = l.length := by omega
    subst e
    simp only [laws_markTermS.l0]; rw [if_neg (by simp [marksT])]
    simp
  | succ d ih =>
    intro k i h1 hd hk
    obtain ⟨k, rfl⟩ : ∃ m, k = m + 1 := ⟨k - 1, by omega⟩
    have hlen : (marksT a i ++ l.drop i).length = l.length := by simp [marksT]; omega
    rw [markT_step k _ i _ (by omega) (by omega) (by omega) (by omega), marksT_take a l i (by omega), show a + 4 * (i : Int) + 4 = a + 4 * ((i + 1 : Nat) : Int) by omega]
    exact ih k (i + 1) (by omega) (by omega) (by omega)
theorem markTermS_eq (l : List S71) (a : Int) (ha : 0 ≤ a) (hn : l.length ≤ 1000000) (hb : a ≤ 1000000000000) : ∃ k, laws_markTermS.f k l a = some (a + 4 * (l.length : Int), marksT a l.length) := by
  refine ⟨l.length + 1, ?_⟩
  unfold laws_markTermS.f
  have h := markTermS_l0 l a ha hn hb l.length (l.length + 1) 0 (by omega) (by omega) (by omega)
  simpa [marksT] using h
set_option maxHeartbeats 8000000 in
set_option maxRecDepth 100000 in
theorem law_walk (A0 : Option Addr) (c0 : Nat) (l0 : List S73) (q0 P0 : List S71) (kw0 kb0 ke0 : Nat)  (w : World) (hr0 : Kd.C k73 w A0 l0.length l0) (hc0 : l0.length ≤ c0) (hw0 : laws_toTermSW.f kw0 l0 false = some P0) (hba0 : laws_toTermS.f kb0 l0 true = some q0) (hql0 : q0.length = l0.length) (hp0 : ∃ f, P0 = q0 ++ f) (hpl0 : P0.length = q0.length + room q0.length) (he0 : laws_eqTermS.f ke0 P0 P0 = some true)  (hn : l0.length ≤ 1000000) (ks ki : Nat) (r1 : List Int) (r2 : Bool) (hs : spec_SingleOf.f ks q0 = some (r1, r2)) (hi : impl_SingleOf.f ki q0 = some (r1, r2)) (hg : r1.length ≤ 1000000) :
    Calls Try.prog 13 #[.slice A0 l0.length c0] w fun e w' => e = .returned (.bool true) ∧ Below w.heap.size w w' := by
  have HR0 := Aside0.mk hr0
  have HC0 := Aside0.mk hc0
  have hm0 := hr0.2.1
  have HW0 := Aside0.mk hw0
  have HBA0 := Aside0.mk hba0
  have HQL0 := Aside0.mk hql0
  have HP0 := Aside0.mk hp0
  have HPL0 := Aside0.mk hpl0
  have HQN0 : Aside0 (q0.length ≤ 1000000) := ⟨by omega⟩
  have HE0 := Aside0.mk he0
  obtain ⟨s0, hs0⟩ : ∃ s : Int, s = (1000000 : Int) - (l0.length : Int) := ⟨_, rfl⟩
  have hzs0 : laws_szTermS.f l0 1000000 = some s0 := by unfold laws_szTermS.f; rw [if_neg (by unfold wrap64; omega)]; congr 1; unfold wrap64; omega
  have HSZ0 := Aside0.mk hzs0
  have cs0 : decide (s0 < 0) = false := decide_eq_false (by omega)
  obtain ⟨km0, hmk0⟩ := markTermS_eq q0 (101) (by omega) (by omega) (by omega)
  obtain ⟨m0, hmm0⟩ : ∃ m : Int, m = 101 + 4 * (q0.length : Int) := ⟨_, rfl⟩
  rw [← hmm0] at hmk0
  have HM0 := Aside0.mk hmk0
  have cm0 : decide (m0 < 0) = false := decide_eq_false (by omega)
  have HE := Aside0.mk (eqIntS_self r1 (by omega))
  obtain ⟨kg, hgm⟩ := markIntS_eq r1 101 (by omega) hg (by omega)
  obtain ⟨kh, hh⟩ := heldIntS_eq r1.length 101 (by omega) hg (by omega)
  obtain ⟨mg, hmg⟩ : ∃ m : Int, m = 101 + (r1.length : Int) := ⟨_, rfl⟩
  rw [← hmg] at hgm hh
  have HG := Aside0.mk hgm
  have HH := Aside0.mk hh
  have cmg : decide (mg < 0) = false := decide_eq_false (by omega)
  have HS := Aside0.mk hs
  have HI := Aside0.mk hi
  have HB := Aside0.mk (Below.refl w.heap.size w)
  have Z := Aside0.mk (Nat.zero_le w.heap.size)
  clear hs hi hr0 hc0 hw0 hba0 hql0 hp0 hpl0 he0 hs0 hzs0 hn hm0 hmk0 hmm0 hgm hh hmg hg
  go_enter Try.func13, Try.ntmps13
  go_wp2_with (first
    | ((with_reducible refine gate_callee (f := 44) rfl ?_); refine goesL_ (some 16) rfl rfl Try.func44 (by kernel_rfl) rfl #[.slice A0 l0.length c0, .int .i64 1000000] rfl (by (try simp only [List.map_toArray, List.map_cons, List.map_nil]); first | done | rfl | (simp only [List.length_drop, List.length_take]; rfl)) ?_; (with_reducible refine (laws_szTermS.calls _ _ l0 1000000 s0 _ ?side1 ?side2 HSZ0.out).mono ?_); (case side1 => repeat (first | exact HR0.out | exact (Kd.C_below HR0.out (by repeat (first | (with_reducible first | exact HB.out | apply below_alloc | apply pw_below_drewN | apply below_drew1) | exact HB.out))) | (with_reducible refine Kd.C_alloc ?_ _) | (with_reducible refine Kd.C_drewN ?_ _) | (with_reducible refine Kd.C_drew ?_))); (case side2 => exact HC0.out); rintro e w' ⟨rfl, ⟨nd, rfl⟩⟩; refine ⟨_, rfl, ?_⟩)
    | ((with_reducible refine gate_callee (f := 46) rfl ?_); refine goesL_ (some 21) rfl rfl Try.func46 (by kernel_rfl) rfl #[.slice A0 l0.length c0, .bool false] rfl (by (try simp only [List.map_toArray, List.map_cons, List.map_nil]); first | done | rfl | (simp only [List.length_drop, List.length_take]; rfl)) ?_; (with_reducible refine (toTermS_pad kw0 _ _ l0 q0 P0 _ ?side1 ?side2 HW0.out HQL0.out).mono ?_); (case side1 => repeat (first | exact HR0.out | exact (Kd.C_below HR0.out (by repeat (first | (with_reducible first | exact HB.out | apply below_alloc | apply pw_below_drewN | apply below_drew1) | exact HB.out))) | (with_reducible refine Kd.C_alloc ?_ _) | (with_reducible refine Kd.C_drewN ?_ _) | (with_reducible refine Kd.C_drew ?_))); (case side2 => exact HC0.out); rintro e w1_ ⟨A1_, c1_, rfl, ho0, hb⟩; refine ⟨_, rfl, ?_⟩; obtain ⟨a1_0_, b1_0_, z1_, z2_, zo0_, z4_⟩ := made (by exact Z.out) (by repeat (first | (with_reducible first | exact HB.out | apply below_alloc | apply pw_below_drewN | apply below_drew1) | exact HB.out)) hb ho0; clear HB Z; have O1_0 := Aside0.mk zo0_; have Q1_0 := Aside0.mk z1_; have HB := Aside0.mk z4_; have Z := Aside0.mk z2_; clear z1_ z2_ z4_ hb ho0 zo0_)
    | ((with_reducible refine gate_callee (f := 45) rfl ?_); refine goesL_ (some 22) rfl rfl Try.func45 (by kernel_rfl) rfl #[.slice A1_ q0.length c1_] rfl (by (try simp only [List.map_toArray, List.map_cons, List.map_nil]); first | done | rfl | (simp only [List.length_drop, List.length_take]; rfl)) ?_; (with_reducible refine (spec_SingleOf.calls ks _ _ q0 r1 r2 _ ?side1 ?side2 HS.out).mono ?_); (case side1 => repeat (first | exact padr HP0.out O1_0.out | (with_reducible refine Kd.C_alloc ?_ _) | (with_reducible refine Kd.C_drewN ?_ _) | (with_reducible refine Kd.C_drew ?_))); (case side2 => exact padl HP0.out (Kd.R_reads' O1_0.out).2.1); rintro e w2_ ⟨v2_, rfl, ho0, hb⟩; refine ⟨_, rfl, ?_⟩; obtain ⟨a2_, b2_, z1_, z2_, z3_, z4_⟩ := made (by exact Z.out) (by repeat (first | (with_reducible first | exact HB.out | apply below_alloc | apply pw_below_drewN | apply below_drew1) | exact HB.out)) hb ho0; have nO1_0_ := Aside0.mk (Kd.R_below (by (with_reducible repeat (first | apply Kd.R_alloc | apply Kd.R_drewN | apply Kd.R_drew)); exact O1_0.out) hb); clear O1_0 HB Z; have O1_0 := nO1_0_; clear nO1_0_; have O2 := Aside0.mk z3_; have Q2 := Aside0.mk z1_; have HB := Aside0.mk z4_; have Z := Aside0.mk z2_; clear z1_ z2_ z3_ z4_ hb ho0; obtain ⟨A2_, c2_, e2_⟩ := Kd.R_slice O2.out; subst e2_)
    | ((with_reducible refine gate_callee (f := 46) rfl ?_); refine goesL_ (some 26) rfl rfl Try.func46 (by kernel_rfl) rfl #[.slice A0 l0.length c0, .bool false] rfl (by (try simp only [List.map_toArray, List.map_cons, List.map_nil]); first | done | rfl | (simp only [List.length_drop, List.length_take]; rfl)) ?_; (with_reducible refine (toTermS_pad kw0 _ _ l0 q0 P0 _ ?side1 ?side2 HW0.out HQL0.out).mono ?_); (case side1 => repeat (first | exact HR0.out | exact (Kd.C_below HR0.out (by repeat (first | (with_reducible first | exact HB.out | apply below_alloc | apply pw_below_drewN | apply below_drew1) | exact HB.out))) | (with_reducible refine Kd.C_alloc ?_ _) | (with_reducible refine Kd.C_drewN ?_ _) | (with_reducible refine Kd.C_drew ?_))); (case side2 => exact HC0.out); rintro e w3_ ⟨A3_, c3_, rfl, ho0, hb⟩; refine ⟨_, rfl, ?_⟩; obtain ⟨a3_0_, b3_0_, z1_, z2_, zo0_, z4_⟩ := made (by exact Z.out) (by repeat (first | (with_reducible first | exact HB.out | apply below_alloc | apply pw_below_drewN | apply below_drew1) | exact HB.out)) hb ho0; have nO1_0_ := Aside0.mk (Kd.R_below (by (with_reducible repeat (first | apply Kd.R_alloc | apply Kd.R_drewN | apply Kd.R_drew)); exact O1_0.out) hb); have nO2_ := Aside0.mk (Kd.R_below (by (with_reducible repeat (first | apply Kd.R_alloc | apply Kd.R_drewN | apply Kd.R_drew)); exact O2.out) hb); clear O1_0 O2 HB Z; have O1_0 := nO1_0_; have O2 := nO2_; clear nO1_0_ nO2_; have O3_0 := Aside0.mk zo0_; have Q3_0 := Aside0.mk z1_; have HB := Aside0.mk z4_; have Z := Aside0.mk z2_; clear z1_ z2_ z4_ hb ho0 zo0_)
    | ((with_reducible refine gate_callee (f := 47) rfl ?_); refine goesL_ (some 29) rfl rfl Try.func47 (by kernel_rfl) rfl #[.slice A3_ q0.length c3_] rfl (by (try simp only [List.map_toArray, List.map_cons, List.map_nil]); first | done | rfl | (simp only [List.length_drop, List.length_take]; rfl)) ?_; (with_reducible refine (impl_SingleOf.calls ki _ _ q0 r1 r2 _ ?side1 ?side2 HI.out).mono ?_); (case side1 => repeat (first | exact padr HP0.out O3_0.out | (with_reducible refine Kd.C_alloc ?_ _) | (with_reducible refine Kd.C_drewN ?_ _) | (with_reducible refine Kd.C_drew ?_))); (case side2 => exact padl HP0.out (Kd.R_reads' O3_0.out).2.1); rintro e w4_ ⟨v4_, rfl, ho0, hb⟩; refine ⟨_, rfl, ?_⟩; obtain ⟨a4_, b4_, z1_, z2_, z3_, z4_⟩ := made (by exact Z.out) (by repeat (first | (with_reducible first | exact HB.out | apply below_alloc | apply pw_below_drewN | apply below_drew1) | exact HB.out)) hb ho0; have nO1_0_ := Aside0.mk (Kd.R_below (by (with_reducible repeat (first | apply Kd.R_alloc | apply Kd.R_drewN | apply Kd.R_drew)); exact O1_0.out) hb); have nO2_ := Aside0.mk (Kd.R_below (by (with_reducible repeat (first | apply Kd.R_alloc | apply Kd.R_drewN | apply Kd.R_drew)); exact O2.out) hb); have nO3_0_ := Aside0.mk (Kd.R_below (by (with_reducible repeat (first | apply Kd.R_alloc | apply Kd.R_drewN | apply Kd.R_drew)); exact O3_0.out) hb); clear O1_0 O2 O3_0 HB Z; have O1_0 := nO1_0_; have O2 := nO2_; have O3_0 := nO3_0_; clear nO1_0_ nO2_ nO3_0_; have O4 := Aside0.mk z3_; have Q4 := Aside0.mk z1_; have HB := Aside0.mk z4_; have Z := Aside0.mk z2_; clear z1_ z2_ z3_ z4_ hb ho0; obtain ⟨A4_, c4_, e4_⟩ := Kd.R_slice O4.out; subst e4_)
    | ((with_reducible refine gate_callee (f := 18) rfl ?_); refine goesL_ (some 34) rfl rfl Try.func18 (by kernel_rfl) rfl #[.slice A4_ r1.length c4_, .slice A2_ r1.length c2_] rfl (by (try simp only [List.map_toArray, List.map_cons, List.map_nil]); first | done | rfl | (simp only [List.length_drop, List.length_take]; rfl)) ?_; (with_reducible refine (laws_eqIntS.calls (r1.length + 1) _ _ r1 _ _ r1 true _ ?side1 ?side2 ?side3 ?side4 HE.out).mono ?_); (case side1 => repeat (first | exact (Kd.R_reads' O4.out).2.2 | (with_reducible refine Kd.C_alloc ?_ _) | (with_reducible refine Kd.C_drewN ?_ _) | (with_reducible refine Kd.C_drew ?_))); (case side2 => exact (Kd.R_reads' O4.out).2.1); (case side3 => repeat (first | exact (Kd.R_reads' O2.out).2.2 | (with_reducible refine Kd.C_alloc ?_ _) | (with_reducible refine Kd.C_drewN ?_ _) | (with_reducible refine Kd.C_drew ?_))); (case side4 => exact (Kd.R_reads' O2.out).2.1); rintro e w' ⟨rfl, ⟨nd, rfl⟩⟩; refine ⟨_, rfl, ?_⟩)
    | ((with_reducible refine gate_callee (f := 46) rfl ?_); refine goesL_ (some 43) rfl rfl Try.func46 (by kernel_rfl) rfl #[.slice A0 l0.length c0, .bool false] rfl (by (try simp only [List.map_toArray, List.map_cons, List.map_nil]); first | done | rfl | (simp only [List.length_drop, List.length_take]; rfl)) ?_; (with_reducible refine (toTermS_pad kw0 _ _ l0 q0 P0 _ ?side1 ?side2 HW0.out HQL0.out).mono ?_); (case side1 => repeat (first | exact HR0.out | exact (Kd.C_below HR0.out (by repeat (first | (with_reducible first | exact HB.out | apply below_alloc | apply pw_below_drewN | apply below_drew1) | exact HB.out))) | (with_reducible refine Kd.C_alloc ?_ _) | (with_reducible refine Kd.C_drewN ?_ _) | (with_reducible refine Kd.C_drew ?_))); (case side2 => exact HC0.out); rintro e w5_ ⟨A5_, c5_, rfl, ho0, hb⟩; refine ⟨_, rfl, ?_⟩; obtain ⟨a5_0_, b5_0_, z1_, z2_, zo0_, z4_⟩ := made (by exact Z.out) (by repeat (first | (with_reducible first | exact HB.out | apply below_alloc | apply pw_below_drewN | apply below_drew1) | exact HB.out)) hb ho0; have nO1_0_ := Aside0.mk (Kd.R_below (by (with_reducible repeat (first | apply Kd.R_alloc | apply Kd.R_drewN | apply Kd.R_drew)); exact O1_0.out) hb); have nO2_ := Aside0.mk (Kd.R_below (by (with_reducible repeat (first | apply Kd.R_alloc | apply Kd.R_drewN | apply Kd.R_drew)); exact O2.out) hb); have nO3_0_ := Aside0.mk (Kd.R_below (by (with_reducible repeat (first | apply Kd.R_alloc | apply Kd.R_drewN | apply Kd.R_drew)); exact O3_0.out) hb); have nO4_ := Aside0.mk (Kd.R_below (by (with_reducible repeat (first | apply Kd.R_alloc | apply Kd.R_drewN | apply Kd.R_drew)); exact O4.out) hb); clear O1_0 O2 O3_0 O4 HB Z; have O1_0 := nO1_0_; have O2 := nO2_; have O3_0 := nO3_0_; have O4 := nO4_; clear nO1_0_ nO2_ nO3_0_ nO4_; have O5_0 := Aside0.mk zo0_; have Q5_0 := Aside0.mk z1_; have HB := Aside0.mk z4_; have Z := Aside0.mk z2_; clear z1_ z2_ z4_ hb ho0 zo0_)
    | ((with_reducible refine gate_callee (f := 48) rfl ?_); refine goesL_ (some 44) rfl rfl Try.func48 (by kernel_rfl) rfl #[.slice A3_ q0.length c3_, .slice A5_ q0.length c5_] rfl (by (try simp only [List.map_toArray, List.map_cons, List.map_nil]); first | done | rfl | (simp only [List.length_drop, List.length_take]; rfl)) ?_; (with_reducible refine (laws_intactTermS.pad ke0 _ _ _ _ _ P0 _ ?side1 ?side2 ?side3 ?side4 HPL0.out HQN0.out HE0.out).mono ?_); (case side1 => exact (Kd.R_reads' (by (with_reducible repeat (first | apply Kd.R_alloc | apply Kd.R_drewN | apply Kd.R_drew)); exact O3_0.out)).2.2); (case side2 => exact (Kd.R_reads' O3_0.out).2.1); (case side3 => exact (Kd.R_reads' (by (with_reducible repeat (first | apply Kd.R_alloc | apply Kd.R_drewN | apply Kd.R_drew)); exact O5_0.out)).2.2); (case side4 => exact (Kd.R_reads' O5_0.out).2.1); rintro e w6_ ⟨rfl, hb⟩; refine ⟨_, rfl, ?_⟩; obtain ⟨z2_, z4_⟩ := still (by exact Z.out) (by repeat (first | (with_reducible first | exact HB.out | apply below_alloc | apply pw_below_drewN | apply below_drew1) | exact HB.out)) hb; have nO1_0_ := Aside0.mk (Kd.R_below (by (with_reducible repeat (first | apply Kd.R_alloc | apply Kd.R_drewN | apply Kd.R_drew)); exact O1_0.out) hb); have nO2_ := Aside0.mk (Kd.R_below (by (with_reducible repeat (first | apply Kd.R_alloc | apply Kd.R_drewN | apply Kd.R_drew)); exact O2.out) hb); have nO3_0_ := Aside0.mk (Kd.R_below (by (with_reducible repeat (first | apply Kd.R_alloc | apply Kd.R_drewN | apply Kd.R_drew)); exact O3_0.out) hb); have nO4_ := Aside0.mk (Kd.R_below (by (with_reducible repeat (first | apply Kd.R_alloc | apply Kd.R_drewN | apply Kd.R_drew)); exact O4.out) hb); have nO5_0_ := Aside0.mk (Kd.R_below (by (with_reducible repeat (first | apply Kd.R_alloc | apply Kd.R_drewN | apply Kd.R_drew)); exact O5_0.out) hb); clear O1_0 O2 O3_0 O4 O5_0 HB Z; have O1_0 := nO1_0_; have O2 := nO2_; have O3_0 := nO3_0_; have O4 := nO4_; have O5_0 := nO5_0_; clear nO1_0_ nO2_ nO3_0_ nO4_ nO5_0_; have HB := Aside0.mk z4_; have Z := Aside0.mk z2_; clear z2_ z4_ hb)
    | ((with_reducible refine gate_callee (f := 49) rfl ?_); refine goesL_ (some 48) rfl rfl Try.func49 (by kernel_rfl) rfl #[.slice A3_ q0.length c3_, .int .i64 101] rfl (by (try simp only [List.map_toArray, List.map_cons, List.map_nil]); first | done | rfl | (simp only [List.length_drop, List.length_take]; rfl)) ?_; (with_reducible refine (laws_markTermS.calls km0 (fun k => a3_0_ ≤ k ∧ k < b3_0_) _ q0 101 m0 (marksT 101 q0.length) w _ ?side1 ?side2 HM0.out).mono ?_); (case side1 => exact (by repeat (first | (with_reducible first | exact HB.out | apply below_alloc | apply pw_below_drewN | apply below_drew1) | exact HB.out))); (case side2 => exact padseen HP0.out (by (with_reducible repeat (first | apply Kd.R_alloc | apply Kd.R_drewN | apply Kd.R_drew)); exact O3_0.out)); rintro e w7_ ⟨rfl, ho0, hb, hk⟩; refine ⟨_, rfl, ?_⟩; have nO1_0_ := Aside0.mk (Kd.R_kept (by (with_reducible repeat (first | apply Kd.R_alloc | apply Kd.R_drewN | apply Kd.R_drew)); exact O1_0.out) hk (fun k_ h1_ h2_ => by have := Q1_0.out; have := Q2.out; have := Q3_0.out; have := Q4.out; have := Q5_0.out; omega)); have nO2_ := Aside0.mk (Kd.R_kept (by (with_reducible repeat (first | apply Kd.R_alloc | apply Kd.R_drewN | apply Kd.R_drew)); exact O2.out) hk (fun k_ h1_ h2_ => by have := Q1_0.out; have := Q2.out; have := Q3_0.out; have := Q4.out; have := Q5_0.out; omega)); have nO4_ := Aside0.mk (Kd.R_kept (by (with_reducible repeat (first | apply Kd.R_alloc | apply Kd.R_drewN | apply Kd.R_drew)); exact O4.out) hk (fun k_ h1_ h2_ => by have := Q1_0.out; have := Q2.out; have := Q3_0.out; have := Q4.out; have := Q5_0.out; omega)); have nO5_0_ := Aside0.mk (Kd.R_kept (by (with_reducible repeat (first | apply Kd.R_alloc | apply Kd.R_drewN | apply Kd.R_drew)); exact O5_0.out) hk (fun k_ h1_ h2_ => by have := Q1_0.out; have := Q2.out; have := Q3_0.out; have := Q4.out; have := Q5_0.out; omega)); have z2_ := Aside0.mk (Nat.le_trans (by exact Z.out) hk.1); clear O1_0 O2 O4 O5_0 O3_0 HB Z; have O1_0 := nO1_0_; have O2 := nO2_; have O4 := nO4_; have O5_0 := nO5_0_; have HB := Aside0.mk hb; have Z := z2_; clear nO1_0_ nO2_ nO4_ nO5_0_ z2_ hb hk ho0)
    | (go_at_call 18; (with_reducible refine (laws_eqIntS.calls (r1.length + 1) _ _ r1 _ _ r1 true _ ?side1 ?side2 ?side3 ?side4 HE.out).mono ?_); (case side1 => repeat (first | exact (Kd.R_reads' O4.out).2.2 | (with_reducible refine Kd.C_alloc ?_ _) | (with_reducible refine Kd.C_drewN ?_ _) | (with_reducible refine Kd.C_drew ?_))); (case side2 => exact (Kd.R_reads' O4.out).2.1); (case side3 => repeat (first | exact (Kd.R_reads' O2.out).2.2 | (with_reducible refine Kd.C_alloc ?_ _) | (with_reducible refine Kd.C_drewN ?_ _) | (with_reducible refine Kd.C_drew ?_))); (case side4 => exact (Kd.R_reads' O2.out).2.1); rintro e w' ⟨rfl, ⟨nd, rfl⟩⟩)
    | ((with_reducible refine gate_callee (f := 20) rfl ?_); refine goesL_ (some 64) rfl rfl Try.func20 (by kernel_rfl) rfl #[.slice A4_ r1.length c4_, .int .i64 101] rfl (by (try simp only [List.map_toArray, List.map_cons, List.map_nil]); first | done | rfl | (simp only [List.length_drop, List.length_take]; rfl)) ?_; (with_reducible refine (laws_markIntS.calls kg (fun k => a4_ ≤ k ∧ k < b4_) _ r1 101 mg (marks 101 r1.length) w _ ?side1 ?side2 HG.out).mono ?_); (case side1 => exact (by repeat (first | (with_reducible first | exact HB.out | apply below_alloc | apply pw_below_drewN | apply below_drew1) | exact HB.out))); (case side2 => exact (by (with_reducible repeat (first | apply Kd.R_alloc | apply Kd.R_drewN | apply Kd.R_drew)); exact O4.out)); rintro e w8_ ⟨rfl, ho0, hb, hk⟩; refine ⟨_, rfl, ?_⟩; have nO1_0_ := Aside0.mk (Kd.R_kept (by (with_reducible repeat (first | apply Kd.R_alloc | apply Kd.R_drewN | apply Kd.R_drew)); exact O1_0.out) hk (fun k_ h1_ h2_ => by have := Q1_0.out; have := Q2.out; have := Q3_0.out; have := Q4.out; have := Q5_0.out; omega)); have nO2_ := Aside0.mk (Kd.R_kept (by (with_reducible repeat (first | apply Kd.R_alloc | apply Kd.R_drewN | apply Kd.R_drew)); exact O2.out) hk (fun k_ h1_ h2_ => by have := Q1_0.out; have := Q2.out; have := Q3_0.out; have := Q4.out; have := Q5_0.out; omega)); have nO5_0_ := Aside0.mk (Kd.R_kept (by (with_reducible repeat (first | apply Kd.R_alloc | apply Kd.R_drewN | apply Kd.R_drew)); exact O5_0.out) hk (fun k_ h1_ h2_ => by have := Q1_0.out; have := Q2.out; have := Q3_0.out; have := Q4.out; have := Q5_0.out; omega)); have z2_ := Aside0.mk (Nat.le_trans (by exact Z.out) hk.1); have nO4_ := Aside0.mk (Kd.R_mono ho0 (ok' := fun _ => True) (fun _ _ => trivial)); clear O1_0 O2 O5_0 O4 HB Z; have O1_0 := nO1_0_; have O2 := nO2_; have O5_0 := nO5_0_; have O4 := nO4_; have HB := Aside0.mk hb; have Z := z2_; clear nO1_0_ nO2_ nO5_0_ nO4_ z2_ hb hk ho0)
    | ((with_reducible refine gate_callee (f := 21) rfl ?_); refine goesL_ (some 67) rfl rfl Try.func21 (by kernel_rfl) rfl #[.slice A4_ r1.length c4_, .int .i64 101] rfl (by (try simp only [List.map_toArray, List.map_cons, List.map_nil]); first | done | rfl | (simp only [List.length_drop, List.length_take]; rfl)) ?_; (with_reducible refine (held_calls kh _ _ r1.length 101 mg _ ?side1 ?side2 HH.out).mono ?_); (case side1 => repeat (first | exact (Kd.R_reads' O4.out).2.2 | (with_reducible refine Kd.C_alloc ?_ _) | (with_reducible refine Kd.C_drewN ?_ _) | (with_reducible refine Kd.C_drew ?_))); (case side2 => exact (Kd.R_reads' O4.out).2.1); rintro e w' ⟨rfl, ⟨nd, rfl⟩⟩; refine ⟨_, rfl, ?_⟩)
    | ((with_reducible refine gate_callee (f := 46) rfl ?_); refine goesL_ (some 75) rfl rfl Try.func46 (by kernel_rfl) rfl #[.slice A0 l0.length c0, .bool true] rfl (by (try simp only [List.map_toArray, List.map_cons, List.map_nil]); first | done | rfl | (simp only [List.length_drop, List.length_take]; rfl)) ?_; (with_reducible refine (laws_toTermS.calls kb0 _ _ l0 true q0 _ ?side1 ?side2 HBA0.out).mono ?_); (case side1 => repeat (first | exact HR0.out | exact (Kd.C_below HR0.out (by repeat (first | (with_reducible first | exact HB.out | apply below_alloc | apply pw_below_drewN | apply below_drew1) | exact HB.out))) | (with_reducible refine Kd.C_alloc ?_ _) | (with_reducible refine Kd.C_drewN ?_ _) | (with_reducible refine Kd.C_drew ?_))); (case side2 => exact HC0.out); rintro e w9_ ⟨v9_, rfl, ho0, hb⟩; refine ⟨_, rfl, ?_⟩; obtain ⟨a9_0_, b9_0_, z1_, z2_, zo0_, z4_⟩ := made (by exact Z.out) (by repeat (first | (with_reducible first | exact HB.out | apply below_alloc | apply pw_below_drewN | apply below_drew1) | exact HB.out)) hb ho0; have nO1_0_ := Aside0.mk (Kd.R_below (by (with_reducible repeat (first | apply Kd.R_alloc | apply Kd.R_drewN | apply Kd.R_drew)); exact O1_0.out) hb); have nO2_ := Aside0.mk (Kd.R_below (by (with_reducible repeat (first | apply Kd.R_alloc | apply Kd.R_drewN | apply Kd.R_drew)); exact O2.out) hb); have nO4_ := Aside0.mk (Kd.R_below (by (with_reducible repeat (first | apply Kd.R_alloc | apply Kd.R_drewN | apply Kd.R_drew)); exact O4.out) hb); have nO5_0_ := Aside0.mk (Kd.R_below (by (with_reducible repeat (first | apply Kd.R_alloc | apply Kd.R_drewN | apply Kd.R_drew)); exact O5_0.out) hb); clear O1_0 O2 O4 O5_0 HB Z; have O1_0 := nO1_0_; have O2 := nO2_; have O4 := nO4_; have O5_0 := nO5_0_; clear nO1_0_ nO2_ nO4_ nO5_0_; have O9_0 := Aside0.mk zo0_; have Q9_0 := Aside0.mk z1_; have HB := Aside0.mk z4_; have Z := Aside0.mk z2_; clear z1_ z2_ z4_ hb ho0 zo0_; obtain ⟨A9_, c9_, e9_⟩ := Kd.R_slice O9_0.out; subst e9_)
    | ((with_reducible refine gate_callee (f := 47) rfl ?_); refine goesL_ (some 76) rfl rfl Try.func47 (by kernel_rfl) rfl #[.slice A9_ q0.length c9_] rfl (by (try simp only [List.map_toArray, List.map_cons, List.map_nil]); first | done | rfl | (simp only [List.length_drop, List.length_take]; rfl)) ?_; (with_reducible refine (impl_SingleOf.calls ki _ _ q0 r1 r2 _ ?side1 ?side2 HI.out).mono ?_); (case side1 => repeat (first | exact (Kd.R_reads' O9_0.out).2.2 | (with_reducible refine Kd.C_alloc ?_ _) | (with_reducible refine Kd.C_drewN ?_ _) | (with_reducible refine Kd.C_drew ?_))); (case side2 => exact (Kd.R_reads' O9_0.out).2.1); rintro e w10_ ⟨v10_, rfl, ho0, hb⟩; refine ⟨_, rfl, ?_⟩; obtain ⟨a10_, b10_, z1_, z2_, z3_, z4_⟩ := made (by exact Z.out) (by repeat (first | (with_reducible first | exact HB.out | apply below_alloc | apply pw_below_drewN | apply below_drew1) | exact HB.out)) hb ho0; have nO1_0_ := Aside0.mk (Kd.R_below (by (with_reducible repeat (first | apply Kd.R_alloc | apply Kd.R_drewN | apply Kd.R_drew)); exact O1_0.out) hb); have nO2_ := Aside0.mk (Kd.R_below (by (with_reducible repeat (first | apply Kd.R_alloc | apply Kd.R_drewN | apply Kd.R_drew)); exact O2.out) hb); have nO4_ := Aside0.mk (Kd.R_below (by (with_reducible repeat (first | apply Kd.R_alloc | apply Kd.R_drewN | apply Kd.R_drew)); exact O4.out) hb); have nO5_0_ := Aside0.mk (Kd.R_below (by (with_reducible repeat (first | apply Kd.R_alloc | apply Kd.R_drewN | apply Kd.R_drew)); exact O5_0.out) hb); have nO9_0_ := Aside0.mk (Kd.R_below (by (with_reducible repeat (first | apply Kd.R_alloc | apply Kd.R_drewN | apply Kd.R_drew)); exact O9_0.out) hb); clear O1_0 O2 O4 O5_0 O9_0 HB Z; have O1_0 := nO1_0_; have O2 := nO2_; have O4 := nO4_; have O5_0 := nO5_0_; have O9_0 := nO9_0_; clear nO1_0_ nO2_ nO4_ nO5_0_ nO9_0_; have O10 := Aside0.mk z3_; have Q10 := Aside0.mk z1_; have HB := Aside0.mk z4_; have Z := Aside0.mk z2_; clear z1_ z2_ z3_ z4_ hb ho0; obtain ⟨A10_, c10_, e10_⟩ := Kd.R_slice O10.out; subst e10_)
    | ((with_reducible refine gate_callee (f := 18) rfl ?_); refine goesL_ (some 81) rfl rfl Try.func18 (by kernel_rfl) rfl #[.slice A10_ r1.length c10_, .slice A2_ r1.length c2_] rfl (by (try simp only [List.map_toArray, List.map_cons, List.map_nil]); first | done | rfl | (simp only [List.length_drop, List.length_take]; rfl)) ?_; (with_reducible refine (laws_eqIntS.calls (r1.length + 1) _ _ r1 _ _ r1 true _ ?side1 ?side2 ?side3 ?side4 HE.out).mono ?_); (case side1 => repeat (first | exact (Kd.R_reads' O10.out).2.2 | (with_reducible refine Kd.C_alloc ?_ _) | (with_reducible refine Kd.C_drewN ?_ _) | (with_reducible refine Kd.C_drew ?_))); (case side2 => exact (Kd.R_reads' O10.out).2.1); (case side3 => repeat (first | exact (Kd.R_reads' O2.out).2.2 | (with_reducible refine Kd.C_alloc ?_ _) | (with_reducible refine Kd.C_drewN ?_ _) | (with_reducible refine Kd.C_drew ?_))); (case side4 => exact (Kd.R_reads' O2.out).2.1); rintro e w' ⟨rfl, ⟨nd, rfl⟩⟩; refine ⟨_, rfl, ?_⟩)
    | ((with_reducible refine gate_callee (f := 21) rfl ?_); refine goesL_ (some 90) rfl rfl Try.func21 (by kernel_rfl) rfl #[.slice A4_ r1.length c4_, .int .i64 101] rfl (by (try simp only [List.map_toArray, List.map_cons, List.map_nil]); first | done | rfl | (simp only [List.length_drop, List.length_take]; rfl)) ?_; (with_reducible refine (held_calls kh _ _ r1.length 101 mg _ ?side1 ?side2 HH.out).mono ?_); (case side1 => repeat (first | exact (Kd.R_reads' O4.out).2.2 | (with_reducible refine Kd.C_alloc ?_ _) | (with_reducible refine Kd.C_drewN ?_ _) | (with_reducible refine Kd.C_drew ?_))); (case side2 => exact (Kd.R_reads' O4.out).2.1); rintro e w' ⟨rfl, ⟨nd, rfl⟩⟩; refine ⟨_, rfl, ?_⟩))
  go_ret
  exact ⟨by first | rfl | (simp; done), by repeat (first | (with_reducible first | exact HB.out | apply below_alloc | apply pw_below_drewN | apply below_drew1) | exact HB.out)⟩
set_option maxHeartbeats 8000000 in
set_option maxRecDepth 100000 in
theorem law_big0 (A0 : Option Addr) (c0 : Nat) (l0 : List S73) (w : World) (hr0 : Kd.C k73 w A0 l0.length l0) (hc0 : l0.length ≤ c0) (hn : ¬ l0.length ≤ 1000000) :
    Calls Try.prog 13 #[.slice A0 l0.length c0] w fun e w' => e = .returned (.bool true) ∧ Below w.heap.size w w' := by
  have HR0 := Aside0.mk hr0; have HC0 := Aside0.mk hc0; have hm0 := hr0.2.1
  obtain ⟨s0, hs0⟩ : ∃ s : Int, s = (-1) := ⟨_, rfl⟩
  have hzs0 : laws_szTermS.f l0 1000000 = some s0 := by unfold laws_szTermS.f; rw [if_pos (by unfold wrap64; omega), hs0]
  have HSZ0 := Aside0.mk hzs0
  have cs0 : decide (s0 < 0) = true := decide_eq_true (by omega)
  have HB := Aside0.mk (Below.refl w.heap.size w)
  have Z := Aside0.mk (Nat.zero_le w.heap.size)
  clear hn hr0 hc0 hm0 hs0 hzs0
  go_enter Try.func13, Try.ntmps13
  go_wp2_with (first
    | ((with_reducible refine gate_callee (f := 44) rfl ?_); refine goesL_ (some 16) rfl rfl Try.func44 (by kernel_rfl) rfl #[.slice A0 l0.length c0, .int .i64 1000000] rfl (by (try simp only [List.map_toArray, List.map_cons, List.map_nil]); first | done | rfl | (simp only [List.length_drop, List.length_take]; rfl)) ?_; (with_reducible refine (laws_szTermS.calls _ _ l0 1000000 s0 _ ?side1 ?side2 HSZ0.out).mono ?_); (case side1 => repeat (first | exact HR0.out | exact (Kd.C_below HR0.out (by repeat (first | (with_reducible first | exact HB.out | apply below_alloc | apply pw_below_drewN | apply below_drew1) | exact HB.out))) | (with_reducible refine Kd.C_alloc ?_ _) | (with_reducible refine Kd.C_drewN ?_ _) | (with_reducible refine Kd.C_drew ?_))); (case side2 => exact HC0.out); rintro e w' ⟨rfl, ⟨nd, rfl⟩⟩; refine ⟨_, rfl, ?_⟩))
  go_ret
  exact ⟨by first | rfl | (simp; done), by repeat (first | (with_reducible first | exact HB.out | apply below_alloc | apply pw_below_drewN | apply below_drew1) | exact HB.out)⟩
/-- What is left to show, over numbers and lists alone. -/
def Pure : Prop := ∀ (l0 : List S73), l0.length ≤ 1000000 → ∃ (ks ki : Nat) (r1 : List Int) (r2 : Bool), spec_SingleOf.f ks (l0.map cvTermS) = some (r1, r2) ∧ impl_SingleOf.f ki (l0.map cvTermS) = some (r1, r2) ∧ r1.length ≤ 1000000
theorem law_holds (P_ : Pure) (A0 : Option Addr) (c0 : Nat) (l0 : List S73) (w : World) (hr0 : Kd.C k73 w A0 l0.length l0) (hc0 : l0.length ≤ c0) :
    Calls Try.prog 13 #[.slice A0 l0.length c0] w fun e w' => e = .returned (.bool true) ∧ Below w.heap.size w w' := by
  by_cases hn0 : l0.length ≤ 1000000
  case neg => exact law_big0 A0 c0 l0 w hr0 hc0 hn0
  obtain ⟨ks, ki, r1, r2, hs, hi, hg⟩ := P_ l0 hn0
  obtain ⟨kw0, hw0⟩ := toTermS_whole l0 (by omega)
  obtain ⟨kb0, hba0⟩ := toTermS_bare l0 (by omega)
  have hrm0 := room_le l0.length
  exact law_walk A0 c0 l0 _ (padTermS l0) kw0 kb0 ((padTermS l0).length + 1)  w hr0 hc0 hw0 hba0 (by simp) ⟨_, rfl⟩ (by rw [padTermS_length, List.length_map]) (eqTermS_self _ (by rw [padTermS_length]; omega))  hn0 ks ki r1 r2 hs hi hg
end Go.Proofs.Ytolacpnhndbalaa.QSingleOf
