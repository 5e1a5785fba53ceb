/- The walk of the law FnExactTermsOf: what its calls come to. -/
import Derived.Test.YtolacpnhndbalaaQTermsOfx
namespace Go.Proofs.Ytolacpnhndbalaa.QTermsOf
open Go.RowKit Go.Proofs.YtolacpnhndbalaaW.PrintWords Go.Proofs.YtolacpnhndbalaaW.PrintLast Go.Proofs.YtolacpnhndbalaaW.PrintMore
set_option linter.unusedVariables false
set_option linter.unusedSimpArgs false
section
variable {P : Program} {ops : Array Oper} {rest : List Oper} {o : Oper} {a : Act} {Q : Exit → Act → World → Prop} {α : Type}
theorem lit_whole (d : Kd α) {w0 W : World} (base e : Nat) (hgd : o.guard = none) {N : Tmp} (hd : o.dst = some N) {xs : List α} {inner : List Value} {ok okp : Nat → Prop}
    (hrun : (execOp a.eval o).run P W = .ok (.value (.slice (some ⟨W.heap.size, 0, none⟩) xs.length xs.length)) (W.alloc (.cells inner.toArray e)))
    (hrep : Reps (d.M W base okp) d.sz xs inner) (hok : ∀ k, okp k → ok k) (hfresh : ok W.heap.size) (HB : Below base w0 W) (hbase : base ≤ W.heap.size) (hm : xs.length ≤ 9223372036854775807)
    (h : ∀ g w1, d.R e w1 base ok (.slice (some ⟨g, 0, none⟩) xs.length xs.length) xs → Below base w0 w1 → W.grownBy w1 none → base ≤ g → wpList P ops Q rest (a.put o.dst (.slice (some ⟨g, 0, none⟩) xs.length xs.length)) w1) : wpList P ops Q (o :: rest) a W := by
  refine Kd.event_run hgd hrun (h _ _ ⟨fun k hk => ?_, inner, ?_, ?_⟩ (HB.alloc hbase _) (World.grownBy_alloc W _ none) hbase)
  · have : W.heap.size = k := by simpa [Value.ownBlock] using hk
    subst this
    exact hfresh
  · have h2 := World.ownsRow_lit (base := base) (e := e) (size := d.sz) W inner.toArray xs.length hbase (by simpa [maxLen] using hm) (by simpa using hrep.1)
    simpa using h2
  · refine hrep.imp_ (fun p c hp => d.M_mono (fun k hk => ⟨hok k hk.1, fun he => ?_⟩) (Kd.M_below (d.M_bound hp) (below_alloc (Below.refl _ _) _)))
    have h3 : k = W.heap.size := by simpa [Value.ownBlock] using he
    have := hk.2.2.1
    omega
/-- 'make', the row told whole: its capacity is its length. -/
theorem make_whole (d : Kd α) {w0 W : World} (base e : Nat) (hgd : o.guard = none) {N : Tmp} (hd : o.dst = some N) (t : TypeId) (x y : Operand) (ho : o.op = .makeSlice t x y) (n : Int) (hx : a.eval x = .int .i64 n) (hy : a.eval y = .int .i64 n)
    (ht : P.underlying t = some (.slice e)) (z : Value) (bytes : Nat) (hinfo : (P.info? e).map (fun i => (i.zero, i.size, i.bytes)) = some (some z, d.sz, bytes)) (hz : z.cells.size = d.sz) (hs0 : 0 < d.sz) (hb0 : 0 < bytes)
    (z0 : α) {ok okp : Nat → Prop} (hzero : d.M W base okp z0 z.cells.toList) (hok : ∀ k, okp k → ok k) (hfresh : ok W.heap.size) (h0 : 0 ≤ n) (hl : n.toNat * bytes ≤ 281474976710656) (HB : Below base w0 W) (hbase : base ≤ W.heap.size)
    (h : ∀ g w1, d.R e w1 base ok (.slice (some ⟨g, 0, none⟩) n.toNat n.toNat) (List.replicate n.toNat z0) → Below base w0 w1 → W.grownBy w1 none → base ≤ g → wpList P ops Q rest (a.put o.dst (.slice (some ⟨g, 0, none⟩) n.toNat n.toNat)) w1) : wpList P ops Q (o :: rest) a W := by
  obtain ⟨m, rfl⟩ := Int.eq_ofNat_of_zero_le h0
  simp only [Int.toNat_natCast] at hl h
  obtain ⟨i0, hi, hzz⟩ := Option.map_eq_some_iff.1 hinfo
  simp only [Prod.mk.injEq] at hzz
  obtain ⟨hz0, hz1, hz2⟩ := hzz
  have hm : m ≤ 281474976710656 := Nat.le_trans (Nat.le_mul_of_pos_right _ hb0) hl
  have hr := run_make (P := P) W t e i0 z ht hi hz0 .i64 .i64 (m : Int) (m : Int) (by omega) (by omega)
    (by
      have h3 : ((i0.bytes * m : Nat) : Int) ≤ 281474976710656 := by rw [hz2, Nat.mul_comm]; omega
      rwa [Int.natCast_mul] at h3) (by omega)
  simp only [Int.toNat_natCast] at hr
  rw [hz1] at hr
  refine lit_whole d base e hgd hd (xs := List.replicate m z0) (inner := (madeCells z.cells (m * d.sz)).toList) (okp := okp) (ok := ok) ?_ (Kd.reps_made hz hs0 hzero m) hok hfresh HB hbase (by simp; omega) (by simpa using h)
  simp [execOp, ho, hx, hy, hr]
end
theorem cut_room {P : Program} (t e : TypeId) (kh : IntKind) {i : TypeInfo} (ht : P.underlying t = some (.slice e)) (hi : P.info? e = some i) (A : Option Addr) (n c : Nat) (j : Int) (h0 : 0 ≤ j) (hc : j ≤ c) :
    ∀ W : World, (Instr.slice t (.slice A n c) none (some (.int kh j)) none).run P W = .ok (.slice A j.toNat c) W := by
  intro W
  have hel : P.elem t = e := by simp [Program.elem, ht]
  have hu : P.underlying t = some (.slice (P.elem t)) := by rw [hel]; exact ht
  have ha : (A.map fun x => x.add 0) = A := by cases A <;> simp [Addr.add]
  rw [run_slice_h W t A n c hu kh j h0 hc, hel]
  simp [sizeOf, typeInfo, hi, sliced, Result.andThen, ha]
section
variable {α : Type} {d : Kd α}
/-- The begin of a row that is read. -/
theorem C_begin {w : World} {A : Option Addr} {n : Nat} {xs ys : List α} (h : d.C w A n (xs ++ ys)) : d.C w A xs.length xs := by
  obtain ⟨h1, h2, h3⟩ := h
  simp only [List.length_append] at h1
  refine ⟨rfl, by omega, fun hp => ?_⟩
  obtain ⟨ad, e, hc⟩ := h3 (by omega)
  refine ⟨ad, e, fun j p hj => hc j p ?_⟩
  rw [List.getElem?_append_left (List.getElem?_eq_some_iff.1 hj).1]
  exact hj
end
theorem made {α : Type} {d : Kd α} {e : Nat} {v : Value} {xs : List α} {w W W' : World} {bp : Nat} (hp : bp ≤ W.heap.size) (hB : Below w.heap.size w W) (hb : Below W.heap.size W W') (ho : d.R e W' W.heap.size (fun _ => True) v xs) :
    ∃ a b, (bp ≤ a ∧ a ≤ b) ∧ b ≤ W'.heap.size ∧ d.R e W' w.heap.size (fun k => a ≤ k ∧ k < b) v xs ∧ Below w.heap.size w W' :=
  ⟨W.heap.size, W'.heap.size, ⟨hp, hb.size⟩, Nat.le_refl _, Kd.R_lower (Kd.R_mono (Kd.R_bound ho) (fun k hk => ⟨hk.2.1, hk.2.2.1⟩)) hB.size, below_step hB hb⟩
theorem still {w W W' : World} {bp : Nat} (hp : bp ≤ W.heap.size) (hB : Below w.heap.size w W) (hb : Below W.heap.size W W') : bp ≤ W'.heap.size ∧ Below w.heap.size w W' := ⟨Nat.le_trans hp hb.size, below_step hB hb⟩
def room (n : Nat) : Nat := if n % 6 = 5 then 0 else if n % 3 = 0 then 1 else n
theorem room_le (n : Nat) : room n ≤ n + 1 := by unfold room; split <;> (try split) <;> omega
theorem roomBehind_eq (n : Nat) : laws_roomBehind.f (n : Int) = some (room n : Int) := by
  have h6 : Int.tmod (n : Int) 6 = ((n % 6 : Nat) : Int) := by rw [Int.tmod_eq_emod_of_nonneg (by omega)]; rfl
  have h3 : Int.tmod (n : Int) 3 = ((n % 3 : Nat) : Int) := by rw [Int.tmod_eq_emod_of_nonneg (by omega)]; rfl
  unfold laws_roomBehind.f room
  rw [h6, h3]
  by_cases a : n % 6 = 5
  · rw [if_pos (by omega), if_pos a]; rfl
  · rw [if_neg (by omega), if_neg a]
    by_cases b : n % 3 = 0
    · rw [if_pos (by omega), if_pos b]; rfl
    · rw [if_neg (by omega), if_neg b]
def pad (l : List Int) : List Int := l ++ List.replicate (room l.length) (-7000000000000000101)
theorem pad_length (l : List Int) : (pad l).length = l.length + room l.length := by simp [pad]

theorem set_fill (l : List Int) (F i : Nat) (h : i < l.length) (hF : l.length ≤ F) : (l.take i ++ List.replicate (F - i) 0).set i (rd l i) = l.take (i + 1) ++ List.replicate (F - (i + 1)) 0 := by
  have h1 : F - i = (F - (i + 1)) + 1 := by omega
  rw [h1, List.replicate_succ, List.set_append_right _ _ (by simp; omega)]
  have h2 : i - (l.take i).length = 0 := by simp; omega
  rw [h2, List.set_cons_zero]
  have h3 : l.take (i + 1) = l.take i ++ [rd l i] := by
    rw [List.take_add_one, List.getElem?_eq_getElem h]
    simp [rd, h]
  rw [h3, List.append_assoc]
  rfl
theorem set_fill2 (l : List Int) (F i : Nat) (h : l.length ≤ i) (hF : i < F) : (l ++ (List.replicate (i - l.length) (-7000000000000000101) ++ List.replicate (F - i) 0)).set i (-7000000000000000101) = l ++ (List.replicate (i + 1 - l.length) (-7000000000000000101) ++ List.replicate (F - (i + 1)) 0) := by
  have h1 : F - i = (F - (i + 1)) + 1 := by omega
  rw [List.set_append_right _ _ h, List.set_append_right _ _ (by simp), h1, List.replicate_succ]
  have h2 : i - l.length - (List.replicate (i - l.length) (-7000000000000000101 : Int)).length = 0 := by simp
  rw [h2, List.set_cons_zero]
  have h3 : i + 1 - l.length = (i - l.length) + 1 := by omega
  rw [h3, List.replicate_succ', List.append_assoc]
  rfl
set_option maxHeartbeats 4000000 in
set_option maxRecDepth 100000 in
theorem toIntS_pad (A0 : Option Addr) (c0 : Nat) (l0 : List Int) (w : World) (hr0 : Kd.C (Kd.int .i64) w A0 l0.length l0) (hc0 : l0.length ≤ c0) (hn : l0.length ≤ 1000000) :
    Calls Try.prog 16 #[.slice A0 l0.length c0, .bool false] w fun e w' => ∃ g, e = .returned (.slice (some ⟨g, 0, none⟩) l0.length (pad l0).length) ∧ Kd.R (Kd.int .i64) 3 w' w.heap.size (fun _ => True) (.slice (some ⟨g, 0, none⟩) (pad l0).length (pad l0).length) (pad l0) ∧ Below w.heap.size w w' := by
  have HR0 := Aside0.mk hr0
  have HC0 := Aside0.mk hc0
  have HN := Aside0.mk hn
  have hm := Aside0.mk (roomBehind_eq l0.length)
  have hmb := room_le l0.length
  obtain ⟨m, hmm⟩ : ∃ m, room l0.length = m := ⟨_, rfl⟩
  obtain ⟨F, hF⟩ : ∃ F, (pad l0).length = F := ⟨_, rfl⟩
  rw [hmm] at hm hmb
  have hFm : F = l0.length + m := by rw [← hF, pad_length, hmm]
  have hFw : (IntKind.i64.wrap ((l0.length : Int) + (m : Int))) = (F : Int) := by rw [i64_w]; unfold wrap64; omega
  have hFF := Aside0.mk hF
  have MM := Aside0.mk hmm
  have HFM := Aside0.mk hFm
  have HMB := Aside0.mk hmb
  rw [hF]
  clear hr0 hc0 hF hmm hFm hn hmb
  have hp0 : decide (0 ≤ (F : Int)) = true := by simp
  have HB := Aside0.mk (Below.refl w.heap.size w)
  go_enter Try.func16, Try.ntmps16
  go_wp2_with (first | ((with_reducible refine gate_callee (f := 56) rfl ?_); refine goesL_ (some 18) rfl rfl Try.func56 (by kernel_rfl) rfl #[.int .i64 (l0.length : Int)] rfl (by (try simp only [List.map_toArray, List.map_cons, List.map_nil]); first | done | rfl) ?_; (with_reducible refine (laws_roomBehind.calls (l0.length : Int) (m : Int) _ hm.out).mono ?_); rintro e w' ⟨rfl, ⟨nd, rfl⟩⟩; refine ⟨_, rfl, ?_⟩) | ((with_reducible refine gate_dst (N := 20) rfl ?_); (try (refine gate_guard (by rfl) ?_; dsimp only)); refine make_whole (Kd.int .i64) _ 3 rfl (N := 20) rfl 22 _ _ rfl (F : Int) rfl rfl Try.underlying22 (.int .i64 0) 8 info3 rfl (by decide) (by omega) 0 (ok := fun _ => True) (okp := fun _ => True) rfl (fun _ hk => hk) trivial (by omega) (by have := HFM.out; have := HMB.out; have := HN.out; omega) (Below.refl _ _) (Nat.le_refl _) ?_; intro g w10 ho11 hb hg_ hgb; clear hg_; have n0_ := Aside0.mk (Kd.R_lower ho11 (below_size (by repeat (first | (with_reducible first | exact HB.out | apply below_alloc | apply pw_below_drewN | apply below_drew1) | exact HB.out)))); have n1_ := Aside0.mk (below_step (by repeat (first | (with_reducible first | exact HB.out | apply below_alloc | apply pw_below_drewN | apply below_drew1) | exact HB.out)) hb); clear HB; have HO109 := n0_; have HB := n1_; clear n0_ n1_ hb ho11))
  go_loopg [6] l0.length (fun kq v6 w' => ∃ x : Int, v6 = .int .i64 x ∧ Aside0 (0 ≤ x ∧ x + kq = l0.length) ∧ Aside0 (Kd.R (Kd.int .i64) 3 w' w.heap.size (fun _ => True) (.slice (some ⟨g, 0, none⟩) F F) (l0.take x.toNat ++ List.replicate (F - x.toNat) 0)) ∧ Aside0 (Below w.heap.size w w'))
  case atStart => exact ⟨0, rfl, ⟨by omega⟩, ⟨by have h := HO109.out; simp only [Int.toNat_natCast] at h; simpa using h⟩, HB⟩
  case round =>
    clear HO109 HB
    obtain ⟨x, rfl, HI, HO, HB⟩ := hrel
    by_cases hlt : x < (l0.length : Int)
    · have c1 : decide (x < (l0.length : Int)) = true := decide_eq_true hlt
      have c2 : decide (0 ≤ x) = true := decide_eq_true HI.out.1
      have c3 : decide (x < (F : Int)) = true := decide_eq_true (by have := HFM.out; omega)
      obtain ⟨ad, e1, hx1⟩ := Kd.at_int HR0.out x HI.out.1 hlt
      cases e1
      replace hx1 := (HB.out.cell (World.block_lt_of_cell? w _ hx1)).trans hx1
      have hl : (l0.take x.toNat ++ List.replicate (F - x.toNat) 0).length = F := by have := HI.out; have := HFM.out; simp only [List.length_append, List.length_take, List.length_replicate]; omega
      obtain ⟨hx2, hf2⟩ := Kd.R_celln 0 HO.out x HI.out.1 (by have := HFM.out; omega)
      have HP := Kd.R_putg HO.out x (rd l0 x)
      obtain ⟨y, hy⟩ : ∃ y, y = (l0.take x.toNat ++ List.replicate (F - x.toNat) 0).set x.toNat (rd l0 x) := ⟨_, rfl⟩
      have hy2 : y = l0.take (x + 1).toNat ++ List.replicate (F - (x + 1).toNat) 0 := by
        rw [hy]
        have h0 := HI.out
        have h1 := HFM.out
        obtain ⟨i, rfl⟩ := Int.eq_ofNat_of_zero_le h0.1
        have e : ((i : Int) + 1).toNat = i + 1 := by omega
        rw [e]
        simp only [Int.toNat_natCast]
        exact set_fill l0 F i (by omega) (by omega)
      rw [← hy] at HP
      have HY := Aside0.mk hy2
      have GB := Aside0.mk (Kd.R_base HO.out g (by simp [Value.ownBlock]))
      clear hy hy2 hl
      replace hlt := eq_true hlt
      have p2 := eq_true HI.out.1
      have p3 := eq_true (of_decide_eq_true c3)
      go_wp2_with (first | ((with_reducible refine gate_store (t := 3) (p := 33) rfl ?_); refine store_event (t := 3) (p := 33) (v := ?vo_w17) (w1 := (wr.setCell ⟨g, x.toNat, none⟩ (.int .i64 (rd l0 x)))) ?hg ?ho ?hn ?hr ?_; (case ho => rfl); (case hg => rfl); (case hn => rfl); (case hr => first | (go_simp; done) | (go_simp; rfl)); intro w17 hw; have n0_ := Aside0.mk (by rw [hw]; exact HP.1 : Kd.R (Kd.int .i64) 3 w17 w.heap.size (fun _ => True) (.slice (some ⟨g, 0, none⟩) F F) y); have n1_ := Aside0.mk (by rw [hw]; exact below_set HB.out GB.out : Below w.heap.size w w17); clear HO HB HP; have HO := n0_; have HB := n1_; clear n0_ n1_ hw))
      cases gk with
      | zero => exact absurd HI.out.2 (by have := of_eq_true hlt; omega)
      | succ k1 =>
        go_roundg k1
        case measure => omega
        case rel => exact ⟨x + 1, by have := HI.out; have := HN.out; rw [show wrap64 (x + 1) = x + 1 by unfold wrap64; omega], ⟨by have := HI.out; omega⟩, ⟨by rw [← HY.out]; exact HO.out⟩, HB⟩
    · have c1 : decide (x < (l0.length : Int)) = false := decide_eq_false hlt
      have hx : x = (l0.length : Int) := by have := HI.out; omega
      subst hx
      have HO' : Aside0 (Kd.R (Kd.int .i64) 3 wr w.heap.size (fun _ => True) (.slice (some ⟨g, 0, none⟩) F F) (l0 ++ List.replicate (F - l0.length) 0)) := ⟨by have h := HO.out; simpa using h⟩
      clear HO HI hlt
      go_wp2
      go_loopg [7] (F - l0.length) (fun kq v6 w' => ∃ x : Int, v6 = .int .i64 x ∧ Aside0 ((l0.length : Int) ≤ x ∧ x + kq = F) ∧ Aside0 (Kd.R (Kd.int .i64) 3 w' w.heap.size (fun _ => True) (.slice (some ⟨g, 0, none⟩) F F) (l0 ++ (List.replicate (x.toNat - l0.length) (-7000000000000000101) ++ List.replicate (F - x.toNat) 0))) ∧ Aside0 (Below w.heap.size w w'))
      case atStart => exact ⟨l0.length, rfl, ⟨by have := HFM.out; omega⟩, ⟨by have h := HO'.out; simpa using h⟩, HB⟩
      case round =>
        clear HO' HB c1
        obtain ⟨x, rfl, HI, HO, HB⟩ := hrel
        by_cases hlt : x < (F : Int)
        · have c1 : decide (x < (F : Int)) = true := decide_eq_true hlt
          have c2 : decide (0 ≤ x) = true := decide_eq_true (by have := HI.out; omega)
          obtain ⟨hx2, hf2⟩ := Kd.R_celln 0 HO.out x (by have := HI.out; omega) hlt
          have HP := Kd.R_putg HO.out x (-7000000000000000101)
          obtain ⟨y, hy⟩ : ∃ y, y = (l0 ++ (List.replicate (x.toNat - l0.length) (-7000000000000000101) ++ List.replicate (F - x.toNat) 0)).set x.toNat (-7000000000000000101) := ⟨_, rfl⟩
          have hy2 : y = l0 ++ (List.replicate ((x + 1).toNat - l0.length) (-7000000000000000101) ++ List.replicate (F - (x + 1).toNat) 0) := by
            rw [hy]
            have h0 := HI.out
            obtain ⟨i, rfl⟩ := Int.eq_ofNat_of_zero_le (show 0 ≤ x by omega)
            have e : ((i : Int) + 1).toNat = i + 1 := by omega
            rw [e]
            simp only [Int.toNat_natCast]
            exact set_fill2 l0 F i (by omega) (by omega)
          rw [← hy] at HP
          have HY := Aside0.mk hy2
          have GB := Aside0.mk (Kd.R_base HO.out g (by simp [Value.ownBlock]))
          clear hy hy2
          have p2 := eq_true (of_decide_eq_true c2)
          have p3 := eq_true hlt
          go_wp2
          cases gk with
          | zero => exact absurd HI.out.2 (by have := of_decide_eq_true c1; omega)
          | succ k1 =>
            go_roundg k1
            case measure => omega
            case rel => exact ⟨x + 1, by have := HI.out; have := HN.out; have := HFM.out; have := HMB.out; rw [show wrap64 (x + 1) = x + 1 by unfold wrap64; omega], ⟨by have := HI.out; omega⟩, ⟨by rw [← HY.out]; exact HP.1⟩, ⟨below_set HB.out GB.out⟩⟩
        · have c1 : decide (x < (F : Int)) = false := decide_eq_false hlt
          have hx : x = (F : Int) := by have := HI.out; omega
          subst hx
          have HO' : Aside0 (Kd.R (Kd.int .i64) 3 wr w.heap.size (fun _ => True) (.slice (some ⟨g, 0, none⟩) F F) (pad l0)) := ⟨by have h := HO.out; have e : F - l0.length = room l0.length := (by rw [MM.out]; have := HFM.out; omega); simpa [pad, e] using h⟩
          clear HO HI hlt
          obtain ⟨i027, hi027, _, hsz27, _⟩ := info_parts info3
          have hcut27 := cut_to (P := Try.prog) 22 3 .i64 Try.underlying22 hi027 (some ⟨g, 0, none⟩) F F (l0.length : Int) (by omega) (by have := HFM.out; omega) (Nat.le_refl _)
          go_wp2
          go_ret
          exact ⟨g, by simp, HO'.out, HB.out⟩

theorem eqIntS_loop (l : List Int) (hn : l.length ≤ 9223372036854775807) (d : Nat) : ∀ (k : Nat) (x : Int), 0 ≤ x → (l.length : Int) - x = d → d < k → laws_eqIntS.l0 k l l x = some true := by
  induction d with
  | zero =>
    intro k x h0 hd hk
    obtain ⟨k, rfl⟩ : ∃ m, k = m + 1 := ⟨k - 1, by omega⟩
    simp only [laws_eqIntS.l0]; rw [if_neg (by omega)]
  | succ d ih =>
    intro k x h0 hd hk
    obtain ⟨k, rfl⟩ : ∃ m, k = m + 1 := ⟨k - 1, by omega⟩
    simp only [laws_eqIntS.l0]; rw [if_pos (by omega), if_pos h0, if_pos (by omega), if_pos trivial, show wrap64 (x + 1) = x + 1 by unfold wrap64; omega]
    exact ih k (x + 1) (by omega) (by omega) (by omega)
theorem eqIntS_self (l : List Int) (hn : l.length ≤ 9223372036854775807) : laws_eqIntS.f (l.length + 1) l l = some true := by
  unfold laws_eqIntS.f
  rw [if_pos rfl]
  exact eqIntS_loop l hn l.length (l.length + 1) 0 (by omega) (by omega) (by omega)
set_option maxHeartbeats 4000000 in
set_option maxRecDepth 100000 in
theorem intactIntS_pad (g1 g2 : Nat) (l : List Int) (w : World) (hl : l.length ≤ 1000000) 
    (h1 : ∃ b ok, Kd.R (Kd.int .i64) 3 w b ok (.slice (some ⟨g1, 0, none⟩) (pad l).length (pad l).length) (pad l))
    (h2 : ∃ b ok, Kd.R (Kd.int .i64) 3 w b ok (.slice (some ⟨g2, 0, none⟩) (pad l).length (pad l).length) (pad l)) :
    Calls Try.prog 19 #[.slice (some ⟨g1, 0, none⟩) l.length (pad l).length, .slice (some ⟨g2, 0, none⟩) l.length (pad l).length] w fun e w' => e = .returned (.bool true) ∧ Drawn0 w w' := by
  obtain ⟨_, _, h1⟩ := h1
  obtain ⟨_, _, h2⟩ := h2
  have H1 := Aside0.mk (Kd.R_reads' h1).2.2
  have H2 := Aside0.mk (Kd.R_reads' h2).2.2
  have hm := Aside0.mk (roomBehind_eq l.length)
  have hmb := room_le l.length
  have HE := Aside0.mk (eqIntS_self (pad l) (by rw [pad_length]; omega))
  obtain ⟨p, hp⟩ : ∃ p, pad l = p := ⟨_, rfl⟩
  have hpl := pad_length l
  obtain ⟨m, hmm⟩ : ∃ m, room l.length = m := ⟨_, rfl⟩
  rw [hp] at H1 H2 HE hpl ⊢
  rw [hmm] at hm hmb hpl
  have hFw : (IntKind.i64.wrap ((l.length : Int) + (m : Int))) = (p.length : Int) := by rw [i64_w]; unfold wrap64; omega
  have HL := Aside0.mk hpl
  clear h1 h2 hp hpl hmm hmb
  obtain ⟨i0, hi0, _, hsz, _⟩ := info_parts info3
  have hc1 := cut_room (P := Try.prog) 22 3 .i64 Try.underlying22 hi0 (some ⟨g1, 0, none⟩) l.length p.length (p.length : Int) (by omega) (Int.le_refl _)
  have hc2 := cut_room (P := Try.prog) 22 3 .i64 Try.underlying22 hi0 (some ⟨g2, 0, none⟩) l.length p.length (p.length : Int) (by omega) (Int.le_refl _)
  simp only [Int.toNat_natCast] at hc1 hc2
  clear hi0 hsz
  go_enter Try.func19, Try.ntmps19
  go_wp2_with (first | ((with_reducible refine gate_callee (f := 56) rfl ?_); refine goesL_ (some 10) rfl rfl Try.func56 (by kernel_rfl) rfl #[.int .i64 (l.length : Int)] rfl (by (try simp only [List.map_toArray, List.map_cons, List.map_nil]); first | done | rfl) ?_; (with_reducible refine (laws_roomBehind.calls (l.length : Int) (m : Int) _ hm.out).mono ?_); rintro e w' ⟨rfl, ⟨nd, rfl⟩⟩; refine ⟨_, rfl, ?_⟩) | (go_at_call 18; (with_reducible refine (laws_eqIntS.calls (p.length + 1) _ _ p _ _ p true _ ?side1 ?side2 ?side3 ?side4 HE.out).mono ?_); (case side1 => repeat (first | exact H1.out | (with_reducible refine Kd.C_alloc ?_ _) | (with_reducible refine Kd.C_drewN ?_ _) | (with_reducible refine Kd.C_drew ?_))); (case side2 => exact Nat.le_refl _); (case side3 => repeat (first | exact H2.out | (with_reducible refine Kd.C_alloc ?_ _) | (with_reducible refine Kd.C_drewN ?_ _) | (with_reducible refine Kd.C_drew ?_))); (case side4 => exact Nat.le_refl _); rintro e w' ⟨rfl, ⟨nd, rfl⟩⟩))
  have hbb : ((l.length : Int) == (l.length : Int)) = true := by simp
  go_quiet ((go_at_call 18; (with_reducible refine (laws_eqIntS.calls (p.length + 1) _ _ p _ _ p true _ ?side1 ?side2 ?side3 ?side4 HE.out).mono ?_); (case side1 => repeat (first | exact H1.out | (with_reducible refine Kd.C_alloc ?_ _) | (with_reducible refine Kd.C_drewN ?_ _) | (with_reducible refine Kd.C_drew ?_))); (case side2 => exact Nat.le_refl _); (case side3 => repeat (first | exact H2.out | (with_reducible refine Kd.C_alloc ?_ _) | (with_reducible refine Kd.C_drewN ?_ _) | (with_reducible refine Kd.C_drew ?_))); (case side4 => exact Nat.le_refl _); rintro e w' ⟨rfl, ⟨nd, rfl⟩⟩; (try first | exact ⟨rfl, _, World.drewN_drewN _ _ _⟩ | exact ⟨rfl, _, Eq.trans (World.drewN_drewN _ _ _) (congrArg (World.drewN _) (Nat.add_assoc _ _ _))⟩)))
  go_wp2
  go_ret
  exact ⟨by first | rfl | (simp; done), by repeat (first | exact Drawn0.refl _ | apply Drawn0.step)⟩
theorem toIntS_l1 (l : List Int) (F : Nat) (hF : F ≤ 3000000) (d : Nat) : ∀ (k i : Nat), l.length ≤ i → i ≤ F → F - i = d → d < k → laws_toIntS.l1 k l (l ++ (List.replicate (i - l.length) (-7000000000000000101) ++ List.replicate (F - i) 0)) (i : Int) = some l := by
  induction d with
  | zero =>
    intro k i h0 h1 hd hk
    obtain ⟨k, rfl⟩ : ∃ m, k = m + 1 := ⟨k - 1, by omega⟩
    simp only [laws_toIntS.l1]; rw [if_neg (by simp only [List.length_append, List.length_replicate]; omega), if_pos (by omega), if_pos (by simp only [List.length_append, List.length_replicate]; omega)]
    simp
  | succ d ih =>
    intro k i h0 h1 hd hk
    obtain ⟨k, rfl⟩ : ∃ m, k = m + 1 := ⟨k - 1, by omega⟩
    simp only [laws_toIntS.l1]; rw [if_pos (by simp only [List.length_append, List.length_replicate]; omega), if_pos (by omega), show wrap64 ((i : Int) + 1) = ((i + 1 : Nat) : Int) by unfold wrap64; omega, Int.toNat_natCast, set_fill2 l F i h0 (by omega)]
    exact ih k (i + 1) (by omega) (by omega) (by omega) (by omega)
theorem toIntS_l0 (l : List Int) (F : Nat) (hF : F ≤ 3000000) (hl : l.length ≤ F) (d : Nat) : ∀ (k i : Nat), i ≤ l.length → l.length - i = d → d + F + 2 < k → laws_toIntS.l0 k l (l.take i ++ List.replicate (F - i) 0) (i : Int) = some l := by
  induction d with
  | zero =>
    intro k i h1 hd hk
    obtain ⟨k, rfl⟩ : ∃ m, k = m + 1 := ⟨k - 1, by omega⟩
    have e : i = l.length := by omega
    subst e
    simp only [laws_toIntS.l0]; rw [if_neg (by omega)]
    have h := toIntS_l1 l F hF (F - l.length) k l.length (Nat.le_refl _) hl rfl (by omega)
    simpa using h
  | succ d ih =>
    intro k i h1 hd hk
    obtain ⟨k, rfl⟩ : ∃ m, k = m + 1 := ⟨k - 1, by omega⟩
    simp only [laws_toIntS.l0]; rw [if_pos (by omega), if_pos (by omega), if_pos (by simp only [List.length_append, List.length_take, List.length_replicate]; omega), show wrap64 ((i : Int) + 1) = ((i + 1 : Nat) : Int) by unfold wrap64; omega, Int.toNat_natCast, set_fill l F i (by omega) hl]
    exact ih k (i + 1) (by omega) (by omega) (by omega)
theorem toIntS_j0 (l : List Int) (hn : l.length ≤ 1000000) (F : Nat) (hF : l.length + room l.length = F) (k : Nat) (hk : l.length + F + 2 < k) : laws_toIntS.j0 (k + 1) l false = some l := by
  have hr := room_le l.length
  have hw : wrap64 ((l.length : Int) + (room l.length : Int)) = (F : Int) := by unfold wrap64; omega
  have hb : F ≤ 35184372088832 := by omega
  have h := toIntS_l0 l F (by omega) (by omega) l.length k 0 (by omega) (by omega) hk
  simp only [laws_toIntS.j0]
  rw [if_neg (by decide), roomBehind_eq, Option.bind_some, hw, if_pos (by omega), Int.toNat_natCast, if_pos hb]
  simpa using h
theorem toIntS_bare (l : List Int) (hn : l.length ≤ 1000000) : ∃ k, laws_toIntS.f k l true = some l := by
  refine ⟨(l.length + (l.length + room l.length) + 3) + 1, ?_⟩
  unfold laws_toIntS.f
  rw [if_pos rfl]
  by_cases h : l = []
  · subst h
    rfl
  · have e : ((l.length : Int) == 0) = false := by
      have : 0 < l.length := List.length_pos_iff.2 h
      simp only [beq_eq_false_iff_ne]; omega
    rw [e]
    exact toIntS_j0 l hn _ rfl _ (by omega)
theorem pad_reads {w : World} {b : Nat} {ok : Nat → Prop} {A : Option Addr} {l : List Int} (h : Kd.R (Kd.int .i64) 3 w b ok (.slice A (pad l).length (pad l).length) (pad l)) : Kd.C (Kd.int .i64) w A l.length l := C_begin (Kd.R_reads' h).2.2
theorem pad_le (l : List Int) : l.length ≤ (pad l).length := by rw [pad_length]; omega
theorem pad_seen {w : World} {b : Nat} {ok : Nat → Prop} {A : Option Addr} {l : List Int} (h : Kd.R (Kd.int .i64) 3 w b ok (.slice A (pad l).length (pad l).length) (pad l)) : Kd.R (Kd.int .i64) 3 w b ok (.slice A l.length (pad l).length) l := by
  have h2 := Kd.R_take h (pad_le l)
  have e : (pad l).take l.length = l := by simp [pad]
  rwa [e] at h2
def marks (a : Int) (n : Nat) : List Int := (List.range n).map fun i : Nat => a + (i : Int)
theorem marks_length (a : Int) (n : Nat) : (marks a n).length = n := by simp [marks]
theorem marks_take (a : Int) (l : List Int) (i : Nat) (h : i < l.length) : (marks a i ++ l.drop i).set i (a + (i : Int)) = marks a (i + 1) ++ l.drop (i + 1) := by
  have h1 : l.drop i = l[i] :: l.drop (i + 1) := (List.drop_eq_getElem_cons h)
  rw [h1, List.set_append_right _ _ (by simp [marks])]
  have h2 : i - (marks a i).length = 0 := by simp [marks]
  rw [h2, List.set_cons_zero]
  have h3 : marks a (i + 1) = marks a i ++ [a + (i : Int)] := by simp [marks, List.range_succ]
  rw [h3, List.append_assoc]
  rfl
theorem markIntS_l0 (l : List Int) (a : Int) (ha : 0 ≤ a) (hn : l.length ≤ 1000000) (hb : a ≤ 1000000000000) (d : Nat) : ∀ (k i : Nat), i ≤ l.length → l.length - i = d → d < k → laws_markIntS.l0 k (marks a i ++ l.drop i) (a + (i : Int)) (i : Int) = some (a + (l.length : Int), marks a l.length) := by
  induction d with
  | zero =>
    intro k i h1 hd hk
    obtain ⟨k, rfl⟩ : ∃ m, k = m + 1 := ⟨k - 1, by omega⟩
    have e : i = l.length := by omega
    subst e
    simp only [laws_markIntS.l0]; rw [if_neg (by simp [marks])]
    simp
  | succ d ih =>
    intro k i h1 hd hk
    obtain ⟨k, rfl⟩ : ∃ m, k = m + 1 := ⟨k - 1, by omega⟩
    have hlen : ((marks a i ++ l.drop i).length : Int) = l.length := by simp [marks]; omega
    simp only [laws_markIntS.l0]; rw [if_pos (by omega), if_pos (by omega), show wrap64 ((i : Int) + 1) = ((i + 1 : Nat) : Int) by unfold wrap64; omega, Int.toNat_natCast, marks_take a l i (by omega), show wrap64 (a + (i : Int) + 1) = a + ((i + 1 : Nat) : Int) by unfold wrap64; omega]
    exact ih k (i + 1) (by omega) (by omega) (by omega)
theorem markIntS_eq (l : List Int) (a : Int) (ha : 0 ≤ a) (hn : l.length ≤ 1000000) (hb : a ≤ 1000000000000) : ∃ k, laws_markIntS.f k l a = some (a + (l.length : Int), marks a l.length) := by
  refine ⟨l.length + 1, ?_⟩
  unfold laws_markIntS.f
  have h := markIntS_l0 l a ha hn hb l.length (l.length + 1) 0 (by omega) (by omega) (by omega)
  simpa [marks] using h
theorem eqTerm_self (a b c d : Int) : laws_eqTerm.f a b c d a b c d = some true := by simp [laws_eqTerm.f]
theorem eqTermS_loop (l : List S71) (hn : l.length ≤ 9223372036854775807) (d : Nat) : ∀ (k : Nat) (x : Int), 0 ≤ x → (l.length : Int) - x = d → d < k → laws_eqTermS.l0 k l l x = some true := by
  induction d with
  | zero =>
    intro k x h0 hd hk
    obtain ⟨k, rfl⟩ : ∃ m, k = m + 1 := ⟨k - 1, by omega⟩
    simp only [laws_eqTermS.l0]; rw [if_neg (by omega)]
  | succ d ih =>
    intro k x h0 hd hk
    obtain ⟨k, rfl⟩ : ∃ m, k = m + 1 := ⟨k - 1, by omega⟩
    simp only [laws_eqTermS.l0]; rw [if_pos (by omega), if_pos h0, if_pos (by omega), eqTerm_self]; simp only [Option.bind_some]; rw [if_pos trivial, show wrap64 (x + 1) = x + 1 by unfold wrap64; omega]
    exact ih k (x + 1) (by omega) (by omega) (by omega)
theorem eqTermS_self (l : List S71) (hn : l.length ≤ 9223372036854775807) : laws_eqTermS.f (l.length + 1) l l = some true := by
  unfold laws_eqTermS.f
  rw [if_pos rfl]
  exact eqTermS_loop l hn l.length (l.length + 1) 0 (by omega) (by omega) (by omega)
def marksT (a : Int) (n : Nat) : List S71 := (List.range n).map fun i : Nat => (⟨a + 4 * (i : Int), a + 4 * (i : Int) + 1, a + 4 * (i : Int) + 2, a + 4 * (i : Int) + 3⟩ : S71)
theorem marksT_length (a : Int) (n : Nat) : (marksT a n).length = n := by simp [marksT]
theorem marksT_take (a : Int) (l : List S71) (i : Nat) (h : i < l.length) : (marksT a i ++ l.drop i).set i (⟨a + 4 * (i : Int), a + 4 * (i : Int) + 1, a + 4 * (i : Int) + 2, a + 4 * (i : Int) + 3⟩ : S71) = marksT a (i + 1) ++ l.drop (i + 1) := by
  have h1 : l.drop i = l[i] :: l.drop (i + 1) := (List.drop_eq_getElem_cons h)
  rw [h1, List.set_append_right _ _ (by simp [marksT])]
  have h2 : i - (marksT a i).length = 0 := by simp [marksT]
  rw [h2, List.set_cons_zero]
  have h3 : marksT a (i + 1) = marksT a i ++ [(⟨a + 4 * (i : Int), a + 4 * (i : Int) + 1, a + 4 * (i : Int) + 2, a + 4 * (i : Int) + 3⟩ : S71)] := by simp [marksT, List.range_succ]
  rw [h3, List.append_assoc]
  rfl
theorem rdT_set (xs : List S71) (i : Nat) (v : S71) (h : i < xs.length) : rd_T71 (xs.set i v) (i : Int) = v := by simp [rd_T71, h]
theorem markT_step (k : Nat) (xs : List S71) (i : Nat) (a : Int) (h : i < xs.length) (hn : xs.length ≤ 1000000) (ha : 0 ≤ a) (hb : a ≤ 2000000000000) :
    laws_markTermS.l0 (k + 1) xs a (i : Int) = laws_markTermS.l0 k (xs.set i (⟨a, a + 1, a + 2, a + 3⟩ : S71)) (a + 4) ((i + 1 : Nat) : Int) := by
  have c1 : (i : Int) < (xs.length : Int) := by omega
  have c2 : (0 : Int) ≤ (i : Int) := by omega
  have e1 : wrap64 (a + 1) = a + 1 := by unfold wrap64; omega
  have e2 : wrap64 (a + 1 + 1) = a + 2 := by unfold wrap64; omega
  have e3 : wrap64 (a + 2 + 1) = a + 3 := by unfold wrap64; omega
  have e4 : wrap64 (a + 3 + 1) = a + 4 := by unfold wrap64; omega
  have e5 : wrap64 ((i : Int) + 1) = ((i + 1 : Nat) : Int) := by unfold wrap64; omega
  conv => lhs; simp only [laws_markTermS.l0]
  rw [if_pos c1, if_pos c2, e1, e2, e3, e4, e5]
  simp only [Option.bind_some, Int.toNat_natCast, rdT_set xs i _ h, List.set_set]
theorem markTermS_l0 (l : List S71) (a : Int) (ha : 0 ≤ a) (hn : l.length ≤ 1000000) (hb : a ≤ 1000000000000) (d : Nat) : ∀ (k i : Nat), i ≤ l.length → l.length - i = d → d < k → laws_markTermS.l0 k (marksT a i ++ l.drop i) (a + 4 * (i : Int)) (i : Int) = some (a + 4 * (l.length : Int), marksT a l.length) := by
  induction d with
  | zero =>
    intro k i h1 hd hk
    obtain ⟨k, rfl⟩ : ∃ m, k = m + 1 := ⟨k - 1, by omega⟩
    have e : i = l.length := by omega
    subst e
    simp only [laws_markTermS.l0]; rw [if_neg (by simp [marksT])]
    simp
  | succ d ih =>
    intro k i h1 hd hk
    obtain ⟨k, rfl⟩ : ∃ m, k = m + 1 := ⟨k - 1, by omega⟩
    have hlen : (marksT a i ++ l.drop i).length = l.length := by simp [marksT]; omega
    rw [markT_step k _ i _ (by omega) (by omega) (by omega) (by omega), marksT_take a l i (by omega), show a + 4 * (i : Int) + 4 = a + 4 * ((i + 1 : Nat) : Int) by omega]
    exact ih k (i + 1) (by omega) (by omega) (by omega)
theorem markTermS_eq (l : List S71) (a : Int) (ha : 0 ≤ a) (hn : l.length ≤ 1000000) (hb : a ≤ 1000000000000) : ∃ k, laws_markTermS.f k l a = some (a + 4 * (l.length : Int), marksT a l.length) := by
  refine ⟨l.length + 1, ?_⟩
  unfold laws_markTermS.f
  have h := markTermS_l0 l a ha hn hb l.length (l.length + 1) 0 (by omega) (by omega) (by omega)
  simpa [marksT] using h
theorem heldTermS_l0 (n : Nat) (a : Int) (ha : 0 ≤ a) (hn : n ≤ 1000000) (hb : a ≤ 1000000000000) (d : Nat) : ∀ (k i : Nat), i ≤ n → n - i = d → d < k → laws_heldTermS.l0 k (marksT a n) (a + 4 * (i : Int)) (i : Int) = some (a + 4 * (n : Int)) := by
  induction d with
  | zero =>
    intro k i h1 hd hk
    obtain ⟨k, rfl⟩ : ∃ m, k = m + 1 := ⟨k - 1, by omega⟩
    have e : i = n := by omega
    subst e
    simp only [laws_heldTermS.l0]; rw [if_neg (by simp [marksT])]
  | succ d ih =>
    intro k i h1 hd hk
    obtain ⟨k, rfl⟩ : ∃ m, k = m + 1 := ⟨k - 1, by omega⟩
    have hlen : ((marksT a n).length : Int) = n := by simp [marksT]
    have hrd : rd_T71 (marksT a n) (i : Int) = (⟨a + 4 * (i : Int), a + 4 * (i : Int) + 1, a + 4 * (i : Int) + 2, a + 4 * (i : Int) + 3⟩ : S71) := by
      have : i < n := by omega
      simp [rd_T71, marksT, this]
    have c1 : (i : Int) < ((marksT a n).length : Int) := by omega
    have c2 : (0 : Int) ≤ (i : Int) := by omega
    have e1 : wrap64 (a + 4 * (i : Int) + 1) = a + 4 * (i : Int) + 1 := by unfold wrap64; omega
    have e2 : wrap64 (a + 4 * (i : Int) + 1 + 1) = a + 4 * (i : Int) + 2 := by unfold wrap64; omega
    have e3 : wrap64 (a + 4 * (i : Int) + 2 + 1) = a + 4 * (i : Int) + 3 := by unfold wrap64; omega
    have e4 : wrap64 (a + 4 * (i : Int) + 3 + 1) = a + 4 * ((i + 1 : Nat) : Int) := by unfold wrap64; omega
    have e5 : wrap64 ((i : Int) + 1) = ((i + 1 : Nat) : Int) := by unfold wrap64; omega
    simp only [laws_heldTermS.l0]; rw [if_pos c1, if_pos c2, hrd, e1, e2, e3, e4, e5]
    simp only [if_true]
    clear e1 e2 e3 e4 e5 hrd hlen c1 c2
    exact ih k (i + 1) (by omega) (by omega) (by omega)
theorem heldTermS_eq (n : Nat) (a : Int) (ha : 0 ≤ a) (hn : n ≤ 1000000) (hb : a ≤ 1000000000000) : ∃ k, laws_heldTermS.f k (marksT a n) a = some (a + 4 * (n : Int)) := by
  refine ⟨n + 1, ?_⟩
  unfold laws_heldTermS.f
  have h := heldTermS_l0 n a ha hn hb n (n + 1) 0 (by omega) (by omega) (by omega)
  simpa using h
theorem heldT_calls (k : Nat) (A0 : Option Addr) (c0 n : Nat) (a q : Int) (w : World) (hr : Kd.C k71 w A0 (marksT a n).length (marksT a n)) (hc : n ≤ c0) (h : laws_heldTermS.f k (marksT a n) a = some q) :
    Calls Try.prog 53 #[.slice A0 n c0, .int .i64 a] w fun e w' => e = .returned (.int .i64 q) ∧ Drawn0 w w' := by
  have h2 := laws_heldTermS.calls k A0 c0 (marksT a n) a q w hr (by rw [marksT_length]; exact hc) h
  rw [marksT_length] at h2
  exact h2
set_option maxHeartbeats 8000000 in
set_option maxRecDepth 100000 in
theorem law_walk (A0 : Option Addr) (c0 : Nat) (l0 : List Int) (w : World) (hr0 : Kd.C (Kd.int .i64) w A0 l0.length l0) (hc0 : l0.length ≤ c0) (hn0 : l0.length ≤ 1000000) (ks ki : Nat) (r1 : List S71) (r2 : Bool) (hs : spec_TermsOf.f ks l0 = some (r1, r2)) (hi : impl_TermsOf.f ki l0 = some (r1, r2)) (hg : r1.length ≤ 1000000) :
    Calls Try.prog 14 #[.slice A0 l0.length c0] w fun e w' => e = .returned (.bool true) ∧ Below w.heap.size w w' := by
  have HR0 := Aside0.mk hr0
  have HC0 := Aside0.mk hc0
  have HN0 := Aside0.mk hn0
  obtain ⟨kb0, hba0⟩ := toIntS_bare l0 hn0
  have HBA0 := Aside0.mk hba0
  have HS := Aside0.mk hs
  have HI := Aside0.mk hi
  have HB := Aside0.mk (Below.refl w.heap.size w)
  have Z := Aside0.mk (Nat.zero_le w.heap.size)
  obtain ⟨km0, hm0⟩ := markIntS_eq l0 (101) (by omega) hn0 (by omega)
  obtain ⟨m0, hmm0⟩ : ∃ m : Int, m = 101 + (l0.length : Int) := ⟨_, rfl⟩
  rw [← hmm0] at hm0
  have HM0 := Aside0.mk hm0
  have cm : decide (m0 < 0) = false := decide_eq_false (by omega)
  have HE := Aside0.mk (eqTermS_self r1 (by omega))
  obtain ⟨kg, hgm⟩ := markTermS_eq r1 101 (by omega) hg (by omega)
  obtain ⟨kh, hh⟩ := heldTermS_eq r1.length 101 (by omega) hg (by omega)
  obtain ⟨mg, hmg⟩ : ∃ m : Int, m = 101 + 4 * (r1.length : Int) := ⟨_, rfl⟩
  rw [← hmg] at hgm hh
  have HG := Aside0.mk hgm
  have HH := Aside0.mk hh
  have cmg : decide (mg < 0) = false := decide_eq_false (by omega)
  have cn : decide (1000000 < (l0.length : Int)) = false := decide_eq_false (by omega)
  have cn2 : decide (1000000 < l0.length) = false := decide_eq_false (by omega)
  clear hs hi hr0 hc0 hba0 hm0 hmm0 hgm hh hmg hg hn0
  go_enter Try.func14, Try.ntmps14
  go_wp2_with (first
    | ((with_reducible refine gate_callee (f := 16) rfl ?_); refine goesL_ (some 18) rfl rfl Try.func16 (by kernel_rfl) rfl #[.slice A0 l0.length c0, .bool false] rfl (by (try simp only [List.map_toArray, List.map_cons, List.map_nil]); first | done | rfl | (simp only [List.length_drop, List.length_take]; rfl)) ?_; (with_reducible refine (toIntS_pad _ _ l0 _ ?side1 ?side2 HN0.out).mono ?_); (case side1 => repeat (first | exact HR0.out | exact (Kd.C_below HR0.out (by repeat (first | (with_reducible first | exact HB.out | apply below_alloc | apply pw_below_drewN | apply below_drew1) | exact HB.out))) | (with_reducible refine Kd.C_alloc ?_ _) | (with_reducible refine Kd.C_drewN ?_ _) | (with_reducible refine Kd.C_drew ?_))); (case side2 => exact HC0.out); rintro e w1_ ⟨g1_, rfl, ho0, hb⟩; refine ⟨_, rfl, ?_⟩; obtain ⟨a1_, b1_, z1_, z2_, z3_, z4_⟩ := made (by exact Z.out) (by repeat (first | (with_reducible first | exact HB.out | apply below_alloc | apply pw_below_drewN | apply below_drew1) | exact HB.out)) hb ho0; clear HB Z; have O1 := Aside0.mk z3_; have Q1 := Aside0.mk z1_; have HB := Aside0.mk z4_; have Z := Aside0.mk z2_; clear z1_ z2_ z3_ z4_ hb ho0)
    | ((with_reducible refine gate_callee (f := 50) rfl ?_); refine goesL_ (some 19) rfl rfl Try.func50 (by kernel_rfl) rfl #[.slice (some ⟨g1_, 0, none⟩) l0.length (pad l0).length] rfl (by (try simp only [List.map_toArray, List.map_cons, List.map_nil]); first | done | rfl | (simp only [List.length_drop, List.length_take]; rfl)) ?_; (with_reducible refine (spec_TermsOf.calls ks _ _ l0 r1 r2 _ ?side1 ?side2 HS.out).mono ?_); (case side1 => repeat (first | exact pad_reads O1.out | (with_reducible refine Kd.C_alloc ?_ _) | (with_reducible refine Kd.C_drewN ?_ _) | (with_reducible refine Kd.C_drew ?_))); (case side2 => exact pad_le _); rintro e w2_ ⟨v2_, rfl, ho0, hb⟩; refine ⟨_, rfl, ?_⟩; obtain ⟨a2_, b2_, z1_, z2_, z3_, z4_⟩ := made (by exact Z.out) (by repeat (first | (with_reducible first | exact HB.out | apply below_alloc | apply pw_below_drewN | apply below_drew1) | exact HB.out)) hb ho0; have nO1_ := Aside0.mk (Kd.R_below (by (with_reducible repeat (first | apply Kd.R_alloc | apply Kd.R_drewN | apply Kd.R_drew)); exact O1.out) hb); clear O1 HB Z; have O1 := nO1_; clear nO1_; have O2 := Aside0.mk z3_; have Q2 := Aside0.mk z1_; have HB := Aside0.mk z4_; have Z := Aside0.mk z2_; clear z1_ z2_ z3_ z4_ hb ho0; obtain ⟨A2_, c2_, e2_⟩ := Kd.R_slice O2.out; subst e2_)
    | ((with_reducible refine gate_callee (f := 16) rfl ?_); refine goesL_ (some 23) rfl rfl Try.func16 (by kernel_rfl) rfl #[.slice A0 l0.length c0, .bool false] rfl (by (try simp only [List.map_toArray, List.map_cons, List.map_nil]); first | done | rfl | (simp only [List.length_drop, List.length_take]; rfl)) ?_; (with_reducible refine (toIntS_pad _ _ l0 _ ?side1 ?side2 HN0.out).mono ?_); (case side1 => repeat (first | exact HR0.out | exact (Kd.C_below HR0.out (by repeat (first | (with_reducible first | exact HB.out | apply below_alloc | apply pw_below_drewN | apply below_drew1) | exact HB.out))) | (with_reducible refine Kd.C_alloc ?_ _) | (with_reducible refine Kd.C_drewN ?_ _) | (with_reducible refine Kd.C_drew ?_))); (case side2 => exact HC0.out); rintro e w3_ ⟨g3_, rfl, ho0, hb⟩; refine ⟨_, rfl, ?_⟩; obtain ⟨a3_, b3_, z1_, z2_, z3_, z4_⟩ := made (by exact Z.out) (by repeat (first | (with_reducible first | exact HB.out | apply below_alloc | apply pw_below_drewN | apply below_drew1) | exact HB.out)) hb ho0; have nO1_ := Aside0.mk (Kd.R_below (by (with_reducible repeat (first | apply Kd.R_alloc | apply Kd.R_drewN | apply Kd.R_drew)); exact O1.out) hb); have nO2_ := Aside0.mk (Kd.R_below (by (with_reducible repeat (first | apply Kd.R_alloc | apply Kd.R_drewN | apply Kd.R_drew)); exact O2.out) hb); clear O1 O2 HB Z; have O1 := nO1_; have O2 := nO2_; clear nO1_ nO2_; have O3 := Aside0.mk z3_; have Q3 := Aside0.mk z1_; have HB := Aside0.mk z4_; have Z := Aside0.mk z2_; clear z1_ z2_ z3_ z4_ hb ho0)
    | ((with_reducible refine gate_callee (f := 51) rfl ?_); refine goesL_ (some 26) rfl rfl Try.func51 (by kernel_rfl) rfl #[.slice (some ⟨g3_, 0, none⟩) l0.length (pad l0).length] rfl (by (try simp only [List.map_toArray, List.map_cons, List.map_nil]); first | done | rfl | (simp only [List.length_drop, List.length_take]; rfl)) ?_; (with_reducible refine (impl_TermsOf.calls ki _ _ l0 r1 r2 _ ?side1 ?side2 HI.out).mono ?_); (case side1 => repeat (first | exact pad_reads O3.out | (with_reducible refine Kd.C_alloc ?_ _) | (with_reducible refine Kd.C_drewN ?_ _) | (with_reducible refine Kd.C_drew ?_))); (case side2 => exact pad_le _); rintro e w4_ ⟨v4_, rfl, ho0, hb⟩; refine ⟨_, rfl, ?_⟩; obtain ⟨a4_, b4_, z1_, z2_, z3_, z4_⟩ := made (by exact Z.out) (by repeat (first | (with_reducible first | exact HB.out | apply below_alloc | apply pw_below_drewN | apply below_drew1) | exact HB.out)) hb ho0; have nO1_ := Aside0.mk (Kd.R_below (by (with_reducible repeat (first | apply Kd.R_alloc | apply Kd.R_drewN | apply Kd.R_drew)); exact O1.out) hb); have nO2_ := Aside0.mk (Kd.R_below (by (with_reducible repeat (first | apply Kd.R_alloc | apply Kd.R_drewN | apply Kd.R_drew)); exact O2.out) hb); have nO3_ := Aside0.mk (Kd.R_below (by (with_reducible repeat (first | apply Kd.R_alloc | apply Kd.R_drewN | apply Kd.R_drew)); exact O3.out) hb); clear O1 O2 O3 HB Z; have O1 := nO1_; have O2 := nO2_; have O3 := nO3_; clear nO1_ nO2_ nO3_; have O4 := Aside0.mk z3_; have Q4 := Aside0.mk z1_; have HB := Aside0.mk z4_; have Z := Aside0.mk z2_; clear z1_ z2_ z3_ z4_ hb ho0; obtain ⟨A4_, c4_, e4_⟩ := Kd.R_slice O4.out; subst e4_)
    | ((with_reducible refine gate_callee (f := 52) rfl ?_); refine goesL_ (some 31) rfl rfl Try.func52 (by kernel_rfl) rfl #[.slice A4_ r1.length c4_, .slice A2_ r1.length c2_] rfl (by (try simp only [List.map_toArray, List.map_cons, List.map_nil]); first | done | rfl | (simp only [List.length_drop, List.length_take]; rfl)) ?_; (with_reducible refine (laws_eqTermS.calls (r1.length + 1) _ _ r1 _ _ r1 true _ ?side1 ?side2 ?side3 ?side4 HE.out).mono ?_); (case side1 => repeat (first | exact (Kd.R_reads' O4.out).2.2 | (with_reducible refine Kd.C_alloc ?_ _) | (with_reducible refine Kd.C_drewN ?_ _) | (with_reducible refine Kd.C_drew ?_))); (case side2 => exact (Kd.R_reads' O4.out).2.1); (case side3 => repeat (first | exact (Kd.R_reads' O2.out).2.2 | (with_reducible refine Kd.C_alloc ?_ _) | (with_reducible refine Kd.C_drewN ?_ _) | (with_reducible refine Kd.C_drew ?_))); (case side4 => exact (Kd.R_reads' O2.out).2.1); rintro e w5_ ⟨rfl, hb⟩; refine ⟨_, rfl, ?_⟩; obtain ⟨z2_, z4_⟩ := still (by exact Z.out) (by repeat (first | (with_reducible first | exact HB.out | apply below_alloc | apply pw_below_drewN | apply below_drew1) | exact HB.out)) hb; have nO1_ := Aside0.mk (Kd.R_below (by (with_reducible repeat (first | apply Kd.R_alloc | apply Kd.R_drewN | apply Kd.R_drew)); exact O1.out) hb); have nO2_ := Aside0.mk (Kd.R_below (by (with_reducible repeat (first | apply Kd.R_alloc | apply Kd.R_drewN | apply Kd.R_drew)); exact O2.out) hb); have nO3_ := Aside0.mk (Kd.R_below (by (with_reducible repeat (first | apply Kd.R_alloc | apply Kd.R_drewN | apply Kd.R_drew)); exact O3.out) hb); have nO4_ := Aside0.mk (Kd.R_below (by (with_reducible repeat (first | apply Kd.R_alloc | apply Kd.R_drewN | apply Kd.R_drew)); exact O4.out) hb); clear O1 O2 O3 O4 HB Z; have O1 := nO1_; have O2 := nO2_; have O3 := nO3_; have O4 := nO4_; clear nO1_ nO2_ nO3_ nO4_; have HB := Aside0.mk z4_; have Z := Aside0.mk z2_; clear z2_ z4_ hb)
    | ((with_reducible refine gate_callee (f := 16) rfl ?_); refine goesL_ (some 40) rfl rfl Try.func16 (by kernel_rfl) rfl #[.slice A0 l0.length c0, .bool false] rfl (by (try simp only [List.map_toArray, List.map_cons, List.map_nil]); first | done | rfl | (simp only [List.length_drop, List.length_take]; rfl)) ?_; (with_reducible refine (toIntS_pad _ _ l0 _ ?side1 ?side2 HN0.out).mono ?_); (case side1 => repeat (first | exact HR0.out | exact (Kd.C_below HR0.out (by repeat (first | (with_reducible first | exact HB.out | apply below_alloc | apply pw_below_drewN | apply below_drew1) | exact HB.out))) | (with_reducible refine Kd.C_alloc ?_ _) | (with_reducible refine Kd.C_drewN ?_ _) | (with_reducible refine Kd.C_drew ?_))); (case side2 => exact HC0.out); rintro e w6_ ⟨g6_, rfl, ho0, hb⟩; refine ⟨_, rfl, ?_⟩; obtain ⟨a6_, b6_, z1_, z2_, z3_, z4_⟩ := made (by exact Z.out) (by repeat (first | (with_reducible first | exact HB.out | apply below_alloc | apply pw_below_drewN | apply below_drew1) | exact HB.out)) hb ho0; have nO1_ := Aside0.mk (Kd.R_below (by (with_reducible repeat (first | apply Kd.R_alloc | apply Kd.R_drewN | apply Kd.R_drew)); exact O1.out) hb); have nO2_ := Aside0.mk (Kd.R_below (by (with_reducible repeat (first | apply Kd.R_alloc | apply Kd.R_drewN | apply Kd.R_drew)); exact O2.out) hb); have nO3_ := Aside0.mk (Kd.R_below (by (with_reducible repeat (first | apply Kd.R_alloc | apply Kd.R_drewN | apply Kd.R_drew)); exact O3.out) hb); have nO4_ := Aside0.mk (Kd.R_below (by (with_reducible repeat (first | apply Kd.R_alloc | apply Kd.R_drewN | apply Kd.R_drew)); exact O4.out) hb); clear O1 O2 O3 O4 HB Z; have O1 := nO1_; have O2 := nO2_; have O3 := nO3_; have O4 := nO4_; clear nO1_ nO2_ nO3_ nO4_; have O6 := Aside0.mk z3_; have Q6 := Aside0.mk z1_; have HB := Aside0.mk z4_; have Z := Aside0.mk z2_; clear z1_ z2_ z3_ z4_ hb ho0)
    | ((with_reducible refine gate_callee (f := 19) rfl ?_); refine goesL_ (some 41) rfl rfl Try.func19 (by kernel_rfl) rfl #[.slice (some ⟨g3_, 0, none⟩) l0.length (pad l0).length, .slice (some ⟨g6_, 0, none⟩) l0.length (pad l0).length] rfl (by (try simp only [List.map_toArray, List.map_cons, List.map_nil]); first | done | rfl | (simp only [List.length_drop, List.length_take]; rfl)) ?_; (with_reducible refine (intactIntS_pad g3_ g6_ l0 _ HN0.out ?side1 ?side2).mono ?_); (case side1 => exact ⟨_, _, (by (with_reducible repeat (first | apply Kd.R_alloc | apply Kd.R_drewN | apply Kd.R_drew)); exact O3.out)⟩); (case side2 => exact ⟨_, _, (by (with_reducible repeat (first | apply Kd.R_alloc | apply Kd.R_drewN | apply Kd.R_drew)); exact O6.out)⟩); rintro e w' ⟨rfl, ⟨nd, rfl⟩⟩; refine ⟨_, rfl, ?_⟩)
    | ((with_reducible refine gate_callee (f := 20) rfl ?_); refine goesL_ (some 45) rfl rfl Try.func20 (by kernel_rfl) rfl #[.slice (some ⟨g3_, 0, none⟩) l0.length (pad l0).length, .int .i64 101] rfl (by (try simp only [List.map_toArray, List.map_cons, List.map_nil]); first | done | rfl | (simp only [List.length_drop, List.length_take]; rfl)) ?_; (with_reducible refine (laws_markIntS.calls km0 (fun k => a3_ ≤ k ∧ k < b3_) _ l0 101 m0 (marks 101 l0.length) w _ ?side1 ?side2 HM0.out).mono ?_); (case side1 => exact (by repeat (first | (with_reducible first | exact HB.out | apply below_alloc | apply pw_below_drewN | apply below_drew1) | exact HB.out))); (case side2 => exact pad_seen (by (with_reducible repeat (first | apply Kd.R_alloc | apply Kd.R_drewN | apply Kd.R_drew)); exact O3.out)); rintro e w7_ ⟨rfl, ho0, hb, hk⟩; refine ⟨_, rfl, ?_⟩; have nO1_ := Aside0.mk (Kd.R_kept (by (with_reducible repeat (first | apply Kd.R_alloc | apply Kd.R_drewN | apply Kd.R_drew)); exact O1.out) hk (fun k_ h1_ h2_ => by have := Q1.out; have := Q2.out; have := Q3.out; have := Q4.out; have := Q6.out; omega)); have nO2_ := Aside0.mk (Kd.R_kept (by (with_reducible repeat (first | apply Kd.R_alloc | apply Kd.R_drewN | apply Kd.R_drew)); exact O2.out) hk (fun k_ h1_ h2_ => by have := Q1.out; have := Q2.out; have := Q3.out; have := Q4.out; have := Q6.out; omega)); have nO4_ := Aside0.mk (Kd.R_kept (by (with_reducible repeat (first | apply Kd.R_alloc | apply Kd.R_drewN | apply Kd.R_drew)); exact O4.out) hk (fun k_ h1_ h2_ => by have := Q1.out; have := Q2.out; have := Q3.out; have := Q4.out; have := Q6.out; omega)); have nO6_ := Aside0.mk (Kd.R_kept (by (with_reducible repeat (first | apply Kd.R_alloc | apply Kd.R_drewN | apply Kd.R_drew)); exact O6.out) hk (fun k_ h1_ h2_ => by have := Q1.out; have := Q2.out; have := Q3.out; have := Q4.out; have := Q6.out; omega)); have z2_ := Aside0.mk (Nat.le_trans (by exact Z.out) hk.1); clear O1 O2 O4 O6 O3 HB Z; have O1 := nO1_; have O2 := nO2_; have O4 := nO4_; have O6 := nO6_; have HB := Aside0.mk hb; have Z := z2_; clear nO1_ nO2_ nO4_ nO6_ z2_ hb hk ho0)
    | (go_at_call 52; (with_reducible refine (laws_eqTermS.calls (r1.length + 1) _ _ r1 _ _ r1 true _ ?side1 ?side2 ?side3 ?side4 HE.out).mono ?_); (case side1 => repeat (first | exact (Kd.R_reads' O4.out).2.2 | (with_reducible refine Kd.C_alloc ?_ _) | (with_reducible refine Kd.C_drewN ?_ _) | (with_reducible refine Kd.C_drew ?_))); (case side2 => exact (Kd.R_reads' O4.out).2.1); (case side3 => repeat (first | exact (Kd.R_reads' O2.out).2.2 | (with_reducible refine Kd.C_alloc ?_ _) | (with_reducible refine Kd.C_drewN ?_ _) | (with_reducible refine Kd.C_drew ?_))); (case side4 => exact (Kd.R_reads' O2.out).2.1); rintro e w8_ ⟨rfl, hb⟩; obtain ⟨z2_, z4_⟩ := still (by exact Z.out) (by repeat (first | (with_reducible first | exact HB.out | apply below_alloc | apply pw_below_drewN | apply below_drew1) | exact HB.out)) hb; have nO1_ := Aside0.mk (Kd.R_below (by (with_reducible repeat (first | apply Kd.R_alloc | apply Kd.R_drewN | apply Kd.R_drew)); exact O1.out) hb); have nO2_ := Aside0.mk (Kd.R_below (by (with_reducible repeat (first | apply Kd.R_alloc | apply Kd.R_drewN | apply Kd.R_drew)); exact O2.out) hb); have nO4_ := Aside0.mk (Kd.R_below (by (with_reducible repeat (first | apply Kd.R_alloc | apply Kd.R_drewN | apply Kd.R_drew)); exact O4.out) hb); have nO6_ := Aside0.mk (Kd.R_below (by (with_reducible repeat (first | apply Kd.R_alloc | apply Kd.R_drewN | apply Kd.R_drew)); exact O6.out) hb); clear O1 O2 O4 O6 HB Z; have O1 := nO1_; have O2 := nO2_; have O4 := nO4_; have O6 := nO6_; clear nO1_ nO2_ nO4_ nO6_; have HB := Aside0.mk z4_; have Z := Aside0.mk z2_; clear z2_ z4_ hb)
    | ((with_reducible refine gate_callee (f := 49) rfl ?_); refine goesL_ (some 61) rfl rfl Try.func49 (by kernel_rfl) rfl #[.slice A4_ r1.length c4_, .int .i64 101] rfl (by (try simp only [List.map_toArray, List.map_cons, List.map_nil]); first | done | rfl | (simp only [List.length_drop, List.length_take]; rfl)) ?_; (with_reducible refine (laws_markTermS.calls kg (fun k => a4_ ≤ k ∧ k < b4_) _ r1 101 mg (marksT 101 r1.length) w _ ?side1 ?side2 HG.out).mono ?_); (case side1 => exact (by repeat (first | (with_reducible first | exact HB.out | apply below_alloc | apply pw_below_drewN | apply below_drew1) | exact HB.out))); (case side2 => exact (by (with_reducible repeat (first | apply Kd.R_alloc | apply Kd.R_drewN | apply Kd.R_drew)); exact O4.out)); rintro e w9_ ⟨rfl, ho0, hb, hk⟩; refine ⟨_, rfl, ?_⟩; have nO1_ := Aside0.mk (Kd.R_kept (by (with_reducible repeat (first | apply Kd.R_alloc | apply Kd.R_drewN | apply Kd.R_drew)); exact O1.out) hk (fun k_ h1_ h2_ => by have := Q1.out; have := Q2.out; have := Q3.out; have := Q4.out; have := Q6.out; omega)); have nO2_ := Aside0.mk (Kd.R_kept (by (with_reducible repeat (first | apply Kd.R_alloc | apply Kd.R_drewN | apply Kd.R_drew)); exact O2.out) hk (fun k_ h1_ h2_ => by have := Q1.out; have := Q2.out; have := Q3.out; have := Q4.out; have := Q6.out; omega)); have nO6_ := Aside0.mk (Kd.R_kept (by (with_reducible repeat (first | apply Kd.R_alloc | apply Kd.R_drewN | apply Kd.R_drew)); exact O6.out) hk (fun k_ h1_ h2_ => by have := Q1.out; have := Q2.out; have := Q3.out; have := Q4.out; have := Q6.out; omega)); have z2_ := Aside0.mk (Nat.le_trans (by exact Z.out) hk.1); have nO4_ := Aside0.mk (Kd.R_mono ho0 (ok' := fun _ => True) (fun _ _ => trivial)); clear O1 O2 O6 O4 HB Z; have O1 := nO1_; have O2 := nO2_; have O6 := nO6_; have O4 := nO4_; have HB := Aside0.mk hb; have Z := z2_; clear nO1_ nO2_ nO6_ nO4_ z2_ hb hk ho0)
    | ((with_reducible refine gate_callee (f := 53) rfl ?_); refine goesL_ (some 64) rfl rfl Try.func53 (by kernel_rfl) rfl #[.slice A4_ r1.length c4_, .int .i64 101] rfl (by (try simp only [List.map_toArray, List.map_cons, List.map_nil]); first | done | rfl | (simp only [List.length_drop, List.length_take]; rfl)) ?_; (with_reducible refine (heldT_calls kh _ _ r1.length 101 mg _ ?side1 ?side2 HH.out).mono ?_); (case side1 => repeat (first | exact (Kd.R_reads' O4.out).2.2 | (with_reducible refine Kd.C_alloc ?_ _) | (with_reducible refine Kd.C_drewN ?_ _) | (with_reducible refine Kd.C_drew ?_))); (case side2 => exact (Kd.R_reads' O4.out).2.1); rintro e w' ⟨rfl, ⟨nd, rfl⟩⟩; refine ⟨_, rfl, ?_⟩)
    | ((with_reducible refine gate_callee (f := 16) rfl ?_); refine goesL_ (some 72) rfl rfl Try.func16 (by kernel_rfl) rfl #[.slice A0 l0.length c0, .bool true] rfl (by (try simp only [List.map_toArray, List.map_cons, List.map_nil]); first | done | rfl | (simp only [List.length_drop, List.length_take]; rfl)) ?_; (with_reducible refine (laws_toIntS.calls kb0 _ _ l0 true l0 _ ?side1 ?side2 HBA0.out).mono ?_); (case side1 => repeat (first | exact HR0.out | exact (Kd.C_below HR0.out (by repeat (first | (with_reducible first | exact HB.out | apply below_alloc | apply pw_below_drewN | apply below_drew1) | exact HB.out))) | (with_reducible refine Kd.C_alloc ?_ _) | (with_reducible refine Kd.C_drewN ?_ _) | (with_reducible refine Kd.C_drew ?_))); (case side2 => exact HC0.out); rintro e w10_ ⟨v10_, rfl, ho0, hb⟩; refine ⟨_, rfl, ?_⟩; obtain ⟨a10_, b10_, z1_, z2_, z3_, z4_⟩ := made (by exact Z.out) (by repeat (first | (with_reducible first | exact HB.out | apply below_alloc | apply pw_below_drewN | apply below_drew1) | exact HB.out)) hb ho0; have nO1_ := Aside0.mk (Kd.R_below (by (with_reducible repeat (first | apply Kd.R_alloc | apply Kd.R_drewN | apply Kd.R_drew)); exact O1.out) hb); have nO2_ := Aside0.mk (Kd.R_below (by (with_reducible repeat (first | apply Kd.R_alloc | apply Kd.R_drewN | apply Kd.R_drew)); exact O2.out) hb); have nO4_ := Aside0.mk (Kd.R_below (by (with_reducible repeat (first | apply Kd.R_alloc | apply Kd.R_drewN | apply Kd.R_drew)); exact O4.out) hb); have nO6_ := Aside0.mk (Kd.R_below (by (with_reducible repeat (first | apply Kd.R_alloc | apply Kd.R_drewN | apply Kd.R_drew)); exact O6.out) hb); clear O1 O2 O4 O6 HB Z; have O1 := nO1_; have O2 := nO2_; have O4 := nO4_; have O6 := nO6_; clear nO1_ nO2_ nO4_ nO6_; have O10 := Aside0.mk z3_; have Q10 := Aside0.mk z1_; have HB := Aside0.mk z4_; have Z := Aside0.mk z2_; clear z1_ z2_ z3_ z4_ hb ho0; obtain ⟨A10_, c10_, e10_⟩ := Kd.R_slice O10.out; subst e10_)
    | ((with_reducible refine gate_callee (f := 51) rfl ?_); refine goesL_ (some 73) rfl rfl Try.func51 (by kernel_rfl) rfl #[.slice A10_ l0.length c10_] rfl (by (try simp only [List.map_toArray, List.map_cons, List.map_nil]); first | done | rfl | (simp only [List.length_drop, List.length_take]; rfl)) ?_; (with_reducible refine (impl_TermsOf.calls ki _ _ l0 r1 r2 _ ?side1 ?side2 HI.out).mono ?_); (case side1 => repeat (first | exact (Kd.R_reads' O10.out).2.2 | (with_reducible refine Kd.C_alloc ?_ _) | (with_reducible refine Kd.C_drewN ?_ _) | (with_reducible refine Kd.C_drew ?_))); (case side2 => exact (Kd.R_reads' O10.out).2.1); rintro e w11_ ⟨v11_, rfl, ho0, hb⟩; refine ⟨_, rfl, ?_⟩; obtain ⟨a11_, b11_, z1_, z2_, z3_, z4_⟩ := made (by exact Z.out) (by repeat (first | (with_reducible first | exact HB.out | apply below_alloc | apply pw_below_drewN | apply below_drew1) | exact HB.out)) hb ho0; have nO1_ := Aside0.mk (Kd.R_below (by (with_reducible repeat (first | apply Kd.R_alloc | apply Kd.R_drewN | apply Kd.R_drew)); exact O1.out) hb); have nO2_ := Aside0.mk (Kd.R_below (by (with_reducible repeat (first | apply Kd.R_alloc | apply Kd.R_drewN | apply Kd.R_drew)); exact O2.out) hb); have nO4_ := Aside0.mk (Kd.R_below (by (with_reducible repeat (first | apply Kd.R_alloc | apply Kd.R_drewN | apply Kd.R_drew)); exact O4.out) hb); have nO6_ := Aside0.mk (Kd.R_below (by (with_reducible repeat (first | apply Kd.R_alloc | apply Kd.R_drewN | apply Kd.R_drew)); exact O6.out) hb); have nO10_ := Aside0.mk (Kd.R_below (by (with_reducible repeat (first | apply Kd.R_alloc | apply Kd.R_drewN | apply Kd.R_drew)); exact O10.out) hb); clear O1 O2 O4 O6 O10 HB Z; have O1 := nO1_; have O2 := nO2_; have O4 := nO4_; have O6 := nO6_; have O10 := nO10_; clear nO1_ nO2_ nO4_ nO6_ nO10_; have O11 := Aside0.mk z3_; have Q11 := Aside0.mk z1_; have HB := Aside0.mk z4_; have Z := Aside0.mk z2_; clear z1_ z2_ z3_ z4_ hb ho0; obtain ⟨A11_, c11_, e11_⟩ := Kd.R_slice O11.out; subst e11_)
    | ((with_reducible refine gate_callee (f := 52) rfl ?_); refine goesL_ (some 78) rfl rfl Try.func52 (by kernel_rfl) rfl #[.slice A11_ r1.length c11_, .slice A2_ r1.length c2_] rfl (by (try simp only [List.map_toArray, List.map_cons, List.map_nil]); first | done | rfl | (simp only [List.length_drop, List.length_take]; rfl)) ?_; (with_reducible refine (laws_eqTermS.calls (r1.length + 1) _ _ r1 _ _ r1 true _ ?side1 ?side2 ?side3 ?side4 HE.out).mono ?_); (case side1 => repeat (first | exact (Kd.R_reads' O11.out).2.2 | (with_reducible refine Kd.C_alloc ?_ _) | (with_reducible refine Kd.C_drewN ?_ _) | (with_reducible refine Kd.C_drew ?_))); (case side2 => exact (Kd.R_reads' O11.out).2.1); (case side3 => repeat (first | exact (Kd.R_reads' O2.out).2.2 | (with_reducible refine Kd.C_alloc ?_ _) | (with_reducible refine Kd.C_drewN ?_ _) | (with_reducible refine Kd.C_drew ?_))); (case side4 => exact (Kd.R_reads' O2.out).2.1); rintro e w12_ ⟨rfl, hb⟩; refine ⟨_, rfl, ?_⟩; obtain ⟨z2_, z4_⟩ := still (by exact Z.out) (by repeat (first | (with_reducible first | exact HB.out | apply below_alloc | apply pw_below_drewN | apply below_drew1) | exact HB.out)) hb; have nO1_ := Aside0.mk (Kd.R_below (by (with_reducible repeat (first | apply Kd.R_alloc | apply Kd.R_drewN | apply Kd.R_drew)); exact O1.out) hb); have nO2_ := Aside0.mk (Kd.R_below (by (with_reducible repeat (first | apply Kd.R_alloc | apply Kd.R_drewN | apply Kd.R_drew)); exact O2.out) hb); have nO4_ := Aside0.mk (Kd.R_below (by (with_reducible repeat (first | apply Kd.R_alloc | apply Kd.R_drewN | apply Kd.R_drew)); exact O4.out) hb); have nO6_ := Aside0.mk (Kd.R_below (by (with_reducible repeat (first | apply Kd.R_alloc | apply Kd.R_drewN | apply Kd.R_drew)); exact O6.out) hb); have nO10_ := Aside0.mk (Kd.R_below (by (with_reducible repeat (first | apply Kd.R_alloc | apply Kd.R_drewN | apply Kd.R_drew)); exact O10.out) hb); have nO11_ := Aside0.mk (Kd.R_below (by (with_reducible repeat (first | apply Kd.R_alloc | apply Kd.R_drewN | apply Kd.R_drew)); exact O11.out) hb); clear O1 O2 O4 O6 O10 O11 HB Z; have O1 := nO1_; have O2 := nO2_; have O4 := nO4_; have O6 := nO6_; have O10 := nO10_; have O11 := nO11_; clear nO1_ nO2_ nO4_ nO6_ nO10_ nO11_; have HB := Aside0.mk z4_; have Z := Aside0.mk z2_; clear z2_ z4_ hb)
    | ((with_reducible refine gate_callee (f := 53) rfl ?_); refine goesL_ (some 87) rfl rfl Try.func53 (by kernel_rfl) rfl #[.slice A4_ r1.length c4_, .int .i64 101] rfl (by (try simp only [List.map_toArray, List.map_cons, List.map_nil]); first | done | rfl | (simp only [List.length_drop, List.length_take]; rfl)) ?_; (with_reducible refine (heldT_calls kh _ _ r1.length 101 mg _ ?side1 ?side2 HH.out).mono ?_); (case side1 => repeat (first | exact (Kd.R_reads' O4.out).2.2 | (with_reducible refine Kd.C_alloc ?_ _) | (with_reducible refine Kd.C_drewN ?_ _) | (with_reducible refine Kd.C_drew ?_))); (case side2 => exact (Kd.R_reads' O4.out).2.1); rintro e w' ⟨rfl, ⟨nd, rfl⟩⟩; refine ⟨_, rfl, ?_⟩))
  go_ret
  exact ⟨by first | rfl | (simp; done), by repeat (first | (with_reducible first | exact HB.out | apply below_alloc | apply pw_below_drewN | apply below_drew1) | exact HB.out)⟩
set_option maxHeartbeats 8000000 in
theorem law_big (A0 : Option Addr) (c0 : Nat) (l0 : List Int) (w : World) (hz0 : l0.length * 8 ≤ 140737488351232) (hn : ¬ l0.length ≤ 1000000) :
    Calls Try.prog 14 #[.slice A0 l0.length c0] w fun e w' => e = .returned (.bool true) ∧ Below w.heap.size w w' := by
  have cn : decide (1000000 < (l0.length : Int)) = true := decide_eq_true (by omega)
  have cn2 : decide (1000000 < l0.length) = true := decide_eq_true (by omega)
  clear hn hz0
  go_enter Try.func14, Try.ntmps14
  go_wp2
  go_ret
  exact ⟨by first | rfl | (simp; done), by repeat (first | (with_reducible first | exact Below.refl _ _ | apply below_alloc | apply pw_below_drewN | apply below_drew1) | exact Below.refl _ _)⟩
/-- What is left to show, over numbers and lists alone. -/
def Pure : Prop := ∀ (l0 : List Int), l0.length ≤ 1000000 → (∀ x ∈ l0, (Lit.int .i64 x).wf = true) → ∃ ks ki r1 r2, spec_TermsOf.f ks l0 = some (r1, r2) ∧ impl_TermsOf.f ki l0 = some (r1, r2) ∧ r1.length ≤ 1000000
theorem law_holds (P : Pure) (A0 : Option Addr) (c0 : Nat) (l0 : List Int) (w : World) (hr0 : Kd.C (Kd.int .i64) w A0 l0.length l0) (hc0 : l0.length ≤ c0) (hw0 : ∀ x ∈ l0, (Lit.int .i64 x).wf = true) (hz0 : l0.length * 8 ≤ 140737488351232) :
    Calls Try.prog 14 #[.slice A0 l0.length c0] w fun e w' => e = .returned (.bool true) ∧ Below w.heap.size w w' := by
  by_cases hn : l0.length ≤ 1000000
  · obtain ⟨ks, ki, r1, r2, hs, hi, hg⟩ := P l0 (by omega) hw0
    exact law_walk A0 c0 l0 w hr0 hc0 (by omega) ks ki r1 r2 hs hi hg
  · exact law_big A0 c0 l0 w hz0 hn
end Go.Proofs.Ytolacpnhndbalaa.QTermsOf
