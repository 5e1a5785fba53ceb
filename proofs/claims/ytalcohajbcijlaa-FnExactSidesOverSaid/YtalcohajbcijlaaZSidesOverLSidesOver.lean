import Derived.Test.YtalcohajbcijlaaZSidesOverQSidx
namespace Go.Proofs.Ytalcohajbcijlaa.QSid
open Go.RowKit Go.Proofs.YtalcohajbcijlaaW.PrintWords Go.Proofs.YtalcohajbcijlaaW.PrintLast Go.Proofs.YtalcohajbcijlaaW.PrintMore
set_option linter.unusedVariables false
set_option linter.unusedSimpArgs false
section
variable {P : Program} {ops : Array Oper} {rest : List Oper} {o : Oper} {a : Act} {Q : Exit → Act → World → Prop} {α : Type}
theorem lit_whole (d : Kd α) {w0 W : World} (base e : Nat) (hgd : o.guard = none) {N : Tmp} (hd : o.dst = some N) {xs : List α} {inner : List Value} {ok okp : Nat → Prop}
    (hrun : (execOp a.eval o).run P W = .ok (.value (.slice (some ⟨W.heap.size, 0, none⟩) xs.length xs.length)) (W.alloc (.cells inner.toArray e)))
    (hrep : Reps (d.M W base okp) d.sz xs inner) (hok : ∀ k, okp k → ok k) (hfresh : ok W.heap.size) (HB : Below base w0 W) (hbase : base ≤ W.heap.size) (hm : xs.length ≤ 9223372036854775807)
    (h : ∀ g w1, d.R e w1 base ok (.slice (some ⟨g, 0, none⟩) xs.length xs.length) xs → Below base w0 w1 → W.grownBy w1 none → base ≤ g → wpList P ops Q rest (a.put o.dst (.slice (some ⟨g, 0, none⟩) xs.length xs.length)) w1) : wpList P ops Q (o :: rest) a W := by
  refine Kd.event_run hgd hrun (h _ _ ⟨fun k hk => ?_, inner, ?_, ?_⟩ (HB.alloc hbase _) (World.grownBy_alloc W _ none) hbase)
  · have : W.heap.size = k := by simpa [Value.ownBlock] using hk
    subst this
    exact hfresh
  · have h2 := World.ownsRow_lit (base := base) (e := e) (size := d.sz) W inner.toArray xs.length hbase (by simpa [maxLen] using hm) (by simpa using hrep.1)
    simpa using h2
  · refine hrep.imp_ (fun p c hp => d.M_mono (fun k hk => ⟨hok k hk.1, fun he => ?_⟩) (Kd.M_below (d.M_bound hp) (below_alloc (Below.refl _ _) _)))
    have h3 : k = W.heap.size := by simpa [Value.ownBlock] using he
    have := hk.2.2.1
    omega
theorem make_whole (d : Kd α) {w0 W : World} (base e : Nat) (hgd : o.guard = none) {N : Tmp} (hd : o.dst = some N) (t : TypeId) (x y : Operand) (ho : o.op = .makeSlice t x y) (n : Int) (hx : a.eval x = .int .i64 n) (hy : a.eval y = .int .i64 n)
    (ht : P.underlying t = some (.slice e)) (z : Value) (bytes : Nat) (hinfo : (P.info? e).map (fun i => (i.zero, i.size, i.bytes)) = some (some z, d.sz, bytes)) (hz : z.cells.size = d.sz) (hs0 : 0 < d.sz) (hb0 : 0 < bytes)
    (z0 : α) {ok okp : Nat → Prop} (hzero : d.M W base okp z0 z.cells.toList) (hok : ∀ k, okp k → ok k) (hfresh : ok W.heap.size) (h0 : 0 ≤ n) (hl : n.toNat * bytes ≤ 281474976710656) (HB : Below base w0 W) (hbase : base ≤ W.heap.size)
    (h : ∀ g w1, d.R e w1 base ok (.slice (some ⟨g, 0, none⟩) n.toNat n.toNat) (List.replicate n.toNat z0) → Below base w0 w1 → W.grownBy w1 none → base ≤ g → wpList P ops Q rest (a.put o.dst (.slice (some ⟨g, 0, none⟩) n.toNat n.toNat)) w1) : wpList P ops Q (o :: rest) a W := by
  obtain ⟨m, rfl⟩ := Int.eq_ofNat_of_zero_le h0
  simp only [Int.toNat_natCast] at hl h
  obtain ⟨i0, hi, hzz⟩ := Option.map_eq_some_iff.1 hinfo
  simp only [Prod.mk.injEq] at hzz
  obtain ⟨hz0, hz1, hz2⟩ := hzz
  have hm : m ≤ 281474976710656 := Nat.le_trans (Nat.le_mul_of_pos_right _ hb0) hl
  have hr := run_make (P := P) W t e i0 z ht hi hz0 .i64 .i64 (m : Int) (m : Int) (by omega) (by omega)
    (by
      have h3 : ((i0.bytes * m : Nat) : Int) ≤ 281474976710656 := by rw [hz2, Nat.mul_comm]; omega
      rwa [Int.natCast_mul] at h3) (by omega)
  simp only [Int.toNat_natCast] at hr
  rw [hz1] at hr
  refine lit_whole d base e hgd hd (xs := List.replicate m z0) (inner := (madeCells z.cells (m * d.sz)).toList) (okp := okp) (ok := ok) ?_ (Kd.reps_made hz hs0 hzero m) hok hfresh HB hbase (by simp; omega) (by simpa using h)
  simp [execOp, ho, hx, hy, hr]
end
theorem cut_room {P : Program} (t e : TypeId) (kh : IntKind) {i : TypeInfo} (ht : P.underlying t = some (.slice e)) (hi : P.info? e = some i) (A : Option Addr) (n c : Nat) (j : Int) (h0 : 0 ≤ j) (hc : j ≤ c) :
    ∀ W : World, (Instr.slice t (.slice A n c) none (some (.int kh j)) none).run P W = .ok (.slice A j.toNat c) W := by
  intro W
  have hel : P.elem t = e := by simp [Program.elem, ht]
  have hu : P.underlying t = some (.slice (P.elem t)) := by rw [hel]; exact ht
  have ha : (A.map fun x => x.add 0) = A := by cases A <;> simp [Addr.add]
  rw [run_slice_h W t A n c hu kh j h0 hc, hel]
  simp [sizeOf, typeInfo, hi, sliced, Result.andThen, ha]
section
variable {α : Type} {d : Kd α}
theorem C_begin {w : World} {A : Option Addr} {n : Nat} {xs ys : List α} (h : d.C w A n (xs ++ ys)) : d.C w A xs.length xs := by
  obtain ⟨h1, h2, h3⟩ := h
  simp only [List.length_append] at h1
  refine ⟨rfl, by omega, fun hp => ?_⟩
  obtain ⟨ad, e, hc⟩ := h3 (by omega)
  refine ⟨ad, e, fun j p hj => hc j p ?_⟩
  rw [List.getElem?_append_left (List.getElem?_eq_some_iff.1 hj).1]
  exact hj
end
theorem made {α : Type} {d : Kd α} {e : Nat} {v : Value} {xs : List α} {w W W' : World} {bp : Nat} (hp : bp ≤ W.heap.size) (hB : Below w.heap.size w W) (hb : Below W.heap.size W W') (ho : d.R e W' W.heap.size (fun _ => True) v xs) :
    ∃ a b, (bp ≤ a ∧ a ≤ b) ∧ b ≤ W'.heap.size ∧ d.R e W' w.heap.size (fun k => a ≤ k ∧ k < b) v xs ∧ Below w.heap.size w W' :=
  ⟨W.heap.size, W'.heap.size, ⟨hp, hb.size⟩, Nat.le_refl _, Kd.R_lower (Kd.R_mono (Kd.R_bound ho) (fun k hk => ⟨hk.2.1, hk.2.2.1⟩)) hB.size, below_step hB hb⟩
theorem made2 {α β : Type} {d : Kd α} {d2 : Kd β} {e e2 : Nat} {v v2 : Value} {xs : List α} {ys : List β} {w W W' : World} {bp : Nat} (hp : bp ≤ W.heap.size) (hB : Below w.heap.size w W) (hb : Below W.heap.size W W') (ho : d.R e W' W.heap.size (fun _ => True) v xs) (ho2 : d2.R e2 W' W.heap.size (fun _ => True) v2 ys) :
    ∃ a b, (bp ≤ a ∧ a ≤ b) ∧ b ≤ W'.heap.size ∧ d.R e W' w.heap.size (fun k => a ≤ k ∧ k < b) v xs ∧ d2.R e2 W' w.heap.size (fun k => a ≤ k ∧ k < b) v2 ys ∧ Below w.heap.size w W' :=
  ⟨W.heap.size, W'.heap.size, ⟨hp, hb.size⟩, Nat.le_refl _, Kd.R_lower (Kd.R_mono (Kd.R_bound ho) (fun k hk => ⟨hk.2.1, hk.2.2.1⟩)) hB.size, Kd.R_lower (Kd.R_mono (Kd.R_bound ho2) (fun k hk => ⟨hk.2.1, hk.2.2.1⟩)) hB.size, below_step hB hb⟩
theorem still {w W W' : World} {bp : Nat} (hp : bp ≤ W.heap.size) (hB : Below w.heap.size w W) (hb : Below W.heap.size W W') : bp ≤ W'.heap.size ∧ Below w.heap.size w W' := ⟨Nat.le_trans hp hb.size, below_step hB hb⟩
def room (n : Nat) : Nat := if n % 6 = 5 then 0 else if n % 3 = 0 then 1 else n
theorem room_le (n : Nat) : room n ≤ n + 1 := by unfold room; split <;> (try split) <;> omega
theorem roomBehind_eq (n : Nat) : laws_roomBehind.f (n : Int) = some (room n : Int) := by
  have h6 : Int.tmod (n : Int) 6 = ((n % 6 : Nat) : Int) := by rw [Int.tmod_eq_emod_of_nonneg (by omega)]; rfl
  have h3 : Int.tmod (n : Int) 3 = ((n % 3 : Nat) : Int) := by rw [Int.tmod_eq_emod_of_nonneg (by omega)]; rfl
  unfold laws_roomBehind.f room
  rw [h6, h3]
  by_cases a : n % 6 = 5
  · rw [if_pos (by omega), if_pos a]; rfl
  · rw [if_neg (by omega), if_neg a]
    by_cases b : n % 3 = 0
    · rw [if_pos (by omega), if_pos b]; rfl
    · rw [if_neg (by omega), if_neg b]
def pad (l : List Int) : List Int := l ++ List.replicate (room l.length) (-7000000000000000101)
theorem pad_length (l : List Int) : (pad l).length = l.length + room l.length := by simp [pad]
theorem set_fill (l : List Int) (F i : Nat) (h : i < l.length) (hF : l.length ≤ F) : (l.take i ++ List.replicate (F - i) 0).set i (rd l i) = l.take (i + 1) ++ List.replicate (F - (i + 1)) 0 := by
  have h1 : F - i = (F - (i + 1)) + 1 := by omega
  rw [h1, List.replicate_succ, List.set_append_right _ _ (by simp; omega)]
  have h2 : i - (l.take i).length = 0 := by simp; omega
  rw [h2, List.set_cons_zero]
  have h3 : l.take (i + 1) = l.take i ++ [rd l i] := by
    rw [List.take_add_one, List.getElem?_eq_getElem h]
    simp [rd, h]
  rw [h3, List.append_assoc]
  rfl
theorem set_fill2 (l : List Int) (F i : Nat) (h : l.length ≤ i) (hF : i < F) : (l ++ (List.replicate (i - l.length) (-7000000000000000101) ++ List.replicate (F - i) 0)).set i (-7000000000000000101) = l ++ (List.replicate (i + 1 - l.length) (-7000000000000000101) ++ List.replicate (F - (i + 1)) 0) := by
  have h1 : F - i = (F - (i + 1)) + 1 := by omega
  rw [List.set_append_right _ _ h, List.set_append_right _ _ (by simp), h1, List.replicate_succ]
  have h2 : i - l.length - (List.replicate (i - l.length) (-7000000000000000101 : Int)).length = 0 := by simp
  rw [h2, List.set_cons_zero]
  have h3 : i + 1 - l.length = (i - l.length) + 1 := by omega
  rw [h3, List.replicate_succ', List.append_assoc]
  rfl
set_option maxHeartbeats 4000000 in
set_option maxRecDepth 100000 in
theorem toIntS_pad (A0 : Option Addr) (c0 : Nat) (l0 : List Int) (w : World) (hr0 : Kd.C (Kd.int .i64) w A0 l0.length l0) (hc0 : l0.length ≤ c0) (hn : l0.length ≤ 1000000) :
    Calls Try.prog 63 #[.slice A0 l0.length c0, .bool false] w fun e w' => ∃ g, e = .returned (.slice (some ⟨g, 0, none⟩) l0.length (pad l0).length) ∧ Kd.R (Kd.int .i64) 3 w' w.heap.size (fun _ => True) (.slice (some ⟨g, 0, none⟩) (pad l0).length (pad l0).length) (pad l0) ∧ Below w.heap.size w w' := by
  have HR0 := Aside0.mk hr0
  have HC0 := Aside0.mk hc0
  have HN := Aside0.mk hn
  have hm := Aside0.mk (roomBehind_eq l0.length)
  have hmb := room_le l0.length
  obtain ⟨m, hmm⟩ : ∃ m, room l0.length = m := ⟨_, rfl⟩
  obtain ⟨F, hF⟩ : ∃ F, (pad l0).length = F := ⟨_, rfl⟩
  rw [hmm] at hm hmb
  have hFm : F = l0.length + m := by rw [← hF, pad_length, hmm]
  have hFw : (IntKind.i64.wrap ((l0.length : Int) + (m : Int))) = (F : Int) := by rw [i64_w]; unfold wrap64; omega
  have hFF := Aside0.mk hF
  have MM := Aside0.mk hmm
  have HFM := Aside0.mk hFm
  have HMB := Aside0.mk hmb
  rw [hF]
  clear hr0 hc0 hF hmm hFm hn hmb
  have hp0 : decide (0 ≤ (F : Int)) = true := by simp
  have HB := Aside0.mk (Below.refl w.heap.size w)
  go_enter Try.func63, Try.ntmps63
  go_wp2_with (first | ((with_reducible refine gate_callee (f := 55) rfl ?_); refine goesL_ (some 18) rfl rfl Try.func55 (by kernel_rfl) rfl #[.int .i64 (l0.length : Int)] rfl (by (try simp only [List.map_toArray, List.map_cons, List.map_nil]); first | done | rfl) ?_; (with_reducible refine (laws_roomBehind.calls (l0.length : Int) (m : Int) _ hm.out).mono ?_); rintro e w' ⟨rfl, ⟨nd, rfl⟩⟩; refine ⟨_, rfl, ?_⟩) | ((with_reducible refine gate_dst (N := 20) rfl ?_); (try (refine gate_guard (by rfl) ?_; dsimp only)); refine make_whole (Kd.int .i64) _ 3 rfl (N := 20) rfl 29 _ _ rfl (F : Int) rfl rfl Try.underlying29 (.int .i64 0) 8 info3 rfl (by decide) (by omega) 0 (ok := fun _ => True) (okp := fun _ => True) rfl (fun _ hk => hk) trivial (by omega) (by have := HFM.out; have := HMB.out; have := HN.out; omega) (Below.refl _ _) (Nat.le_refl _) ?_; intro g w10 ho11 hb hg_ hgb; clear hg_; have n0_ := Aside0.mk (Kd.R_lower ho11 (below_size (by repeat (first | (with_reducible first | exact HB.out | apply below_alloc | apply pw_below_drewN | apply below_drew1) | exact HB.out)))); have n1_ := Aside0.mk (below_step (by repeat (first | (with_reducible first | exact HB.out | apply below_alloc | apply pw_below_drewN | apply below_drew1) | exact HB.out)) hb); clear HB; have HO109 := n0_; have HB := n1_; clear n0_ n1_ hb ho11))
  go_loopg [6] l0.length (fun kq v6 w' => ∃ x : Int, v6 = .int .i64 x ∧ Aside0 (0 ≤ x ∧ x + kq = l0.length) ∧ Aside0 (Kd.R (Kd.int .i64) 3 w' w.heap.size (fun _ => True) (.slice (some ⟨g, 0, none⟩) F F) (l0.take x.toNat ++ List.replicate (F - x.toNat) 0)) ∧ Aside0 (Below w.heap.size w w'))
  case atStart => exact ⟨0, rfl, ⟨by omega⟩, ⟨by have h := HO109.out; simp only [Int.toNat_natCast] at h; simpa using h⟩, HB⟩
  case round =>
    clear HO109 HB
    obtain ⟨x, rfl, HI, HO, HB⟩ := hrel
    by_cases hlt : x < (l0.length : Int)
    · have c1 : decide (x < (l0.length : Int)) = true := decide_eq_true hlt
      have c2 : decide (0 ≤ x) = true := decide_eq_true HI.out.1
      have c3 : decide (x < (F : Int)) = true := decide_eq_true (by have := HFM.out; omega)
      obtain ⟨ad, e1, hx1⟩ := Kd.at_int HR0.out x HI.out.1 hlt
      cases e1
      replace hx1 := (HB.out.cell (World.block_lt_of_cell? w _ hx1)).trans hx1
      have hl : (l0.take x.toNat ++ List.replicate (F - x.toNat) 0).length = F := by have := HI.out; have := HFM.out; simp only [List.length_append, List.length_take, List.length_replicate]; omega
      obtain ⟨hx2, hf2⟩ := Kd.R_celln 0 HO.out x HI.out.1 (by have := HFM.out; omega)
      have HP := Kd.R_putg HO.out x (rd l0 x)
      obtain ⟨y, hy⟩ : ∃ y, y = (l0.take x.toNat ++ List.replicate (F - x.toNat) 0).set x.toNat (rd l0 x) := ⟨_, rfl⟩
      have hy2 : y = l0.take (x + 1).toNat ++ List.replicate (F - (x + 1).toNat) 0 := by
        rw [hy]
        have h0 := HI.out
        have h1 := HFM.out
        obtain ⟨i, rfl⟩ := Int.eq_ofNat_of_zero_le h0.1
        have e : ((i : Int) + 1).toNat = i + 1 := by omega
        rw [e]
        simp only [Int.toNat_natCast]
        exact set_fill l0 F i (by omega) (by omega)
      rw [← hy] at HP
      have HY := Aside0.mk hy2
      have GB := Aside0.mk (Kd.R_base HO.out g (by simp [Value.ownBlock]))
      clear hy hy2 hl
      replace hlt := eq_true hlt
      have p2 := eq_true HI.out.1
      have p3 := eq_true (of_decide_eq_true c3)
      go_wp2_with (first | ((with_reducible refine gate_store (t := 3) (p := 33) rfl ?_); refine store_event (t := 3) (p := 33) (v := ?vo_w17) (w1 := (wr.setCell ⟨g, x.toNat, none⟩ (.int .i64 (rd l0 x)))) ?hg ?ho ?hn ?hr ?_; (case ho => rfl); (case hg => rfl); (case hn => rfl); (case hr => first | (go_simp; done) | (go_simp; rfl)); intro w17 hw; have n0_ := Aside0.mk (by rw [hw]; exact HP.1 : Kd.R (Kd.int .i64) 3 w17 w.heap.size (fun _ => True) (.slice (some ⟨g, 0, none⟩) F F) y); have n1_ := Aside0.mk (by rw [hw]; exact below_set HB.out GB.out : Below w.heap.size w w17); clear HO HB HP; have HO := n0_; have HB := n1_; clear n0_ n1_ hw))
      cases gk with
      | zero => exact absurd HI.out.2 (by have := of_eq_true hlt; omega)
      | succ k1 =>
        go_roundg k1
        case measure => omega
        case rel => exact ⟨x + 1, by have := HI.out; have := HN.out; rw [show wrap64 (x + 1) = x + 1 by unfold wrap64; omega], ⟨by have := HI.out; omega⟩, ⟨by rw [← HY.out]; exact HO.out⟩, HB⟩
    · have c1 : decide (x < (l0.length : Int)) = false := decide_eq_false hlt
      have hx : x = (l0.length : Int) := by have := HI.out; omega
      subst hx
      have HO' : Aside0 (Kd.R (Kd.int .i64) 3 wr w.heap.size (fun _ => True) (.slice (some ⟨g, 0, none⟩) F F) (l0 ++ List.replicate (F - l0.length) 0)) := ⟨by have h := HO.out; simpa using h⟩
      clear HO HI hlt
      go_wp2
      go_loopg [7] (F - l0.length) (fun kq v6 w' => ∃ x : Int, v6 = .int .i64 x ∧ Aside0 ((l0.length : Int) ≤ x ∧ x + kq = F) ∧ Aside0 (Kd.R (Kd.int .i64) 3 w' w.heap.size (fun _ => True) (.slice (some ⟨g, 0, none⟩) F F) (l0 ++ (List.replicate (x.toNat - l0.length) (-7000000000000000101) ++ List.replicate (F - x.toNat) 0))) ∧ Aside0 (Below w.heap.size w w'))
      case atStart => exact ⟨l0.length, rfl, ⟨by have := HFM.out; omega⟩, ⟨by have h := HO'.out; simpa using h⟩, HB⟩
      case round =>
        clear HO' HB c1
        obtain ⟨x, rfl, HI, HO, HB⟩ := hrel
        by_cases hlt : x < (F : Int)
        · have c1 : decide (x < (F : Int)) = true := decide_eq_true hlt
          have c2 : decide (0 ≤ x) = true := decide_eq_true (by have := HI.out; omega)
          obtain ⟨hx2, hf2⟩ := Kd.R_celln 0 HO.out x (by have := HI.out; omega) hlt
          have HP := Kd.R_putg HO.out x (-7000000000000000101)
          obtain ⟨y, hy⟩ : ∃ y, y = (l0 ++ (List.replicate (x.toNat - l0.length) (-7000000000000000101) ++ List.replicate (F - x.toNat) 0)).set x.toNat (-7000000000000000101) := ⟨_, rfl⟩
          have hy2 : y = l0 ++ (List.replicate ((x + 1).toNat - l0.length) (-7000000000000000101) ++ List.replicate (F - (x + 1).toNat) 0) := by
            rw [hy]
            have h0 := HI.out
            obtain ⟨i, rfl⟩ := Int.eq_ofNat_of_zero_le (show 0 ≤ x by omega)
            have e : ((i : Int) + 1).toNat = i + 1 := by omega
            rw [e]
            simp only [Int.toNat_natCast]
            exact set_fill2 l0 F i (by omega) (by omega)
          rw [← hy] at HP
          have HY := Aside0.mk hy2
          have GB := Aside0.mk (Kd.R_base HO.out g (by simp [Value.ownBlock]))
          clear hy hy2
          have p2 := eq_true (of_decide_eq_true c2)
          have p3 := eq_true hlt
          go_wp2
          cases gk with
          | zero => exact absurd HI.out.2 (by have := of_decide_eq_true c1; omega)
          | succ k1 =>
            go_roundg k1
            case measure => omega
            case rel => exact ⟨x + 1, by have := HI.out; have := HN.out; have := HFM.out; have := HMB.out; rw [show wrap64 (x + 1) = x + 1 by unfold wrap64; omega], ⟨by have := HI.out; omega⟩, ⟨by rw [← HY.out]; exact HP.1⟩, ⟨below_set HB.out GB.out⟩⟩
        · have c1 : decide (x < (F : Int)) = false := decide_eq_false hlt
          have hx : x = (F : Int) := by have := HI.out; omega
          subst hx
          have HO' : Aside0 (Kd.R (Kd.int .i64) 3 wr w.heap.size (fun _ => True) (.slice (some ⟨g, 0, none⟩) F F) (pad l0)) := ⟨by have h := HO.out; have e : F - l0.length = room l0.length := (by rw [MM.out]; have := HFM.out; omega); simpa [pad, e] using h⟩
          clear HO HI hlt
          obtain ⟨i027, hi027, _, hsz27, _⟩ := info_parts info3
          have hcut27 := cut_to (P := Try.prog) 29 3 .i64 Try.underlying29 hi027 (some ⟨g, 0, none⟩) F F (l0.length : Int) (by omega) (by have := HFM.out; omega) (Nat.le_refl _)
          go_wp2
          go_ret
          exact ⟨g, by simp, HO'.out, HB.out⟩
theorem eqIntS_loop (l : List Int) (hn : l.length ≤ 9223372036854775807) (d : Nat) : ∀ (k : Nat) (x : Int), 0 ≤ x → (l.length : Int) - x = d → d < k → laws_eqIntS.l0 k l l x = some true := by
  induction d with
  | zero =>
    intro k x h0 hd hk
    obtain ⟨k, rfl⟩ : ∃ m, k = m + 1 := ⟨k - 1, by omega⟩
    simp only [laws_eqIntS.l0]; rw [if_neg (by omega)]
  | succ d ih =>
    intro k x h0 hd hk
    obtain ⟨k, rfl⟩ : ∃ m, k = m + 1 := ⟨k - 1, by omega⟩
    simp only [laws_eqIntS.l0]; rw [if_pos (by omega), if_pos h0, if_pos (by omega), if_pos trivial, show wrap64 (x + 1) = x + 1 by unfold wrap64; omega]
    exact ih k (x + 1) (by omega) (by omega) (by omega)
theorem eqIntS_self (l : List Int) (hn : l.length ≤ 9223372036854775807) : laws_eqIntS.f (l.length + 1) l l = some true := by
  unfold laws_eqIntS.f
  rw [if_pos rfl]
  exact eqIntS_loop l hn l.length (l.length + 1) 0 (by omega) (by omega) (by omega)
theorem toIntS_l1 (l : List Int) (F : Nat) (hF : F ≤ 3000000) (d : Nat) : ∀ (k i : Nat), l.length ≤ i → i ≤ F → F - i = d → d < k → laws_toIntS.l1 k l (l ++ (List.replicate (i - l.length) (-7000000000000000101) ++ List.replicate (F - i) 0)) (i : Int) = some l := by
  induction d with
  | zero =>
    intro k i h0 h1 hd hk
    obtain ⟨k, rfl⟩ : ∃ m, k = m + 1 := ⟨k - 1, by omega⟩
    simp only [laws_toIntS.l1]; rw [if_neg (by simp only [List.length_append, List.length_replicate]; omega), if_pos (by omega), if_pos (by simp only [List.length_append, List.length_replicate]; omega)]
    simp
  | succ d ih =>
    intro k i h0 h1 hd hk
    obtain ⟨k, rfl⟩ : ∃ m, k = m + 1 := ⟨k - 1, by omega⟩
    simp only [laws_toIntS.l1]; rw [if_pos (by simp only [List.length_append, List.length_replicate]; omega), if_pos (by omega), show wrap64 ((i : Int) + 1) = ((i + 1 : Nat) : Int) by unfold wrap64; omega, Int.toNat_natCast, set_fill2 l F i h0 (by omega)]
    exact ih k (i + 1) (by omega) (by omega) (by omega) (by omega)
theorem toIntS_l0 (l : List Int) (F : Nat) (hF : F ≤ 3000000) (hl : l.length ≤ F) (d : Nat) : ∀ (k i : Nat), i ≤ l.length → l.length - i = d → d + F + 2 < k → laws_toIntS.l0 k l (l.take i ++ List.replicate (F - i) 0) (i : Int) = some l := by
  induction d with
  | zero =>
    intro k i h1 hd hk
    obtain ⟨k, rfl⟩ : ∃ m, k = m + 1 := ⟨k - 1, by omega⟩
    have e : i = l.length := by omega
    subst e
    simp only [laws_toIntS.l0]; rw [if_neg (by omega)]
    have h := toIntS_l1 l F hF (F - l.length) k l.length (Nat.le_refl _) hl rfl (by omega)
    simpa using h
  | succ d ih =>
    intro k i h1 hd hk
    obtain ⟨k, rfl⟩ : ∃ m, k = m + 1 := ⟨k - 1, by omega⟩
    simp only [laws_toIntS.l0]; rw [if_pos (by omega), if_pos (by omega), if_pos (by simp only [List.length_append, List.length_take, List.length_replicate]; omega), show wrap64 ((i : Int) + 1) = ((i + 1 : Nat) : Int) by unfold wrap64; omega, Int.toNat_natCast, set_fill l F i (by omega) hl]
    exact ih k (i + 1) (by omega) (by omega) (by omega)
theorem toIntS_j0 (l : List Int) (hn : l.length ≤ 1000000) (F : Nat) (hF : l.length + room l.length = F) (k : Nat) (hk : l.length + F + 2 < k) : laws_toIntS.j0 (k + 1) l false = some l := by
  have hr := room_le l.length
  have hw : wrap64 ((l.length : Int) + (room l.length : Int)) = (F : Int) := by unfold wrap64; omega
  have hb : F ≤ 35184372088832 := by omega
  have h := toIntS_l0 l F (by omega) (by omega) l.length k 0 (by omega) (by omega) hk
  simp only [laws_toIntS.j0]
  rw [if_neg (by decide), roomBehind_eq, Option.bind_some, hw, if_pos (by omega), Int.toNat_natCast, if_pos hb]
  simpa using h
theorem toIntS_bare (l : List Int) (hn : l.length ≤ 1000000) : ∃ k, laws_toIntS.f k l true = some l := by
  refine ⟨(l.length + (l.length + room l.length) + 3) + 1, ?_⟩
  unfold laws_toIntS.f
  rw [if_pos rfl]
  by_cases h : l = []
  · subst h
    rfl
  · have e : ((l.length : Int) == 0) = false := by
      have : 0 < l.length := List.length_pos_iff.2 h
      simp only [beq_eq_false_iff_ne]; omega
    rw [e]
    exact toIntS_j0 l hn _ rfl _ (by omega)
theorem pad_reads {w : World} {b : Nat} {ok : Nat → Prop} {A : Option Addr} {l : List Int} (h : Kd.R (Kd.int .i64) 3 w b ok (.slice A (pad l).length (pad l).length) (pad l)) : Kd.C (Kd.int .i64) w A l.length l := C_begin (Kd.R_reads' h).2.2
theorem pad_le (l : List Int) : l.length ≤ (pad l).length := by rw [pad_length]; omega
theorem pad_seen {w : World} {b : Nat} {ok : Nat → Prop} {A : Option Addr} {l : List Int} (h : Kd.R (Kd.int .i64) 3 w b ok (.slice A (pad l).length (pad l).length) (pad l)) : Kd.R (Kd.int .i64) 3 w b ok (.slice A l.length (pad l).length) l := by
  have h2 := Kd.R_take h (pad_le l)
  have e : (pad l).take l.length = l := by simp [pad]
  rwa [e] at h2
theorem toIntS_padE (A0 : Option Addr) (c0 : Nat) (l0 t : List Int) (w : World) (hr0 : Kd.C (Kd.int .i64) w A0 l0.length l0) (hc0 : l0.length ≤ c0) (h : l0.length ≤ 1000000 ∧ pad l0 = t) :
    Calls Try.prog 63 #[.slice A0 l0.length c0, .bool false] w fun e w' => ∃ g, e = .returned (.slice (some ⟨g, 0, none⟩) l0.length t.length) ∧ Kd.R (Kd.int .i64) 3 w' w.heap.size (fun _ => True) (.slice (some ⟨g, 0, none⟩) t.length t.length) t ∧ Below w.heap.size w w' := by
  obtain ⟨hn, rfl⟩ := h
  exact toIntS_pad A0 c0 l0 w hr0 hc0 hn
set_option maxHeartbeats 8000000 in
set_option maxRecDepth 100000 in
theorem toBox_pad (a0_0 : Int) (A0_1 : Option Addr) (c0_1 : Nat) (l0_1 : List Int) (A0_2 : Option Addr) (c0_2 : Nat) (l0_2 : List Int) (w : World) (hr0_1 : Kd.C (Kd.int .i64) w A0_1 l0_1.length l0_1) (hc0_1 : l0_1.length ≤ c0_1) (hr0_2 : Kd.C (Kd.int .i64) w A0_2 l0_2.length l0_2) (hc0_2 : l0_2.length ≤ c0_2) (hn1 : l0_1.length ≤ 1000000) (hn2 : l0_2.length ≤ 1000000) :
    Calls Try.prog 18 #[.agg #[.int .i64 a0_0, .slice A0_1 l0_1.length c0_1, .slice A0_2 l0_2.length c0_2], .bool false] w fun e w' => ∃ g1 g2, e = .returned (.agg #[.int .i64 a0_0, .slice (some ⟨g1, 0, none⟩) l0_1.length (pad l0_1).length, .slice (some ⟨g2, 0, none⟩) l0_2.length (pad l0_2).length]) ∧ Kd.R (Kd.int .i64) 3 w' w.heap.size (fun k_ => k_ ≠ g2) (.slice (some ⟨g1, 0, none⟩) (pad l0_1).length (pad l0_1).length) (pad l0_1) ∧ Kd.R (Kd.int .i64) 3 w' w.heap.size (fun k_ => k_ ≠ g1) (.slice (some ⟨g2, 0, none⟩) (pad l0_2).length (pad l0_2).length) (pad l0_2) ∧ Below w.heap.size w w' := by
  have hu31 := Try.underlying31
  have hu36 := Try.underlying36
  have HR0_1 := Aside0.mk hr0_1
  have HC0_1 := Aside0.mk hc0_1
  clear hr0_1 hc0_1
  have HR0_2 := Aside0.mk hr0_2
  have HC0_2 := Aside0.mk hc0_2
  clear hr0_2 hc0_2
  have HB := Aside0.mk (Below.refl w.heap.size w)
  obtain ⟨t193, ht1⟩ : ∃ t, pad l0_1 = t := ⟨_, rfl⟩
  obtain ⟨t196, ht2⟩ : ∃ t, pad l0_2 = t := ⟨_, rfl⟩
  rw [ht1, ht2]
  have A3 := Aside0.mk (⟨hn1, ht1⟩ : l0_1.length ≤ 1000000 ∧ pad l0_1 = t193)
  have A4 := Aside0.mk (⟨hn2, ht2⟩ : l0_2.length ≤ 1000000 ∧ pad l0_2 = t196)
  clear hn1 hn2 ht1 ht2
  go_enter Try.func18, Try.ntmps18
  go_wp2_with (first | ((with_reducible refine gate_dst (N := 2) rfl ?_); refine box_event ?hg (N := 2) ?hd (cs := #[.int .i64 a0_0, .slice A0_1 l0_1.length c0_1, .slice A0_2 l0_2.length c0_2]) (t := 31) ?hr ?_; (case hd => rfl); (case hg => rfl); (case hr => first | (go_simp; done) | (go_simp; rfl)); intro gb190 hg w5 hbox hb; have n0_ := Aside0.mk (below_step (by repeat (first | (with_reducible first | exact HB.out | apply below_alloc | apply pw_below_drewN | apply below_drew1) | exact HB.out)) hb); have n1_ := Aside0.mk (hbox); have n2_ := Aside0.mk ((by rw [hg]; exact (below_size (by repeat (first | (with_reducible first | exact HB.out | apply below_alloc | apply pw_below_drewN | apply below_drew1) | exact HB.out))) : w.heap.size ≤ gb190)); have n3_ := Aside0.mk ((by rw [hg]; exact (below_size (by repeat (first | (with_reducible first | exact HB.out | apply below_alloc | apply pw_below_drewN | apply below_drew1) | exact HB.out))) : w.heap.size ≤ gb190)); clear HB; have HB := n0_; have BK190 := n1_; have GW190 := n2_; have GE190 := n3_; clear n0_ n1_ n2_ n3_; clear hb hbox hg) | ((with_reducible refine gate_dst (N := 4) rfl ?_); refine box_event ?hg (N := 4) ?hd (cs := #[.int .i64 0, .slice none 0 0, .slice none 0 0]) (t := 36) ?hr ?_; (case hd => rfl); (case hg => rfl); (case hr => first | (go_simp; done) | (go_simp; rfl)); intro gb191 hg w6 hbox hb; have n0_ := Aside0.mk (blk_below (g := gb190) (o := .cells #[.int .i64 a0_0, .slice A0_1 l0_1.length c0_1, .slice A0_2 l0_2.length c0_2] 31 (0, 0)) (by (with_reducible repeat (first | refine blk_drewN ?_ _ | refine blk_drew ?_ | refine blk_alloc ?_ _)); exact BK190.out) hb); have n1_ := Aside0.mk (below_step (by repeat (first | (with_reducible first | exact HB.out | apply below_alloc | apply pw_below_drewN | apply below_drew1 | refine below_set ?_ GE190.out) | exact HB.out)) hb); have n2_ := Aside0.mk (hbox); have n3_ := Aside0.mk ((by rw [hg]; exact (below_size (by repeat (first | (with_reducible first | exact HB.out | apply below_alloc | apply pw_below_drewN | apply below_drew1 | refine below_set ?_ GE190.out) | exact HB.out))) : w.heap.size ≤ gb191)); have n4_ := Aside0.mk ((by rw [hg]; exact (below_size (by repeat (first | (with_reducible first | exact HB.out | apply below_alloc | apply pw_below_drewN | apply below_drew1 | refine below_set ?_ GE190.out) | exact HB.out))) : w.heap.size ≤ gb191)); have n5_ := Aside0.mk ((by rw [hg]; exact Nat.ne_of_lt (blk_lt (g := gb190) (o := .cells #[.int .i64 a0_0, .slice A0_1 l0_1.length c0_1, .slice A0_2 l0_2.length c0_2] 31 (0, 0)) (by (with_reducible repeat (first | refine blk_drewN ?_ _ | refine blk_drew ?_ | refine blk_alloc ?_ _)); exact BK190.out)) : gb190 ≠ gb191)); have n6_ := Aside0.mk ((by rw [hg]; exact Nat.ne_of_gt (blk_lt (g := gb190) (o := .cells #[.int .i64 a0_0, .slice A0_1 l0_1.length c0_1, .slice A0_2 l0_2.length c0_2] 31 (0, 0)) (by (with_reducible repeat (first | refine blk_drewN ?_ _ | refine blk_drew ?_ | refine blk_alloc ?_ _)); exact BK190.out)) : gb191 ≠ gb190)); clear BK190; clear HB; have BK190 := n0_; have HB := n1_; have BK191 := n2_; have GW191 := n3_; have GE191 := n4_; have NB190_191 := n5_; have NB191_190 := n6_; clear n0_ n1_ n2_ n3_ n4_ n5_ n6_; clear hb hbox hg) | ((with_reducible refine gate_dst (N := 5) rfl ?_); refine box_event ?hg (N := 5) ?hd (cs := #[.int .i64 0, .slice none 0 0, .slice none 0 0]) (t := 36) ?hr ?_; (case hd => rfl); (case hg => rfl); (case hr => first | (go_simp; done) | (go_simp; rfl)); intro gb192 hg w7 hbox hb; have n0_ := Aside0.mk (blk_below (g := gb190) (o := .cells #[.int .i64 a0_0, .slice A0_1 l0_1.length c0_1, .slice A0_2 l0_2.length c0_2] 31 (0, 0)) (by (with_reducible repeat (first | refine blk_drewN ?_ _ | refine blk_drew ?_ | refine blk_alloc ?_ _)); exact BK190.out) hb); have n1_ := Aside0.mk (blk_below (g := gb191) (o := .cells #[.int .i64 0, .slice none 0 0, .slice none 0 0] 36 (0, 0)) (by (with_reducible repeat (first | refine blk_drewN ?_ _ | refine blk_drew ?_ | refine blk_alloc ?_ _)); exact BK191.out) hb); have n2_ := Aside0.mk (below_step (by repeat (first | (with_reducible first | exact HB.out | apply below_alloc | apply pw_below_drewN | apply below_drew1 | refine below_set ?_ GE190.out | refine below_set ?_ GE191.out) | exact HB.out)) hb); have n3_ := Aside0.mk (hbox); have n4_ := Aside0.mk ((by rw [hg]; exact (below_size (by repeat (first | (with_reducible first | exact HB.out | apply below_alloc | apply pw_below_drewN | apply below_drew1 | refine below_set ?_ GE190.out | refine below_set ?_ GE191.out) | exact HB.out))) : w.heap.size ≤ gb192)); have n5_ := Aside0.mk ((by rw [hg]; exact (below_size (by repeat (first | (with_reducible first | exact HB.out | apply below_alloc | apply pw_below_drewN | apply below_drew1 | refine below_set ?_ GE190.out | refine below_set ?_ GE191.out) | exact HB.out))) : w.heap.size ≤ gb192)); have n6_ := Aside0.mk ((by rw [hg]; exact Nat.ne_of_lt (blk_lt (g := gb190) (o := .cells #[.int .i64 a0_0, .slice A0_1 l0_1.length c0_1, .slice A0_2 l0_2.length c0_2] 31 (0, 0)) (by (with_reducible repeat (first | refine blk_drewN ?_ _ | refine blk_drew ?_ | refine blk_alloc ?_ _)); exact BK190.out)) : gb190 ≠ gb192)); have n7_ := Aside0.mk ((by rw [hg]; exact Nat.ne_of_gt (blk_lt (g := gb190) (o := .cells #[.int .i64 a0_0, .slice A0_1 l0_1.length c0_1, .slice A0_2 l0_2.length c0_2] 31 (0, 0)) (by (with_reducible repeat (first | refine blk_drewN ?_ _ | refine blk_drew ?_ | refine blk_alloc ?_ _)); exact BK190.out)) : gb192 ≠ gb190)); have n8_ := Aside0.mk ((by rw [hg]; exact Nat.ne_of_lt (blk_lt (g := gb191) (o := .cells #[.int .i64 0, .slice none 0 0, .slice none 0 0] 36 (0, 0)) (by (with_reducible repeat (first | refine blk_drewN ?_ _ | refine blk_drew ?_ | refine blk_alloc ?_ _)); exact BK191.out)) : gb191 ≠ gb192)); have n9_ := Aside0.mk ((by rw [hg]; exact Nat.ne_of_gt (blk_lt (g := gb191) (o := .cells #[.int .i64 0, .slice none 0 0, .slice none 0 0] 36 (0, 0)) (by (with_reducible repeat (first | refine blk_drewN ?_ _ | refine blk_drew ?_ | refine blk_alloc ?_ _)); exact BK191.out)) : gb192 ≠ gb191)); clear BK190; clear BK191; clear HB; have BK190 := n0_; have BK191 := n1_; have HB := n2_; have BK192 := n3_; have GW192 := n4_; have GE192 := n5_; have NB190_192 := n6_; have NB192_190 := n7_; have NB191_192 := n8_; have NB192_191 := n9_; clear n0_ n1_ n2_ n3_ n4_ n5_ n6_ n7_ n8_ n9_; clear hb hbox hg; have hnb8 := NB190_191.out; have hnc8 := NB191_190.out; have hnb9 := NB190_192.out; have hnc9 := NB192_190.out; have hcz10_0 : w7.cell? ⟨gb190, 0, none⟩ = some (.int .i64 a0_0) := (blk_cell BK190.out 0).trans rfl; have hcz10_1 : w7.cell? ⟨gb190, 1, none⟩ = some (.slice A0_1 l0_1.length c0_1) := (blk_cell BK190.out 1).trans rfl; have hcz10_2 : w7.cell? ⟨gb190, 2, none⟩ = some (.slice A0_2 l0_2.length c0_2) := (blk_cell BK190.out 2).trans rfl; have hfz10_0 := blk_frozen BK190.out 0; have hfz10_1 := blk_frozen BK190.out 1; have hfz10_2 := blk_frozen BK190.out 2; have hnb11 := NB192_191.out; have hnc11 := NB191_192.out; have hcz12_0 : w7.cell? ⟨gb192, 0, none⟩ = some (.int .i64 0) := (blk_cell BK192.out 0).trans rfl; have hcz12_1 : w7.cell? ⟨gb192, 1, none⟩ = some (.slice none 0 0) := (blk_cell BK192.out 1).trans rfl; have hcz12_2 : w7.cell? ⟨gb192, 2, none⟩ = some (.slice none 0 0) := (blk_cell BK192.out 2).trans rfl; have hfz12_0 := blk_frozen BK192.out 0; have hfz12_1 := blk_frozen BK192.out 1; have hfz12_2 := blk_frozen BK192.out 2) | ((with_reducible refine gate_callee (f := 63) rfl ?_); refine goesL_ (some 12) rfl rfl Try.func63 (by kernel_rfl) rfl #[.slice A0_1 l0_1.length c0_1, .bool false] rfl (by (try simp only [List.map_toArray, List.map_cons, List.map_nil]); first | done | rfl | (simp only [List.length_drop, List.length_take]; rfl)) ?_; (with_reducible refine (toIntS_padE _ _ l0_1 t193 _ ?side1 ?side2 A3.out).mono ?_); (case side1 => exact Kd.C_below HR0_1.out (by repeat (first | (with_reducible first | exact HB.out | apply below_alloc | apply pw_below_drewN | apply below_drew1 | refine below_set ?_ GE190.out | refine below_set ?_ GE191.out | refine below_set ?_ GE192.out) | exact HB.out))); (case side2 => exact HC0_1.out); rintro e w13 ⟨g14, rfl, ho0, hb⟩; refine ⟨_, rfl, ?_⟩; have n0_ := Aside0.mk (Kd.R_lower ho0 (below_size (by repeat (first | (with_reducible first | exact HB.out | apply below_alloc | apply pw_below_drewN | apply below_drew1 | refine below_set ?_ GE190.out | refine below_set ?_ GE191.out | refine below_set ?_ GE192.out) | exact HB.out)))); have n1_ := Aside0.mk (blk_below (g := gb190) (o := .cells #[.int .i64 a0_0, .slice A0_1 l0_1.length c0_1, .slice A0_2 l0_2.length c0_2] 31 (0, 0)) (by (with_reducible repeat (first | refine blk_drewN ?_ _ | refine blk_drew ?_ | refine blk_alloc ?_ _)); refine blk_far ?_ NB190_192.out _; (with_reducible repeat (first | refine blk_drewN ?_ _ | refine blk_drew ?_ | refine blk_alloc ?_ _)); exact BK190.out) hb); have n2_ := Aside0.mk (blk_below (g := gb191) (o := .cells #[.int .i64 0, .slice none 0 0, .slice none 0 0] 36 (0, 0)) (by (with_reducible repeat (first | refine blk_drewN ?_ _ | refine blk_drew ?_ | refine blk_alloc ?_ _)); refine blk_far ?_ NB191_192.out _; (with_reducible repeat (first | refine blk_drewN ?_ _ | refine blk_drew ?_ | refine blk_alloc ?_ _)); exact BK191.out) hb); have n3_ := Aside0.mk (blk_below (g := gb192) (o := .cells #[.int .i64 a0_0, .slice none 0 0, .slice none 0 0] 36 (0, 0)) (by (with_reducible repeat (first | refine blk_drewN ?_ _ | refine blk_drew ?_ | refine blk_alloc ?_ _)); refine blk_put (cs := #[.int .i64 0, .slice none 0 0, .slice none 0 0]) ?_ 0 _ rfl; (with_reducible repeat (first | refine blk_drewN ?_ _ | refine blk_drew ?_ | refine blk_alloc ?_ _)); exact BK192.out) hb); have n4_ := Aside0.mk (below_step (by repeat (first | (with_reducible first | exact HB.out | apply below_alloc | apply pw_below_drewN | apply below_drew1 | refine below_set ?_ GE190.out | refine below_set ?_ GE191.out | refine below_set ?_ GE192.out) | exact HB.out)) hb); clear BK190; clear BK191; clear BK192; clear HB; have HO195 := n0_; have BK190 := n1_; have BK191 := n2_; have BK192 := n3_; have HB := n4_; clear n0_ n1_ n2_ n3_ n4_; (try clear hb); (try clear hb2); (try clear hk); (try clear hi); (try clear ho0); have hcz15_0 : w13.cell? ⟨gb192, 0, none⟩ = some (.int .i64 a0_0) := (blk_cell BK192.out 0).trans rfl; have hcz15_1 : w13.cell? ⟨gb192, 1, none⟩ = some (.slice none 0 0) := (blk_cell BK192.out 1).trans rfl; have hcz15_2 : w13.cell? ⟨gb192, 2, none⟩ = some (.slice none 0 0) := (blk_cell BK192.out 2).trans rfl; have hfz15_0 := blk_frozen BK192.out 0; have hfz15_1 := blk_frozen BK192.out 1; have hfz15_2 := blk_frozen BK192.out 2; have hcz16_0 : w13.cell? ⟨gb190, 0, none⟩ = some (.int .i64 a0_0) := (blk_cell BK190.out 0).trans rfl; have hcz16_1 : w13.cell? ⟨gb190, 1, none⟩ = some (.slice A0_1 l0_1.length c0_1) := (blk_cell BK190.out 1).trans rfl; have hcz16_2 : w13.cell? ⟨gb190, 2, none⟩ = some (.slice A0_2 l0_2.length c0_2) := (blk_cell BK190.out 2).trans rfl; have hfz16_0 := blk_frozen BK190.out 0; have hfz16_1 := blk_frozen BK190.out 1; have hfz16_2 := blk_frozen BK190.out 2) | ((with_reducible refine gate_callee (f := 63) rfl ?_); refine goesL_ (some 17) rfl rfl Try.func63 (by kernel_rfl) rfl #[.slice A0_2 l0_2.length c0_2, .bool false] rfl (by (try simp only [List.map_toArray, List.map_cons, List.map_nil]); first | done | rfl | (simp only [List.length_drop, List.length_take]; rfl)) ?_; (with_reducible refine (toIntS_padE _ _ l0_2 t196 _ ?side1 ?side2 A4.out).mono ?_); (case side1 => exact Kd.C_below HR0_2.out (by repeat (first | (with_reducible first | exact HB.out | apply below_alloc | apply pw_below_drewN | apply below_drew1 | refine below_set ?_ GE190.out | refine below_set ?_ GE191.out | refine below_set ?_ GE192.out) | exact HB.out))); (case side2 => exact HC0_2.out); rintro e w17 ⟨g18, rfl, ho0, hb⟩; refine ⟨_, rfl, ?_⟩; have n0_ := Aside0.mk (Kd.R_elder' (by (with_reducible repeat (first | apply Kd.R_alloc | apply Kd.R_drewN | apply Kd.R_drew)); exact (Kd.R_mono (Kd.R_far (p := ⟨gb192, 1, none⟩) (Kd.R_types HO195.out BK192.out (by decide)) (fun _ hk => hk.2) (.slice (some ⟨g14, 0, none⟩) l0_1.length t193.length)) (fun _ h_ => h_.1))) (Kd.R_base ho0) hb); have n1_ := Aside0.mk (Kd.R_lower (Kd.R_new' ho0 (Kd.R_lt (by (with_reducible repeat (first | apply Kd.R_alloc | apply Kd.R_drewN | apply Kd.R_drew)); exact (Kd.R_mono (Kd.R_far (p := ⟨gb192, 1, none⟩) (Kd.R_types HO195.out BK192.out (by decide)) (fun _ hk => hk.2) (.slice (some ⟨g14, 0, none⟩) l0_1.length t193.length)) (fun _ h_ => h_.1))))) (below_size (by repeat (first | (with_reducible first | exact HB.out | apply below_alloc | apply pw_below_drewN | apply below_drew1 | refine below_set ?_ GE190.out | refine below_set ?_ GE191.out | refine below_set ?_ GE192.out) | exact HB.out)))); have n2_ := Aside0.mk (blk_below (g := gb190) (o := .cells #[.int .i64 a0_0, .slice A0_1 l0_1.length c0_1, .slice A0_2 l0_2.length c0_2] 31 (0, 0)) (by (with_reducible repeat (first | refine blk_drewN ?_ _ | refine blk_drew ?_ | refine blk_alloc ?_ _)); refine blk_far ?_ NB190_192.out _; (with_reducible repeat (first | refine blk_drewN ?_ _ | refine blk_drew ?_ | refine blk_alloc ?_ _)); exact BK190.out) hb); have n3_ := Aside0.mk (blk_below (g := gb191) (o := .cells #[.int .i64 0, .slice none 0 0, .slice none 0 0] 36 (0, 0)) (by (with_reducible repeat (first | refine blk_drewN ?_ _ | refine blk_drew ?_ | refine blk_alloc ?_ _)); refine blk_far ?_ NB191_192.out _; (with_reducible repeat (first | refine blk_drewN ?_ _ | refine blk_drew ?_ | refine blk_alloc ?_ _)); exact BK191.out) hb); have n4_ := Aside0.mk (blk_below (g := gb192) (o := .cells #[.int .i64 a0_0, .slice (some ⟨g14, 0, none⟩) l0_1.length t193.length, .slice none 0 0] 36 (0, 0)) (by (with_reducible repeat (first | refine blk_drewN ?_ _ | refine blk_drew ?_ | refine blk_alloc ?_ _)); refine blk_put (cs := #[.int .i64 a0_0, .slice none 0 0, .slice none 0 0]) ?_ 1 _ rfl; (with_reducible repeat (first | refine blk_drewN ?_ _ | refine blk_drew ?_ | refine blk_alloc ?_ _)); exact BK192.out) hb); have n5_ := Aside0.mk (below_step (by repeat (first | (with_reducible first | exact HB.out | apply below_alloc | apply pw_below_drewN | apply below_drew1 | refine below_set ?_ GE190.out | refine below_set ?_ GE191.out | refine below_set ?_ GE192.out) | exact HB.out)) hb); clear HO195; clear BK190; clear BK191; clear BK192; clear HB; have HO195 := n0_; have HO198 := n1_; have BK190 := n2_; have BK191 := n3_; have BK192 := n4_; have HB := n5_; clear n0_ n1_ n2_ n3_ n4_ n5_; (try clear hb); (try clear hb2); (try clear hk); (try clear hi); (try clear ho0); have hcz19_0 : w17.cell? ⟨gb192, 0, none⟩ = some (.int .i64 a0_0) := (blk_cell BK192.out 0).trans rfl; have hcz19_1 : w17.cell? ⟨gb192, 1, none⟩ = some (.slice (some ⟨g14, 0, none⟩) l0_1.length t193.length) := (blk_cell BK192.out 1).trans rfl; have hcz19_2 : w17.cell? ⟨gb192, 2, none⟩ = some (.slice none 0 0) := (blk_cell BK192.out 2).trans rfl; have hfz19_0 := blk_frozen BK192.out 0; have hfz19_1 := blk_frozen BK192.out 1; have hfz19_2 := blk_frozen BK192.out 2; have hcz20_0 : w17.cell? ⟨gb191, 0, none⟩ = some (.int .i64 0) := (blk_cell BK191.out 0).trans rfl; have hcz20_1 : w17.cell? ⟨gb191, 1, none⟩ = some (.slice none 0 0) := (blk_cell BK191.out 1).trans rfl; have hcz20_2 : w17.cell? ⟨gb191, 2, none⟩ = some (.slice none 0 0) := (blk_cell BK191.out 2).trans rfl; have hfz20_0 := blk_frozen BK191.out 0; have hfz20_1 := blk_frozen BK191.out 1; have hfz20_2 := blk_frozen BK191.out 2))
  refine bodyPost_ret (results_cell_row rfl _ _ gb191 36 #[.int .i64 a0_0, .slice (some ⟨g14, 0, none⟩) l0_1.length t193.length, .slice (some ⟨g18, 0, none⟩) l0_2.length t196.length] (0, 0) _ rfl (by (with_reducible repeat (first | refine blk_drewN ?_ _ | refine blk_drew ?_ | refine blk_alloc ?_ _)); refine blk_put (cs := #[.int .i64 a0_0, .slice (some ⟨g14, 0, none⟩) l0_1.length t193.length, .slice none 0 0]) ?_ 2 _ rfl; (with_reducible repeat (first | refine blk_drewN ?_ _ | refine blk_drew ?_ | refine blk_alloc ?_ _)); refine blk_put (cs := #[.int .i64 a0_0, .slice none 0 0, .slice none 0 0]) ?_ 1 _ rfl; (with_reducible repeat (first | refine blk_drewN ?_ _ | refine blk_drew ?_ | refine blk_alloc ?_ _)); refine blk_put (cs := #[.int .i64 0, .slice none 0 0, .slice none 0 0]) ?_ 0 _ rfl; (with_reducible repeat (first | refine blk_drewN ?_ _ | refine blk_drew ?_ | refine blk_alloc ?_ _)); refine blk_far ?_ NB191_192.out _; (with_reducible repeat (first | refine blk_drewN ?_ _ | refine blk_drew ?_ | refine blk_alloc ?_ _)); exact BK191.out) Try.underlying36 rfl (by kernel_rfl)) rfl ?_
  exact ⟨_, _, by first | rfl | (simp [errW_none, errW_some] <;> rfl) | (simp [*, errW_none, errW_some] <;> rfl), by (with_reducible repeat (first | apply Kd.R_alloc | apply Kd.R_drewN | apply Kd.R_drew)); exact Kd.R_mono (Kd.R_far (p := ⟨gb191, 2, none⟩) (Kd.R_far (p := ⟨gb191, 1, none⟩) (Kd.R_far (p := ⟨gb191, 0, none⟩) (Kd.R_far (p := ⟨gb192, 2, none⟩) (Kd.R_types (Kd.R_types HO195.out BK192.out (by decide)) BK191.out (by decide)) (fun _ hk => hk.1.2) (.slice (some ⟨g18, 0, none⟩) l0_2.length t196.length)) (fun _ hk => hk.2) (.int .i64 a0_0)) (fun _ hk => hk.2) (.slice (some ⟨g14, 0, none⟩) l0_1.length t193.length)) (fun _ hk => hk.2) (.slice (some ⟨g18, 0, none⟩) l0_2.length t196.length)) (fun _ hk => by have h_ := hk.1.1.2; intro e_; exact h_ (by rw [e_]; rfl)), by (with_reducible repeat (first | apply Kd.R_alloc | apply Kd.R_drewN | apply Kd.R_drew)); exact Kd.R_mono (Kd.R_far (p := ⟨gb191, 2, none⟩) (Kd.R_far (p := ⟨gb191, 1, none⟩) (Kd.R_far (p := ⟨gb191, 0, none⟩) (Kd.R_far (p := ⟨gb192, 2, none⟩) (Kd.R_types (Kd.R_types HO198.out BK192.out (by decide)) BK191.out (by decide)) (fun _ hk => hk.1.2) (.slice (some ⟨g18, 0, none⟩) l0_2.length t196.length)) (fun _ hk => hk.2) (.int .i64 a0_0)) (fun _ hk => hk.2) (.slice (some ⟨g14, 0, none⟩) l0_1.length t193.length)) (fun _ hk => hk.2) (.slice (some ⟨g18, 0, none⟩) l0_2.length t196.length)) (fun _ hk => by have h_ := hk.1.1.2; intro e_; exact h_ (by rw [e_]; rfl)), by repeat (first | (with_reducible first | exact HB.out | apply below_alloc | apply pw_below_drewN | apply below_drew1 | refine below_set ?_ GE190.out | refine below_set ?_ GE191.out | refine below_set ?_ GE192.out) | exact HB.out)⟩
theorem toIntS_up {k : Nat} {l r : List Int} {b : Bool} (h : laws_toIntS.f k l b = some r) (d : Nat) : laws_toIntS.f (k + d) l b = some r := by
  induction d with
  | zero => exact h
  | succ d ih => exact laws_toIntS.mono _ _ _ _ ih
theorem toBox_bare (a : Int) (l1 l2 : List Int) (h1 : l1.length ≤ 1000000) (h2 : l2.length ≤ 1000000) : ∃ k, laws_toBox.f k a l1 l2 true = some (a, l1, l2) := by
  obtain ⟨k1, e1⟩ := toIntS_bare l1 h1
  obtain ⟨k2, e2⟩ := toIntS_bare l2 h2
  refine ⟨k1 + k2, ?_⟩
  unfold laws_toBox.f
  rw [toIntS_up e1 k2, Nat.add_comm k1 k2, toIntS_up e2 k1]
  rfl
set_option maxHeartbeats 4000000 in
set_option maxRecDepth 100000 in
theorem intactIntS_padC (g1 g2 : Nat) (l : List Int) (w : World) (hl : l.length ≤ 1000000)
    (h1 : Kd.C (Kd.int .i64) w (some ⟨g1, 0, none⟩) (pad l).length (pad l))
    (h2 : Kd.C (Kd.int .i64) w (some ⟨g2, 0, none⟩) (pad l).length (pad l)) :
    Calls Try.prog 67 #[.slice (some ⟨g1, 0, none⟩) l.length (pad l).length, .slice (some ⟨g2, 0, none⟩) l.length (pad l).length] w fun e w' => e = .returned (.bool true) ∧ Drawn0 w w' := by
  have H1 := Aside0.mk h1
  have H2 := Aside0.mk h2
  have hm := Aside0.mk (roomBehind_eq l.length)
  have hmb := room_le l.length
  have HE := Aside0.mk (eqIntS_self (pad l) (by rw [pad_length]; omega))
  obtain ⟨p, hp⟩ : ∃ p, pad l = p := ⟨_, rfl⟩
  have hpl := pad_length l
  obtain ⟨m, hmm⟩ : ∃ m, room l.length = m := ⟨_, rfl⟩
  rw [hp] at H1 H2 HE hpl ⊢
  rw [hmm] at hm hmb hpl
  have hFw : (IntKind.i64.wrap ((l.length : Int) + (m : Int))) = (p.length : Int) := by rw [i64_w]; unfold wrap64; omega
  have HL := Aside0.mk hpl
  clear h1 h2 hp hpl hmm hmb
  obtain ⟨i0, hi0, _, hsz, _⟩ := info_parts info3
  have hc1 := cut_room (P := Try.prog) 29 3 .i64 Try.underlying29 hi0 (some ⟨g1, 0, none⟩) l.length p.length (p.length : Int) (by omega) (Int.le_refl _)
  have hc2 := cut_room (P := Try.prog) 29 3 .i64 Try.underlying29 hi0 (some ⟨g2, 0, none⟩) l.length p.length (p.length : Int) (by omega) (Int.le_refl _)
  simp only [Int.toNat_natCast] at hc1 hc2
  clear hi0 hsz
  go_enter Try.func67, Try.ntmps67
  go_wp2_with (first | ((with_reducible refine gate_callee (f := 55) rfl ?_); refine goesL_ (some 10) rfl rfl Try.func55 (by kernel_rfl) rfl #[.int .i64 (l.length : Int)] rfl (by (try simp only [List.map_toArray, List.map_cons, List.map_nil]); first | done | rfl) ?_; (with_reducible refine (laws_roomBehind.calls (l.length : Int) (m : Int) _ hm.out).mono ?_); rintro e w' ⟨rfl, ⟨nd, rfl⟩⟩; refine ⟨_, rfl, ?_⟩) | (go_at_call 48; (with_reducible refine (laws_eqIntS.calls (p.length + 1) _ _ p _ _ p true _ ?side1 ?side2 ?side3 ?side4 HE.out).mono ?_); (case side1 => repeat (first | exact H1.out | (with_reducible refine Kd.C_alloc ?_ _) | (with_reducible refine Kd.C_drewN ?_ _) | (with_reducible refine Kd.C_drew ?_))); (case side2 => exact Nat.le_refl _); (case side3 => repeat (first | exact H2.out | (with_reducible refine Kd.C_alloc ?_ _) | (with_reducible refine Kd.C_drewN ?_ _) | (with_reducible refine Kd.C_drew ?_))); (case side4 => exact Nat.le_refl _); rintro e w' ⟨rfl, ⟨nd, rfl⟩⟩))
  have hbb : ((l.length : Int) == (l.length : Int)) = true := by simp
  go_quiet ((go_at_call 48; (with_reducible refine (laws_eqIntS.calls (p.length + 1) _ _ p _ _ p true _ ?side1 ?side2 ?side3 ?side4 HE.out).mono ?_); (case side1 => repeat (first | exact H1.out | (with_reducible refine Kd.C_alloc ?_ _) | (with_reducible refine Kd.C_drewN ?_ _) | (with_reducible refine Kd.C_drew ?_))); (case side2 => exact Nat.le_refl _); (case side3 => repeat (first | exact H2.out | (with_reducible refine Kd.C_alloc ?_ _) | (with_reducible refine Kd.C_drewN ?_ _) | (with_reducible refine Kd.C_drew ?_))); (case side4 => exact Nat.le_refl _); rintro e w' ⟨rfl, ⟨nd, rfl⟩⟩; (try first | exact ⟨rfl, _, World.drewN_drewN _ _ _⟩ | exact ⟨rfl, _, Eq.trans (World.drewN_drewN _ _ _) (congrArg (World.drewN _) (Nat.add_assoc _ _ _))⟩)))
  go_wp2
  go_ret
  exact ⟨by first | rfl | (simp; done), by repeat (first | exact Drawn0.refl _ | apply Drawn0.step)⟩
theorem intactIntS_E (g1 g2 : Nat) (l p : List Int) (w : World) (h1 : Kd.C (Kd.int .i64) w (some ⟨g1, 0, none⟩) p.length p) (_ : l.length ≤ p.length) (h2 : Kd.C (Kd.int .i64) w (some ⟨g2, 0, none⟩) p.length p) (_ : l.length ≤ p.length) (h : l.length ≤ 1000000 ∧ pad l = p) :
    Calls Try.prog 67 #[.slice (some ⟨g1, 0, none⟩) l.length p.length, .slice (some ⟨g2, 0, none⟩) l.length p.length] w fun e w' => e = .returned (.bool true) ∧ Drawn0 w w' := by
  obtain ⟨hn, rfl⟩ := h
  exact intactIntS_padC g1 g2 l w hn h1 h2
set_option maxHeartbeats 8000000 in
set_option maxRecDepth 100000 in
theorem intactBox_pad (a0_0 : Int) (g1 g2 g3 g4 : Nat) (l0_1 l0_2 : List Int) (w : World) (hn1 : l0_1.length ≤ 1000000) (hn2 : l0_2.length ≤ 1000000) (h1 : ∃ b ok, Kd.R (Kd.int .i64) 3 w b ok (.slice (some ⟨g1, 0, none⟩) (pad l0_1).length (pad l0_1).length) (pad l0_1)) (h3 : ∃ b ok, Kd.R (Kd.int .i64) 3 w b ok (.slice (some ⟨g3, 0, none⟩) (pad l0_1).length (pad l0_1).length) (pad l0_1)) (h2 : ∃ b ok, Kd.R (Kd.int .i64) 3 w b ok (.slice (some ⟨g2, 0, none⟩) (pad l0_2).length (pad l0_2).length) (pad l0_2)) (h4 : ∃ b ok, Kd.R (Kd.int .i64) 3 w b ok (.slice (some ⟨g4, 0, none⟩) (pad l0_2).length (pad l0_2).length) (pad l0_2)) :
    Calls Try.prog 21 #[.agg #[.int .i64 a0_0, .slice (some ⟨g1, 0, none⟩) l0_1.length (pad l0_1).length, .slice (some ⟨g2, 0, none⟩) l0_2.length (pad l0_2).length], .agg #[.int .i64 a0_0, .slice (some ⟨g3, 0, none⟩) l0_1.length (pad l0_1).length, .slice (some ⟨g4, 0, none⟩) l0_2.length (pad l0_2).length]] w fun e w' => e = .returned (.bool true) ∧ Below w.heap.size w w' := by
  obtain ⟨_, _, h1⟩ := h1
  obtain ⟨_, _, h2⟩ := h2
  obtain ⟨_, _, h3⟩ := h3
  obtain ⟨_, _, h4⟩ := h4
  have HR0_1 := Aside0.mk (Kd.R_reads' h1).2.2
  have HR0_2 := Aside0.mk (Kd.R_reads' h2).2.2
  have HR1_1 := Aside0.mk (Kd.R_reads' h3).2.2
  have HR1_2 := Aside0.mk (Kd.R_reads' h4).2.2
  have HC0_1 := Aside0.mk (pad_le l0_1)
  have HC0_2 := Aside0.mk (pad_le l0_2)
  obtain ⟨p1, hp1⟩ : ∃ p, pad l0_1 = p := ⟨_, rfl⟩
  obtain ⟨p2, hp2⟩ : ∃ p, pad l0_2 = p := ⟨_, rfl⟩
  rw [hp1] at HR0_1 HR1_1 HC0_1 ⊢
  rw [hp2] at HR0_2 HR1_2 HC0_2 ⊢
  have A4 := Aside0.mk (⟨hn1, hp1⟩ : l0_1.length ≤ 1000000 ∧ pad l0_1 = p1)
  have A6 := Aside0.mk (⟨hn2, hp2⟩ : l0_2.length ≤ 1000000 ∧ pad l0_2 = p2)
  clear h1 h2 h3 h4 hn1 hn2 hp1 hp2
  have HC1_1 := HC0_1
  have HC1_2 := HC0_2
  have c3b0 : (a0_0 == a0_0) = true := beq_iff_eq.mpr rfl
  have c3b1 : (a0_0 != a0_0) = false := bne_eq_false_iff_eq.mpr rfl
  have hu36 := Try.underlying36
  have HB := Aside0.mk (Below.refl w.heap.size w)
  go_enter Try.func21, Try.ntmps21
  go_wp2_with (first | ((with_reducible refine gate_dst (N := 2) rfl ?_); refine box_event ?hg (N := 2) ?hd (cs := #[.int .i64 a0_0, .slice (some ⟨g1, 0, none⟩) l0_1.length p1.length, .slice (some ⟨g2, 0, none⟩) l0_2.length p2.length]) (t := 36) ?hr ?_; (case hd => rfl); (case hg => rfl); (case hr => first | (go_simp; done) | (go_simp; rfl)); intro gb117 hg w8 hbox hb; have n0_ := Aside0.mk (below_step (by repeat (first | (with_reducible first | exact HB.out | apply below_alloc | apply pw_below_drewN | apply below_drew1) | exact HB.out)) hb); have n1_ := Aside0.mk (hbox); have n2_ := Aside0.mk ((by rw [hg]; exact (below_size (by repeat (first | (with_reducible first | exact HB.out | apply below_alloc | apply pw_below_drewN | apply below_drew1) | exact HB.out))) : w.heap.size ≤ gb117)); have n3_ := Aside0.mk ((by rw [hg]; exact (below_size (by repeat (first | (with_reducible first | exact HB.out | apply below_alloc | apply pw_below_drewN | apply below_drew1) | exact HB.out))) : w.heap.size ≤ gb117)); clear HB; have HB := n0_; have BK117 := n1_; have GW117 := n2_; have GE117 := n3_; clear n0_ n1_ n2_ n3_; clear hb hbox hg) | ((with_reducible refine gate_dst (N := 3) rfl ?_); refine box_event ?hg (N := 3) ?hd (cs := #[.int .i64 a0_0, .slice (some ⟨g3, 0, none⟩) l0_1.length p1.length, .slice (some ⟨g4, 0, none⟩) l0_2.length p2.length]) (t := 36) ?hr ?_; (case hd => rfl); (case hg => rfl); (case hr => first | (go_simp; done) | (go_simp; rfl)); intro gb118 hg w9 hbox hb; have n0_ := Aside0.mk (blk_below (g := gb117) (o := .cells #[.int .i64 a0_0, .slice (some ⟨g1, 0, none⟩) l0_1.length p1.length, .slice (some ⟨g2, 0, none⟩) l0_2.length p2.length] 36 (0, 0)) (by (with_reducible repeat (first | refine blk_drewN ?_ _ | refine blk_drew ?_ | refine blk_alloc ?_ _)); exact BK117.out) hb); have n1_ := Aside0.mk (below_step (by repeat (first | (with_reducible first | exact HB.out | apply below_alloc | apply pw_below_drewN | apply below_drew1 | refine below_set ?_ GE117.out) | exact HB.out)) hb); have n2_ := Aside0.mk (hbox); have n3_ := Aside0.mk ((by rw [hg]; exact (below_size (by repeat (first | (with_reducible first | exact HB.out | apply below_alloc | apply pw_below_drewN | apply below_drew1 | refine below_set ?_ GE117.out) | exact HB.out))) : w.heap.size ≤ gb118)); have n4_ := Aside0.mk ((by rw [hg]; exact (below_size (by repeat (first | (with_reducible first | exact HB.out | apply below_alloc | apply pw_below_drewN | apply below_drew1 | refine below_set ?_ GE117.out) | exact HB.out))) : w.heap.size ≤ gb118)); have n5_ := Aside0.mk ((by rw [hg]; exact Nat.ne_of_lt (blk_lt (g := gb117) (o := .cells #[.int .i64 a0_0, .slice (some ⟨g1, 0, none⟩) l0_1.length p1.length, .slice (some ⟨g2, 0, none⟩) l0_2.length p2.length] 36 (0, 0)) (by (with_reducible repeat (first | refine blk_drewN ?_ _ | refine blk_drew ?_ | refine blk_alloc ?_ _)); exact BK117.out)) : gb117 ≠ gb118)); have n6_ := Aside0.mk ((by rw [hg]; exact Nat.ne_of_gt (blk_lt (g := gb117) (o := .cells #[.int .i64 a0_0, .slice (some ⟨g1, 0, none⟩) l0_1.length p1.length, .slice (some ⟨g2, 0, none⟩) l0_2.length p2.length] 36 (0, 0)) (by (with_reducible repeat (first | refine blk_drewN ?_ _ | refine blk_drew ?_ | refine blk_alloc ?_ _)); exact BK117.out)) : gb118 ≠ gb117)); clear BK117; clear HB; have BK117 := n0_; have HB := n1_; have BK118 := n2_; have GW118 := n3_; have GE118 := n4_; have NB117_118 := n5_; have NB118_117 := n6_; clear n0_ n1_ n2_ n3_ n4_ n5_ n6_; clear hb hbox hg; have hnb10 := NB117_118.out; have hnc10 := NB118_117.out; have hcz11_0 : w9.cell? ⟨gb117, 0, none⟩ = some (.int .i64 a0_0) := (blk_cell BK117.out 0).trans rfl; have hcz11_1 : w9.cell? ⟨gb117, 1, none⟩ = some (.slice (some ⟨g1, 0, none⟩) l0_1.length p1.length) := (blk_cell BK117.out 1).trans rfl; have hcz11_2 : w9.cell? ⟨gb117, 2, none⟩ = some (.slice (some ⟨g2, 0, none⟩) l0_2.length p2.length) := (blk_cell BK117.out 2).trans rfl; have hfz11_0 := blk_frozen BK117.out 0; have hfz11_1 := blk_frozen BK117.out 1; have hfz11_2 := blk_frozen BK117.out 2; have hcz12_0 : w9.cell? ⟨gb118, 0, none⟩ = some (.int .i64 a0_0) := (blk_cell BK118.out 0).trans rfl; have hcz12_1 : w9.cell? ⟨gb118, 1, none⟩ = some (.slice (some ⟨g3, 0, none⟩) l0_1.length p1.length) := (blk_cell BK118.out 1).trans rfl; have hcz12_2 : w9.cell? ⟨gb118, 2, none⟩ = some (.slice (some ⟨g4, 0, none⟩) l0_2.length p2.length) := (blk_cell BK118.out 2).trans rfl; have hfz12_0 := blk_frozen BK118.out 0; have hfz12_1 := blk_frozen BK118.out 1; have hfz12_2 := blk_frozen BK118.out 2) | ((with_reducible refine gate_callee (f := 67) rfl ?_); refine goesL_ (some 14) rfl rfl Try.func67 (by kernel_rfl) rfl #[.slice (some ⟨g1, 0, none⟩) l0_1.length p1.length, .slice (some ⟨g3, 0, none⟩) l0_1.length p1.length] rfl (by (try simp only [List.map_toArray, List.map_cons, List.map_nil]); first | done | rfl | (simp only [List.length_drop, List.length_take]; rfl)) ?_; (with_reducible refine (intactIntS_E _ _ l0_1 p1 _ ?side1 ?side2 ?side3 ?side4 A4.out).mono ?_); (case side1 => repeat (first | exact (Kd.C_below HR0_1.out HB.out) | (with_reducible refine Kd.C_alloc ?_ _) | (with_reducible refine Kd.C_drewN ?_ _) | (with_reducible refine Kd.C_drew ?_))); (case side2 => exact HC0_1.out); (case side3 => repeat (first | exact (Kd.C_below HR1_1.out HB.out) | (with_reducible refine Kd.C_alloc ?_ _) | (with_reducible refine Kd.C_drewN ?_ _) | (with_reducible refine Kd.C_drew ?_))); (case side4 => exact HC1_1.out); rintro e w' ⟨rfl, ⟨nd, rfl⟩⟩; refine ⟨_, rfl, ?_⟩) | ((with_reducible refine gate_callee (f := 67) rfl ?_); refine goesL_ (some 20) rfl rfl Try.func67 (by kernel_rfl) rfl #[.slice (some ⟨g2, 0, none⟩) l0_2.length p2.length, .slice (some ⟨g4, 0, none⟩) l0_2.length p2.length] rfl (by (try simp only [List.map_toArray, List.map_cons, List.map_nil]); first | done | rfl | (simp only [List.length_drop, List.length_take]; rfl)) ?_; (with_reducible refine (intactIntS_E _ _ l0_2 p2 _ ?side1 ?side2 ?side3 ?side4 A6.out).mono ?_); (case side1 => repeat (first | exact (Kd.C_below HR0_2.out (by repeat (first | (with_reducible first | exact HB.out | apply below_alloc | apply pw_below_drewN | apply below_drew1 | refine below_set ?_ GE117.out | refine below_set ?_ GE118.out) | exact HB.out))) | (with_reducible refine Kd.C_alloc ?_ _) | (with_reducible refine Kd.C_drewN ?_ _) | (with_reducible refine Kd.C_drew ?_))); (case side2 => exact HC0_2.out); (case side3 => repeat (first | exact (Kd.C_below HR1_2.out (by repeat (first | (with_reducible first | exact HB.out | apply below_alloc | apply pw_below_drewN | apply below_drew1 | refine below_set ?_ GE117.out | refine below_set ?_ GE118.out) | exact HB.out))) | (with_reducible refine Kd.C_alloc ?_ _) | (with_reducible refine Kd.C_drewN ?_ _) | (with_reducible refine Kd.C_drew ?_))); (case side4 => exact HC1_2.out); rintro e w' ⟨rfl, ⟨nd, rfl⟩⟩; refine ⟨_, rfl, ?_⟩))
  go_ret
  exact ⟨by first | rfl | (simp [errW_none, errW_some] <;> rfl) | (simp [*, errW_none, errW_some] <;> rfl), by repeat (first | (with_reducible first | exact HB.out | apply below_alloc | apply pw_below_drewN | apply below_drew1 | refine below_set ?_ GE117.out | refine below_set ?_ GE118.out) | exact HB.out)⟩
def marks (a : Int) (n : Nat) : List Int := (List.range n).map fun i : Nat => a + (i : Int)
theorem marks_take (a : Int) (l : List Int) (i : Nat) (h : i < l.length) : (marks a i ++ l.drop i).set i (a + (i : Int)) = marks a (i + 1) ++ l.drop (i + 1) := by
  have h1 : l.drop i = l[i] :: l.drop (i + 1) := (List.drop_eq_getElem_cons h)
  rw [h1, List.set_append_right _ _ (by simp [marks])]
  have h2 : i - (marks a i).length = 0 := by simp [marks]
  rw [h2, List.set_cons_zero]
  have h3 : marks a (i + 1) = marks a i ++ [a + (i : Int)] := by simp [marks, List.range_succ]
  rw [h3, List.append_assoc]
  rfl
theorem markIntS_l0 (l : List Int) (a : Int) (ha : 0 ≤ a) (hn : l.length ≤ 1000000) (hb : a ≤ 1000000000000) (d : Nat) : ∀ (k i : Nat), i ≤ l.length → l.length - i = d → d < k → laws_markIntS.l0 k (marks a i ++ l.drop i) (a + (i : Int)) (i : Int) = some (a + (l.length : Int), marks a l.length) := by
  induction d with
  | zero =>
    intro k i h1 hd hk
    obtain ⟨k, rfl⟩ : ∃ m, k = m + 1 := ⟨k - 1, by omega⟩
    have e : i = l.length := by omega
    subst e
    simp only [laws_markIntS.l0]; rw [if_neg (by simp [marks])]
    simp
  | succ d ih =>
    intro k i h1 hd hk
    obtain ⟨k, rfl⟩ : ∃ m, k = m + 1 := ⟨k - 1, by omega⟩
    have hlen : ((marks a i ++ l.drop i).length : Int) = l.length := by simp [marks]; omega
    simp only [laws_markIntS.l0]; rw [if_pos (by omega), if_pos (by omega), show wrap64 ((i : Int) + 1) = ((i + 1 : Nat) : Int) by unfold wrap64; omega, Int.toNat_natCast, marks_take a l i (by omega), show wrap64 (a + (i : Int) + 1) = a + ((i + 1 : Nat) : Int) by unfold wrap64; omega]
    exact ih k (i + 1) (by omega) (by omega) (by omega)
theorem markIntS_eq (l : List Int) (a : Int) (ha : 0 ≤ a) (hn : l.length ≤ 1000000) (hb : a ≤ 1000000000000) : ∃ k, laws_markIntS.f k l a = some (a + (l.length : Int), marks a l.length) := by
  refine ⟨l.length + 1, ?_⟩
  unfold laws_markIntS.f
  have h := markIntS_l0 l a ha hn hb l.length (l.length + 1) 0 (by omega) (by omega) (by omega)
  simpa [marks] using h
def ivM (a : Int) (i : Nat) : S92 := ⟨(⟨a + 4 * (i : Int), a + 4 * (i : Int) + 1⟩ : S44), (⟨a + 4 * (i : Int) + 2, a + 4 * (i : Int) + 3⟩ : S44)⟩
def marksV (a : Int) (n : Nat) : List S92 := (List.range n).map (ivM a)
theorem marksV_length (a : Int) (n : Nat) : (marksV a n).length = n := by simp [marksV]
theorem marksV_take (a : Int) (l : List S92) (i : Nat) (h : i < l.length) : (marksV a i ++ l.drop i).set i (ivM a i) = marksV a (i + 1) ++ l.drop (i + 1) := by
  have h1 : l.drop i = l[i] :: l.drop (i + 1) := (List.drop_eq_getElem_cons h)
  rw [h1, List.set_append_right _ _ (by simp [marksV])]
  have h2 : i - (marksV a i).length = 0 := by simp [marksV]
  rw [h2, List.set_cons_zero]
  have h3 : marksV a (i + 1) = marksV a i ++ [ivM a i] := by simp [marksV, List.range_succ]
  rw [h3, List.append_assoc]
  rfl
theorem rdV_set (xs : List S92) (i : Nat) (v : S92) (h : i < xs.length) : rd_T92 (xs.set i v) (i : Int) = v := by simp [rd_T92, h]
theorem markV_step (k : Nat) (xs : List S92) (i : Nat) (a : Int) (h : i < xs.length) (hn : xs.length ≤ 1000000) (ha : 0 ≤ a) (hb : a ≤ 2000000000000) :
    laws_markIntervalS.l0 (k + 1) xs a (i : Int) = laws_markIntervalS.l0 k (xs.set i (⟨(⟨a, a + 1⟩ : S44), (⟨a + 2, a + 3⟩ : S44)⟩ : S92)) (a + 4) ((i + 1 : Nat) : Int) := by
  have c1 : (i : Int) < (xs.length : Int) := by omega
  have c2 : (0 : Int) ≤ (i : Int) := by omega
  have e1 : wrap64 (a + 1) = a + 1 := by unfold wrap64; omega
  have e2 : wrap64 (a + 1 + 1) = a + 2 := by unfold wrap64; omega
  have e3 : wrap64 (a + 2 + 1) = a + 3 := by unfold wrap64; omega
  have e4 : wrap64 (a + 3 + 1) = a + 4 := by unfold wrap64; omega
  have e5 : wrap64 ((i : Int) + 1) = ((i + 1 : Nat) : Int) := by unfold wrap64; omega
  conv => lhs; simp only [laws_markIntervalS.l0]
  rw [if_pos c1, if_pos c2, e1, e2, e3, e4, e5]
  simp only [Option.bind_some, Int.toNat_natCast, rdV_set xs i _ h, List.set_set]
theorem markIntervalS_l0 (l : List S92) (a : Int) (ha : 0 ≤ a) (hn : l.length ≤ 1000000) (hb : a ≤ 1000000000000) (d : Nat) : ∀ (k i : Nat), i ≤ l.length → l.length - i = d → d < k → laws_markIntervalS.l0 k (marksV a i ++ l.drop i) (a + 4 * (i : Int)) (i : Int) = some (a + 4 * (l.length : Int), marksV a l.length) := by
  induction d with
  | zero =>
    intro k i h1 hd hk
    obtain ⟨k, rfl⟩ : ∃ m, k = m + 1 := ⟨k - 1, by omega⟩
    have e : i = l.length := by omega
    subst e
    simp only [laws_markIntervalS.l0]; rw [if_neg (by simp [marksV])]
    simp
  | succ d ih =>
    intro k i h1 hd hk
    obtain ⟨k, rfl⟩ : ∃ m, k = m + 1 := ⟨k - 1, by omega⟩
    have hlen : (marksV a i ++ l.drop i).length = l.length := by simp [marksV]; omega
    rw [markV_step k _ i _ (by omega) (by omega) (by omega) (by omega)]
    have hs := marksV_take a l i (by omega)
    unfold ivM at hs
    rw [hs, show a + 4 * (i : Int) + 4 = a + 4 * ((i + 1 : Nat) : Int) by omega]
    exact ih k (i + 1) (by omega) (by omega) (by omega)
theorem markIntervalS_eq (l : List S92) (a : Int) (ha : 0 ≤ a) (hn : l.length ≤ 1000000) (hb : a ≤ 1000000000000) : ∃ k, laws_markIntervalS.f k l a = some (a + 4 * (l.length : Int), marksV a l.length) := by
  refine ⟨l.length + 1, ?_⟩
  unfold laws_markIntervalS.f
  have h := markIntervalS_l0 l a ha hn hb l.length (l.length + 1) 0 (by omega) (by omega) (by omega)
  simpa [marksV] using h
theorem heldIntervalS_l0 (n : Nat) (a : Int) (ha : 0 ≤ a) (hn : n ≤ 1000000) (hb : a ≤ 1000000000000) (d : Nat) : ∀ (k i : Nat), i ≤ n → n - i = d → d < k → laws_heldIntervalS.l0 k (marksV a n) (a + 4 * (i : Int)) (i : Int) = some (a + 4 * (n : Int)) := by
  induction d with
  | zero =>
    intro k i h1 hd hk
    obtain ⟨k, rfl⟩ : ∃ m, k = m + 1 := ⟨k - 1, by omega⟩
    have e : i = n := by omega
    subst e
    simp only [laws_heldIntervalS.l0]; rw [if_neg (by simp [marksV])]
  | succ d ih =>
    intro k i h1 hd hk
    obtain ⟨k, rfl⟩ : ∃ m, k = m + 1 := ⟨k - 1, by omega⟩
    have hlt : i < n := by omega
    have hrd : rd_T92 (marksV a n) (i : Int) = ivM a i := by simp [rd_T92, marksV, hlt]
    have c1 : (i : Int) < ((marksV a n).length : Int) := by rw [marksV_length]; omega
    have c2 : (0 : Int) ≤ (i : Int) := by omega
    have hm := ih k (i + 1) (by omega) (by omega) (by omega)
    obtain ⟨m, hmm⟩ : ∃ m : Int, a + 4 * (i : Int) = m := ⟨_, rfl⟩
    have e1 : wrap64 (m + 1) = m + 1 := by unfold wrap64; omega
    have e2 : wrap64 (m + 1 + 1) = m + 2 := by unfold wrap64; omega
    have e3 : wrap64 (m + 2 + 1) = m + 3 := by unfold wrap64; omega
    have e4 : wrap64 (m + 3 + 1) = m + 4 := by unfold wrap64; omega
    have e5 : wrap64 ((i : Int) + 1) = ((i + 1 : Nat) : Int) := by unfold wrap64; omega
    rw [show a + 4 * ((i + 1 : Nat) : Int) = m + 4 by omega] at hm
    simp only [laws_heldIntervalS.l0]
    rw [if_pos c1, if_pos c2, hrd, hmm]
    unfold ivM
    rw [hmm, e1, e2, e3, e4, e5, if_pos rfl, if_pos rfl, if_pos rfl, if_pos rfl]
    exact hm
theorem heldIntervalS_eq (n : Nat) (a : Int) (ha : 0 ≤ a) (hn : n ≤ 1000000) (hb : a ≤ 1000000000000) : ∃ k, laws_heldIntervalS.f k (marksV a n) a = some (a + 4 * (n : Int)) := by
  refine ⟨n + 1, ?_⟩
  unfold laws_heldIntervalS.f
  have h := heldIntervalS_l0 n a ha hn hb n (n + 1) 0 (by omega) (by omega) (by omega)
  simpa using h
theorem heldV_calls (k : Nat) (A0 : Option Addr) (c0 n : Nat) (a q : Int) (w : World) (hr : Kd.C k92 w A0 (marksV a n).length (marksV a n)) (hc : n ≤ c0) (h : laws_heldIntervalS.f k (marksV a n) a = some q) :
    Calls Try.prog 24 #[.slice A0 n c0, .int .i64 a] w fun e w' => e = .returned (.int .i64 q) ∧ Drawn0 w w' := by
  have h2 := laws_heldIntervalS.calls k A0 c0 (marksV a n) a q w hr (by rw [marksV_length]; exact hc) h
  rw [marksV_length] at h2
  exact h2
theorem eqIv_self (x : S92) : laws_eqInterval.f x.f0.f0 x.f0.f1 x.f1.f0 x.f1.f1 x.f0.f0 x.f0.f1 x.f1.f0 x.f1.f1 = some true := by
  simp [laws_eqInterval.f, laws_eqDyadic.f]
theorem eqIntervalS_loop (l : List S92) (hn : l.length ≤ 1000000) (d : Nat) : ∀ (k i : Nat), i ≤ l.length → l.length - i = d → d < k → laws_eqIntervalS.l0 k l l (i : Int) = some true := by
  induction d with
  | zero =>
    intro k i h1 hd hk
    obtain ⟨k, rfl⟩ : ∃ m, k = m + 1 := ⟨k - 1, by omega⟩
    simp only [laws_eqIntervalS.l0]; rw [if_neg (by omega)]
  | succ d ih =>
    intro k i h1 hd hk
    obtain ⟨k, rfl⟩ : ∃ m, k = m + 1 := ⟨k - 1, by omega⟩
    simp only [laws_eqIntervalS.l0]
    rw [if_pos (by omega), if_pos (by omega), if_pos (by omega), eqIv_self, Option.bind_some, if_pos rfl, show wrap64 ((i : Int) + 1) = ((i + 1 : Nat) : Int) by unfold wrap64; omega]
    exact ih k (i + 1) (by omega) (by omega) (by omega)
theorem eqIntervalS_self (l : List S92) (hn : l.length ≤ 1000000) : laws_eqIntervalS.f (l.length + 1) l l = some true := by
  unfold laws_eqIntervalS.f
  rw [if_pos rfl]
  exact eqIntervalS_loop l hn l.length (l.length + 1) 0 (by omega) (by omega) (by omega)
theorem markIntS_up {k : Nat} {l y : List Int} {a r : Int} (h : laws_markIntS.f k l a = some (r, y)) (d : Nat) : laws_markIntS.f (k + d) l a = some (r, y) := by
  induction d with
  | zero => exact h
  | succ d ih => exact laws_markIntS.mono _ _ _ _ ih
theorem markBox_eq (a0 : Int) (l1 l2 : List Int) (a : Int) (ha : 0 ≤ a) (h1 : l1.length ≤ 1000000) (h2 : l2.length ≤ 1000000) (hb : a ≤ 1000000000) : ∃ k y1 y2, laws_markBox.f k a0 l1 l2 a = some (a + (l1.length : Int) + (l2.length : Int), y1, y2) := by
  obtain ⟨k1, e1⟩ := markIntS_eq l1 a ha h1 (by omega)
  obtain ⟨k2, e2⟩ := markIntS_eq l2 (a + (l1.length : Int)) (by omega) h2 (by omega)
  refine ⟨k1 + k2, marks a l1.length, marks (a + (l1.length : Int)) l2.length, ?_⟩
  unfold laws_markBox.f
  rw [markIntS_up e1 k2, Option.bind_some, Nat.add_comm k1 k2]
  show (laws_markIntS.f (k2 + k1) l2 (a + (l1.length : Int))).bind _ = _
  rw [markIntS_up e2 k1]
  rfl
theorem row_own {W : World} {b e g n : Nat} {ok : Nat → Prop} {xs : List Int} (h : Kd.R (Kd.int .i64) e W b ok (.slice (some ⟨g, 0, none⟩) n n) xs) : ok g := h.1 g rfl
theorem row_tight {W : World} {b e g n c : Nat} {ok : Nat → Prop} {xs : List Int} (h : Kd.R (Kd.int .i64) e W b ok (.slice (some ⟨g, 0, none⟩) n c) xs) : Kd.R (Kd.int .i64) e W b (fun k_ => k_ = g) (.slice (some ⟨g, 0, none⟩) n c) xs := by
  refine Kd.R_mono (Kd.R_tight rfl h) ?_
  intro k hk
  simpa [Value.ownBlock] using hk
theorem markBox_two (km : Nat) (a0 : Int) (g1 g2 a b : Nat) (l1 l2 y1 y2 : List Int) (k m : Int) (w W : World) (hB : Below w.heap.size w W) (hne : g1 ≠ g2)
    (h1 : Kd.R (Kd.int .i64) 3 W w.heap.size (fun k => a ≤ k ∧ k < b) (.slice (some ⟨g1, 0, none⟩) (pad l1).length (pad l1).length) (pad l1))
    (h2 : Kd.R (Kd.int .i64) 3 W w.heap.size (fun k => a ≤ k ∧ k < b) (.slice (some ⟨g2, 0, none⟩) (pad l2).length (pad l2).length) (pad l2)) (h : laws_markBox.f km a0 l1 l2 k = some (m, y1, y2)) :
    Calls Try.prog 22 #[.agg #[.int .i64 a0, .slice (some ⟨g1, 0, none⟩) l1.length (pad l1).length, .slice (some ⟨g2, 0, none⟩) l2.length (pad l2).length], .int .i64 k] W fun e w' => e = .returned (.int .i64 m) ∧ Below w.heap.size w w' ∧ Kept W w' (fun k => a ≤ k ∧ k < b) := by
  have o1 := row_own h1
  have o2 := row_own h2
  refine (laws_markBox.calls km a0 (fun k_ => k_ = g1) _ l1 (fun k_ => k_ = g2) _ l2 k m y1 y2 w W hB (row_tight (pad_seen h1)) (fun k_ e1 e2 => hne (e1.symm.trans e2)) (row_tight (pad_seen h2)) (fun k_ e1 e2 => hne (e2.symm.trans e1)) h).mono ?_
  rintro e w' ⟨he, _, _, hb, hk⟩
  exact ⟨he, hb, hk.mono (fun k_ hk_ => hk_.elim (fun e_ => by rw [e_]; exact o1) (fun e_ => by rw [e_]; exact o2))⟩
set_option maxHeartbeats 8000000 in
set_option maxRecDepth 100000 in
theorem law_walk (a0 : Int) (A0_1 : Option Addr) (c0_1 : Nat) (l0_1 : List Int) (A0_2 : Option Addr) (c0_2 : Nat) (l0_2 : List Int)   (kb0 : Nat) (w : World) (hr0_1 : Kd.C (Kd.int .i64) w A0_1 l0_1.length l0_1) (hc0_1 : l0_1.length ≤ c0_1) (hr0_2 : Kd.C (Kd.int .i64) w A0_2 l0_2.length l0_2) (hc0_2 : l0_2.length ≤ c0_2)    (hba0 : laws_toBox.f kb0 a0 l0_1 l0_2 true = some (a0, l0_1, l0_2)) (hn : l0_1.length + l0_2.length ≤ 1000000) (ks ki : Nat) (r1 : List S92) (r2 : Bool) (hs : spec_SidesOver.f ks a0 l0_1 l0_2 = some (r1, r2)) (hi : impl_SidesOver.f ki a0 l0_1 l0_2 = some (r1, r2)) (hg : r1.length ≤ 1000000) :
    Calls Try.prog 4 #[.agg #[.int .i64 a0, .slice A0_1 l0_1.length c0_1, .slice A0_2 l0_2.length c0_2]] w fun e w' => e = .returned (.bool true) ∧ Below w.heap.size w w' := by
  have HR0_1 := Aside0.mk hr0_1
  have HC0_1 := Aside0.mk hc0_1
  have hm0_1 := hr0_1.2.1
  have HR0_2 := Aside0.mk hr0_2
  have HC0_2 := Aside0.mk hc0_2
  have hm0_2 := hr0_2.2.1
  have HN0_1 : Aside0 (l0_1.length ≤ 1000000) := ⟨by omega⟩
  have HP0_1 : Aside0 (∃ f, pad l0_1 = l0_1 ++ f) := ⟨_, rfl⟩
  have HN0_2 : Aside0 (l0_2.length ≤ 1000000) := ⟨by omega⟩
  have HP0_2 : Aside0 (∃ f, pad l0_2 = l0_2 ++ f) := ⟨_, rfl⟩
  have HBA0 := Aside0.mk hba0
  obtain ⟨s0, hs0⟩ : ∃ s : Int, s = (1000000 : Int) - (l0_1.length : Int) - (l0_2.length : Int) := ⟨_, rfl⟩
  have hzs0 : laws_szBox.f a0 l0_1 l0_2 1000000 = some s0 := by unfold laws_szBox.f; unfold laws_szIntS.f; (by_cases hA_ : wrap64 (1000000 - (l0_1.length : Int)) < 0 <;> by_cases hB_ : wrap64 (wrap64 (1000000 - (l0_1.length : Int)) - (l0_2.length : Int)) < 0 <;> simp [hA_, hB_] <;> (unfold wrap64 at *; omega))
  have HSZ0 := Aside0.mk hzs0
  have cs0 : decide (s0 < 0) = false := decide_eq_false (by omega)
  have HS := Aside0.mk hs
  have HI := Aside0.mk hi
  have HE := Aside0.mk (eqIntervalS_self r1 hg)
  obtain ⟨kg, hgm⟩ := markIntervalS_eq r1 101 (by omega) hg (by omega)
  obtain ⟨kh, hh⟩ := heldIntervalS_eq r1.length 101 (by omega) hg (by omega)
  obtain ⟨mg, hmg⟩ : ∃ m : Int, m = 101 + 4 * (r1.length : Int) := ⟨_, rfl⟩
  rw [← hmg] at hgm hh
  have HG := Aside0.mk hgm
  have HH := Aside0.mk hh
  have cmg : decide (mg < 0) = false := decide_eq_false (by omega)
  obtain ⟨kmB, yB1, yB2, hmB⟩ := markBox_eq a0 l0_1 l0_2 (101) (by omega) (by omega) (by omega) (by omega)
  obtain ⟨mB, hmBv⟩ : ∃ m : Int, m = 101 + (l0_1.length : Int) + (l0_2.length : Int) := ⟨_, rfl⟩
  rw [← hmBv] at hmB
  have HMB := Aside0.mk hmB
  have cmB : decide (mB < 0) = false := decide_eq_false (by omega)
  have HB := Aside0.mk (Below.refl w.heap.size w)
  have Z := Aside0.mk (Nat.zero_le w.heap.size)
  clear hs hi hr0_1 hc0_1 hr0_2 hc0_2 hba0 hs0 hzs0 hgm hh hmg hmB hmBv hg hn hm0_1 hm0_2
  go_enter Try.func4, Try.ntmps4
  go_wp2_with (first
    | ((with_reducible refine gate_dst (N := 1) rfl ?_); refine box_event ?hg (N := 1) ?hd (cs := #[.int .i64 a0, .slice A0_1 l0_1.length c0_1, .slice A0_2 l0_2.length c0_2]) (t := 31) ?hr ?_; (case hd => rfl); (case hg => rfl); (case hr => first | (go_simp; done) | (go_simp; rfl)); intro gb1_ hg w1_ hbox hb; obtain ⟨z2_, z4_⟩ := still (by exact Z.out) (by repeat (first | (with_reducible first | exact HB.out | apply below_alloc | apply pw_below_drewN | apply below_drew1) | exact HB.out)) hb; have GB1 : Aside0 (0 ≤ gb1_) := ⟨by rw [hg]; exact Z.out⟩; have zb_ : gb1_ + 1 ≤ w1_.heap.size := blk_lt hbox; have BK1 := Aside0.mk hbox; clear HB Z; have HB := Aside0.mk z4_; have Z := Aside0.mk zb_; clear z2_ z4_ zb_ hb hg hbox; have hcz2_BK1_0 : w1_.cell? ⟨gb1_, 0, none⟩ = some (.int .i64 a0) := (blk_cell BK1.out 0).trans rfl; have hfz2_BK1_0 := blk_frozen BK1.out 0; have hcz2_BK1_1 : w1_.cell? ⟨gb1_, 1, none⟩ = some (.slice A0_1 l0_1.length c0_1) := (blk_cell BK1.out 1).trans rfl; have hfz2_BK1_1 := blk_frozen BK1.out 1; have hcz2_BK1_2 : w1_.cell? ⟨gb1_, 2, none⟩ = some (.slice A0_2 l0_2.length c0_2) := (blk_cell BK1.out 2).trans rfl; have hfz2_BK1_2 := blk_frozen BK1.out 2)
    | ((with_reducible refine gate_callee (f := 16) rfl ?_); refine goesL_ (some 16) rfl rfl Try.func16 (by kernel_rfl) rfl #[.agg #[.int .i64 a0, .slice A0_1 l0_1.length c0_1, .slice A0_2 l0_2.length c0_2], .int .i64 1000000] rfl (by (try simp only [List.map_toArray, List.map_cons, List.map_nil]); first | done | rfl | (simp only [List.length_drop, List.length_take]; rfl)) ?_; (with_reducible refine (laws_szBox.calls a0 _ _ l0_1 _ _ l0_2 1000000 s0 _ ?side1 ?side2 ?side3 ?side4 HSZ0.out).mono ?_); (case side1 => repeat (first | exact HR0_1.out | exact (Kd.C_below HR0_1.out (by repeat (first | (with_reducible first | exact HB.out | apply below_alloc | apply pw_below_drewN | apply below_drew1) | exact HB.out))) | (with_reducible refine Kd.C_alloc ?_ _) | (with_reducible refine Kd.C_drewN ?_ _) | (with_reducible refine Kd.C_drew ?_))); (case side2 => exact HC0_1.out); (case side3 => repeat (first | exact HR0_2.out | exact (Kd.C_below HR0_2.out (by repeat (first | (with_reducible first | exact HB.out | apply below_alloc | apply pw_below_drewN | apply below_drew1) | exact HB.out))) | (with_reducible refine Kd.C_alloc ?_ _) | (with_reducible refine Kd.C_drewN ?_ _) | (with_reducible refine Kd.C_drew ?_))); (case side4 => exact HC0_2.out); rintro e w3_ ⟨rfl, hb⟩; refine ⟨_, rfl, ?_⟩; obtain ⟨z2_, z4_⟩ := still (by exact Z.out) (by repeat (first | (with_reducible first | exact HB.out | apply below_alloc | apply pw_below_drewN | apply below_drew1) | exact HB.out)) hb; have nBK1_ := Aside0.mk (blk_below (g := gb1_) (o := .cells #[.int .i64 a0, .slice A0_1 l0_1.length c0_1, .slice A0_2 l0_2.length c0_2] 31 (0, 0)) (by (with_reducible repeat (first | refine blk_drewN ?_ _ | refine blk_drew ?_ | refine blk_alloc ?_ _)); exact BK1.out) hb); clear BK1 HB Z; have BK1 := nBK1_; clear nBK1_; have HB := Aside0.mk z4_; have Z := Aside0.mk z2_; clear z2_ z4_ hb; (try clear hcz2_BK1_0 hfz2_BK1_0 hcz2_BK1_1 hfz2_BK1_1 hcz2_BK1_2 hfz2_BK1_2); have hcz4_BK1_0 : w3_.cell? ⟨gb1_, 0, none⟩ = some (.int .i64 a0) := (blk_cell BK1.out 0).trans rfl; have hfz4_BK1_0 := blk_frozen BK1.out 0; have hcz4_BK1_1 : w3_.cell? ⟨gb1_, 1, none⟩ = some (.slice A0_1 l0_1.length c0_1) := (blk_cell BK1.out 1).trans rfl; have hfz4_BK1_1 := blk_frozen BK1.out 1; have hcz4_BK1_2 : w3_.cell? ⟨gb1_, 2, none⟩ = some (.slice A0_2 l0_2.length c0_2) := (blk_cell BK1.out 2).trans rfl; have hfz4_BK1_2 := blk_frozen BK1.out 2)
    | ((with_reducible refine gate_callee (f := 18) rfl ?_); refine goesL_ (some 21) rfl rfl Try.func18 (by kernel_rfl) rfl #[.agg #[.int .i64 a0, .slice A0_1 l0_1.length c0_1, .slice A0_2 l0_2.length c0_2], .bool false] rfl (by (try simp only [List.map_toArray, List.map_cons, List.map_nil]); first | done | rfl | (simp only [List.length_drop, List.length_take]; rfl)) ?_; (with_reducible refine (toBox_pad a0 _ _ l0_1 _ _ l0_2 _ ?side1 ?side2 ?side3 ?side4 HN0_1.out HN0_2.out).mono ?_); (case side1 => repeat (first | exact HR0_1.out | exact (Kd.C_below HR0_1.out (by repeat (first | (with_reducible first | exact HB.out | apply below_alloc | apply pw_below_drewN | apply below_drew1) | exact HB.out))) | (with_reducible refine Kd.C_alloc ?_ _) | (with_reducible refine Kd.C_drewN ?_ _) | (with_reducible refine Kd.C_drew ?_))); (case side2 => exact HC0_1.out); (case side3 => repeat (first | exact HR0_2.out | exact (Kd.C_below HR0_2.out (by repeat (first | (with_reducible first | exact HB.out | apply below_alloc | apply pw_below_drewN | apply below_drew1) | exact HB.out))) | (with_reducible refine Kd.C_alloc ?_ _) | (with_reducible refine Kd.C_drewN ?_ _) | (with_reducible refine Kd.C_drew ?_))); (case side4 => exact HC0_2.out); rintro e w5_ ⟨g5_0_, g5_1_, rfl, ho0, ho1, hb⟩; refine ⟨_, rfl, ?_⟩; have NGg5_0_ : Aside0 (g5_0_ ≠ g5_1_) := ⟨ho0.1 _ rfl⟩; replace ho0 := Kd.R_mono ho0 (fun _ _ => True.intro); replace ho1 := Kd.R_mono ho1 (fun _ _ => True.intro); obtain ⟨a5_1_, b5_1_, z1_, z2_, zo0_, zo1_, z4_⟩ := made2 (by exact Z.out) (by repeat (first | (with_reducible first | exact HB.out | apply below_alloc | apply pw_below_drewN | apply below_drew1) | exact HB.out)) hb ho0 ho1; have nBK1_ := Aside0.mk (blk_below (g := gb1_) (o := .cells #[.int .i64 a0, .slice A0_1 l0_1.length c0_1, .slice A0_2 l0_2.length c0_2] 31 (0, 0)) (by (with_reducible repeat (first | refine blk_drewN ?_ _ | refine blk_drew ?_ | refine blk_alloc ?_ _)); exact BK1.out) hb); clear BK1 HB Z; have BK1 := nBK1_; clear nBK1_; have O5_0 := Aside0.mk zo0_; have O5_1 := Aside0.mk zo1_; have Q5_1 := Aside0.mk z1_; have HB := Aside0.mk z4_; have Z := Aside0.mk z2_; clear z1_ z2_ z4_ hb ho0 zo0_ ho1 zo1_; (try clear hcz4_BK1_0 hfz4_BK1_0 hcz4_BK1_1 hfz4_BK1_1 hcz4_BK1_2 hfz4_BK1_2); have hcz6_BK1_0 : w5_.cell? ⟨gb1_, 0, none⟩ = some (.int .i64 a0) := (blk_cell BK1.out 0).trans rfl; have hfz6_BK1_0 := blk_frozen BK1.out 0; have hcz6_BK1_1 : w5_.cell? ⟨gb1_, 1, none⟩ = some (.slice A0_1 l0_1.length c0_1) := (blk_cell BK1.out 1).trans rfl; have hfz6_BK1_1 := blk_frozen BK1.out 1; have hcz6_BK1_2 : w5_.cell? ⟨gb1_, 2, none⟩ = some (.slice A0_2 l0_2.length c0_2) := (blk_cell BK1.out 2).trans rfl; have hfz6_BK1_2 := blk_frozen BK1.out 2)
    | ((with_reducible refine gate_callee (f := 17) rfl ?_); refine goesL_ (some 22) rfl rfl Try.func17 (by kernel_rfl) rfl #[.agg #[.int .i64 a0, .slice (some ⟨g5_0_, 0, none⟩) l0_1.length (pad l0_1).length, .slice (some ⟨g5_1_, 0, none⟩) l0_2.length (pad l0_2).length]] rfl (by (try simp only [List.map_toArray, List.map_cons, List.map_nil]); first | done | rfl | (simp only [List.length_drop, List.length_take]; rfl)) ?_; (with_reducible refine (spec_SidesOver.calls ks a0 _ _ l0_1 _ _ l0_2 r1 r2 _ ?side1 ?side2 ?side3 ?side4 HS.out).mono ?_); (case side1 => repeat (first | exact pad_reads O5_0.out | (with_reducible refine Kd.C_alloc ?_ _) | (with_reducible refine Kd.C_drewN ?_ _) | (with_reducible refine Kd.C_drew ?_))); (case side2 => exact pad_le _); (case side3 => repeat (first | exact pad_reads O5_1.out | (with_reducible refine Kd.C_alloc ?_ _) | (with_reducible refine Kd.C_drewN ?_ _) | (with_reducible refine Kd.C_drew ?_))); (case side4 => exact pad_le _); rintro e w7_ ⟨v7_, rfl, ho0, hb⟩; refine ⟨_, rfl, ?_⟩; obtain ⟨a7_, b7_, z1_, z2_, z3_, z4_⟩ := made (by exact Z.out) (by repeat (first | (with_reducible first | exact HB.out | apply below_alloc | apply pw_below_drewN | apply below_drew1) | exact HB.out)) hb ho0; have nO5_0_ := Aside0.mk (Kd.R_below (by (with_reducible repeat (first | apply Kd.R_alloc | apply Kd.R_drewN | apply Kd.R_drew)); exact O5_0.out) hb); have nO5_1_ := Aside0.mk (Kd.R_below (by (with_reducible repeat (first | apply Kd.R_alloc | apply Kd.R_drewN | apply Kd.R_drew)); exact O5_1.out) hb); have nBK1_ := Aside0.mk (blk_below (g := gb1_) (o := .cells #[.int .i64 a0, .slice A0_1 l0_1.length c0_1, .slice A0_2 l0_2.length c0_2] 31 (0, 0)) (by (with_reducible repeat (first | refine blk_drewN ?_ _ | refine blk_drew ?_ | refine blk_alloc ?_ _)); exact BK1.out) hb); clear O5_0 O5_1 BK1 HB Z; have O5_0 := nO5_0_; have O5_1 := nO5_1_; have BK1 := nBK1_; clear nO5_0_ nO5_1_ nBK1_; have O7 := Aside0.mk z3_; have Q7 := Aside0.mk z1_; have HB := Aside0.mk z4_; have Z := Aside0.mk z2_; clear z1_ z2_ z3_ z4_ hb ho0; obtain ⟨A7_, c7_, e7_⟩ := Kd.R_slice O7.out; subst e7_; (try clear hcz6_BK1_0 hfz6_BK1_0 hcz6_BK1_1 hfz6_BK1_1 hcz6_BK1_2 hfz6_BK1_2); have hcz8_BK1_0 : w7_.cell? ⟨gb1_, 0, none⟩ = some (.int .i64 a0) := (blk_cell BK1.out 0).trans rfl; have hfz8_BK1_0 := blk_frozen BK1.out 0; have hcz8_BK1_1 : w7_.cell? ⟨gb1_, 1, none⟩ = some (.slice A0_1 l0_1.length c0_1) := (blk_cell BK1.out 1).trans rfl; have hfz8_BK1_1 := blk_frozen BK1.out 1; have hcz8_BK1_2 : w7_.cell? ⟨gb1_, 2, none⟩ = some (.slice A0_2 l0_2.length c0_2) := (blk_cell BK1.out 2).trans rfl; have hfz8_BK1_2 := blk_frozen BK1.out 2)
    | ((with_reducible refine gate_callee (f := 18) rfl ?_); refine goesL_ (some 26) rfl rfl Try.func18 (by kernel_rfl) rfl #[.agg #[.int .i64 a0, .slice A0_1 l0_1.length c0_1, .slice A0_2 l0_2.length c0_2], .bool false] rfl (by (try simp only [List.map_toArray, List.map_cons, List.map_nil]); first | done | rfl | (simp only [List.length_drop, List.length_take]; rfl)) ?_; (with_reducible refine (toBox_pad a0 _ _ l0_1 _ _ l0_2 _ ?side1 ?side2 ?side3 ?side4 HN0_1.out HN0_2.out).mono ?_); (case side1 => repeat (first | exact HR0_1.out | exact (Kd.C_below HR0_1.out (by repeat (first | (with_reducible first | exact HB.out | apply below_alloc | apply pw_below_drewN | apply below_drew1) | exact HB.out))) | (with_reducible refine Kd.C_alloc ?_ _) | (with_reducible refine Kd.C_drewN ?_ _) | (with_reducible refine Kd.C_drew ?_))); (case side2 => exact HC0_1.out); (case side3 => repeat (first | exact HR0_2.out | exact (Kd.C_below HR0_2.out (by repeat (first | (with_reducible first | exact HB.out | apply below_alloc | apply pw_below_drewN | apply below_drew1) | exact HB.out))) | (with_reducible refine Kd.C_alloc ?_ _) | (with_reducible refine Kd.C_drewN ?_ _) | (with_reducible refine Kd.C_drew ?_))); (case side4 => exact HC0_2.out); rintro e w9_ ⟨g9_0_, g9_1_, rfl, ho0, ho1, hb⟩; refine ⟨_, rfl, ?_⟩; have NGg9_0_ : Aside0 (g9_0_ ≠ g9_1_) := ⟨ho0.1 _ rfl⟩; replace ho0 := Kd.R_mono ho0 (fun _ _ => True.intro); replace ho1 := Kd.R_mono ho1 (fun _ _ => True.intro); obtain ⟨a9_1_, b9_1_, z1_, z2_, zo0_, zo1_, z4_⟩ := made2 (by exact Z.out) (by repeat (first | (with_reducible first | exact HB.out | apply below_alloc | apply pw_below_drewN | apply below_drew1) | exact HB.out)) hb ho0 ho1; have nO5_0_ := Aside0.mk (Kd.R_below (by (with_reducible repeat (first | apply Kd.R_alloc | apply Kd.R_drewN | apply Kd.R_drew)); exact O5_0.out) hb); have nO5_1_ := Aside0.mk (Kd.R_below (by (with_reducible repeat (first | apply Kd.R_alloc | apply Kd.R_drewN | apply Kd.R_drew)); exact O5_1.out) hb); have nO7_ := Aside0.mk (Kd.R_below (by (with_reducible repeat (first | apply Kd.R_alloc | apply Kd.R_drewN | apply Kd.R_drew)); exact O7.out) hb); have nBK1_ := Aside0.mk (blk_below (g := gb1_) (o := .cells #[.int .i64 a0, .slice A0_1 l0_1.length c0_1, .slice A0_2 l0_2.length c0_2] 31 (0, 0)) (by (with_reducible repeat (first | refine blk_drewN ?_ _ | refine blk_drew ?_ | refine blk_alloc ?_ _)); exact BK1.out) hb); clear O5_0 O5_1 O7 BK1 HB Z; have O5_0 := nO5_0_; have O5_1 := nO5_1_; have O7 := nO7_; have BK1 := nBK1_; clear nO5_0_ nO5_1_ nO7_ nBK1_; have O9_0 := Aside0.mk zo0_; have O9_1 := Aside0.mk zo1_; have Q9_1 := Aside0.mk z1_; have HB := Aside0.mk z4_; have Z := Aside0.mk z2_; clear z1_ z2_ z4_ hb ho0 zo0_ ho1 zo1_; (try clear hcz8_BK1_0 hfz8_BK1_0 hcz8_BK1_1 hfz8_BK1_1 hcz8_BK1_2 hfz8_BK1_2); have hcz10_BK1_0 : w9_.cell? ⟨gb1_, 0, none⟩ = some (.int .i64 a0) := (blk_cell BK1.out 0).trans rfl; have hfz10_BK1_0 := blk_frozen BK1.out 0; have hcz10_BK1_1 : w9_.cell? ⟨gb1_, 1, none⟩ = some (.slice A0_1 l0_1.length c0_1) := (blk_cell BK1.out 1).trans rfl; have hfz10_BK1_1 := blk_frozen BK1.out 1; have hcz10_BK1_2 : w9_.cell? ⟨gb1_, 2, none⟩ = some (.slice A0_2 l0_2.length c0_2) := (blk_cell BK1.out 2).trans rfl; have hfz10_BK1_2 := blk_frozen BK1.out 2)
    | ((with_reducible refine gate_dst (N := 6) rfl ?_); refine box_event ?hg (N := 6) ?hd (cs := #[.int .i64 0, .slice none 0 0, .slice none 0 0]) (t := 36) ?hr ?_; (case hd => rfl); (case hg => rfl); (case hr => first | (go_simp; done) | (go_simp; rfl)); intro gb11_ hg w11_ hbox hb; obtain ⟨z2_, z4_⟩ := still (by exact Z.out) (by repeat (first | (with_reducible first | exact HB.out | apply below_alloc | apply pw_below_drewN | apply below_drew1) | exact HB.out)) hb; have GB11 : Aside0 (b9_1_ ≤ gb11_) := ⟨by rw [hg]; exact Z.out⟩; have GE11 : Aside0 (w.heap.size ≤ gb11_) := ⟨by rw [hg]; exact (below_size (by repeat (first | (with_reducible first | exact HB.out | apply below_alloc | apply pw_below_drewN | apply below_drew1) | exact HB.out)))⟩; have NBBK1_11 : Aside0 (gb1_ ≠ gb11_) := ⟨by rw [hg]; exact Nat.ne_of_lt (blk_lt (w := _) (o := .cells #[.int .i64 a0, .slice A0_1 l0_1.length c0_1, .slice A0_2 l0_2.length c0_2] 31 (0, 0)) (by (with_reducible repeat (first | refine blk_drewN ?_ _ | refine blk_drew ?_ | refine blk_alloc ?_ _)); exact BK1.out))⟩; have nO5_0_ := Aside0.mk (Kd.R_below (by (with_reducible repeat (first | apply Kd.R_alloc | apply Kd.R_drewN | apply Kd.R_drew)); exact O5_0.out) hb); have nO5_1_ := Aside0.mk (Kd.R_below (by (with_reducible repeat (first | apply Kd.R_alloc | apply Kd.R_drewN | apply Kd.R_drew)); exact O5_1.out) hb); have nO7_ := Aside0.mk (Kd.R_below (by (with_reducible repeat (first | apply Kd.R_alloc | apply Kd.R_drewN | apply Kd.R_drew)); exact O7.out) hb); have nO9_0_ := Aside0.mk (Kd.R_below (by (with_reducible repeat (first | apply Kd.R_alloc | apply Kd.R_drewN | apply Kd.R_drew)); exact O9_0.out) hb); have nO9_1_ := Aside0.mk (Kd.R_below (by (with_reducible repeat (first | apply Kd.R_alloc | apply Kd.R_drewN | apply Kd.R_drew)); exact O9_1.out) hb); have nBK1_ := Aside0.mk (blk_below (g := gb1_) (o := .cells #[.int .i64 a0, .slice A0_1 l0_1.length c0_1, .slice A0_2 l0_2.length c0_2] 31 (0, 0)) (by (with_reducible repeat (first | refine blk_drewN ?_ _ | refine blk_drew ?_ | refine blk_alloc ?_ _)); exact BK1.out) hb); have BK11 := Aside0.mk hbox; clear O5_0 O5_1 O7 O9_0 O9_1 BK1 HB Z; have O5_0 := nO5_0_; have O5_1 := nO5_1_; have O7 := nO7_; have O9_0 := nO9_0_; have O9_1 := nO9_1_; have BK1 := nBK1_; clear nO5_0_ nO5_1_ nO7_ nO9_0_ nO9_1_ nBK1_; have zb_ : gb11_ + 1 ≤ w11_.heap.size := blk_lt BK11.out; have HB := Aside0.mk z4_; have Z := Aside0.mk zb_; clear z2_ z4_ zb_ hb hg hbox; (try clear hcz10_BK1_0 hfz10_BK1_0 hcz10_BK1_1 hfz10_BK1_1 hcz10_BK1_2 hfz10_BK1_2); have hcz12_BK1_0 : w11_.cell? ⟨gb1_, 0, none⟩ = some (.int .i64 a0) := (blk_cell BK1.out 0).trans rfl; have hfz12_BK1_0 := blk_frozen BK1.out 0; have hcz12_BK1_1 : w11_.cell? ⟨gb1_, 1, none⟩ = some (.slice A0_1 l0_1.length c0_1) := (blk_cell BK1.out 1).trans rfl; have hfz12_BK1_1 := blk_frozen BK1.out 1; have hcz12_BK1_2 : w11_.cell? ⟨gb1_, 2, none⟩ = some (.slice A0_2 l0_2.length c0_2) := (blk_cell BK1.out 2).trans rfl; have hfz12_BK1_2 := blk_frozen BK1.out 2; have hcz12_BK11_0 : w11_.cell? ⟨gb11_, 0, none⟩ = some (.int .i64 0) := (blk_cell BK11.out 0).trans rfl; have hfz12_BK11_0 := blk_frozen BK11.out 0; have hcz12_BK11_1 : w11_.cell? ⟨gb11_, 1, none⟩ = some (.slice none 0 0) := (blk_cell BK11.out 1).trans rfl; have hfz12_BK11_1 := blk_frozen BK11.out 1; have hcz12_BK11_2 : w11_.cell? ⟨gb11_, 2, none⟩ = some (.slice none 0 0) := (blk_cell BK11.out 2).trans rfl; have hfz12_BK11_2 := blk_frozen BK11.out 2)
    | ((with_reducible refine gate_store (t := 36) (p := 6) rfl ?_); refine store_event (t := 36) (p := 6) (v := ?vo_w13_) (w1 := (((w11_.setCell ⟨gb11_, 0, none⟩ (.int .i64 a0)).setCell ⟨gb11_, 1, none⟩ (.slice (some ⟨g9_0_, 0, none⟩) l0_1.length (pad l0_1).length)).setCell ⟨gb11_, 2, none⟩ (.slice (some ⟨g9_1_, 0, none⟩) l0_2.length (pad l0_2).length))) ?hg ?ho ?hn ?hr ?_; (case ho => rfl); (case hg => rfl); (case hn => rfl); (case hr => first | (go_simp; done) | (go_simp; rfl)); intro w13_ hw; have hk := (((Kept.refl w11_ (fun k_ => k_ = gb11_)).setCell (p := ⟨gb11_, 0, none⟩) (.inl rfl) (.int .i64 a0)).setCell (p := ⟨gb11_, 1, none⟩) (.inl rfl) (.slice (some ⟨g9_0_, 0, none⟩) l0_1.length (pad l0_1).length)).setCell (p := ⟨gb11_, 2, none⟩) (.inl rfl) (.slice (some ⟨g9_1_, 0, none⟩) l0_2.length (pad l0_2).length); rw [← hw] at hk; have nO5_0_ := Aside0.mk (Kd.R_kept (by (with_reducible repeat (first | apply Kd.R_alloc | apply Kd.R_drewN | apply Kd.R_drew)); exact O5_0.out) hk (fun k_ h1_ h2_ => by have := GB11.out; have := GB1.out; have := Q5_1.out; have := Q7.out; have := Q9_1.out; have := GB11.out; omega)); have nO5_1_ := Aside0.mk (Kd.R_kept (by (with_reducible repeat (first | apply Kd.R_alloc | apply Kd.R_drewN | apply Kd.R_drew)); exact O5_1.out) hk (fun k_ h1_ h2_ => by have := GB11.out; have := GB1.out; have := Q5_1.out; have := Q7.out; have := Q9_1.out; have := GB11.out; omega)); have nO7_ := Aside0.mk (Kd.R_kept (by (with_reducible repeat (first | apply Kd.R_alloc | apply Kd.R_drewN | apply Kd.R_drew)); exact O7.out) hk (fun k_ h1_ h2_ => by have := GB11.out; have := GB1.out; have := Q5_1.out; have := Q7.out; have := Q9_1.out; have := GB11.out; omega)); have nO9_0_ := Aside0.mk (Kd.R_kept (by (with_reducible repeat (first | apply Kd.R_alloc | apply Kd.R_drewN | apply Kd.R_drew)); exact O9_0.out) hk (fun k_ h1_ h2_ => by have := GB11.out; have := GB1.out; have := Q5_1.out; have := Q7.out; have := Q9_1.out; have := GB11.out; omega)); have nO9_1_ := Aside0.mk (Kd.R_kept (by (with_reducible repeat (first | apply Kd.R_alloc | apply Kd.R_drewN | apply Kd.R_drew)); exact O9_1.out) hk (fun k_ h1_ h2_ => by have := GB11.out; have := GB1.out; have := Q5_1.out; have := Q7.out; have := Q9_1.out; have := GB11.out; omega)); have nBK1_ : Aside0 (w13_.heap[gb1_]? = some (.cells #[.int .i64 a0, .slice A0_1 l0_1.length c0_1, .slice A0_2 l0_2.length c0_2] 31 (0, 0))) := ⟨by rw [hw]; exact (blk_far (blk_far (blk_far BK1.out (p := ⟨gb11_, 0, none⟩) NBBK1_11.out _) (p := ⟨gb11_, 1, none⟩) NBBK1_11.out _) (p := ⟨gb11_, 2, none⟩) NBBK1_11.out _)⟩; have nBK11_ : Aside0 (w13_.heap[gb11_]? = some (.cells #[.int .i64 a0, .slice (some ⟨g9_0_, 0, none⟩) l0_1.length (pad l0_1).length, .slice (some ⟨g9_1_, 0, none⟩) l0_2.length (pad l0_2).length] 36 (0, 0))) := ⟨by rw [hw]; exact (blk_put (cs' := #[.int .i64 a0, .slice (some ⟨g9_0_, 0, none⟩) l0_1.length (pad l0_1).length, .slice (some ⟨g9_1_, 0, none⟩) l0_2.length (pad l0_2).length]) (blk_put (cs' := #[.int .i64 a0, .slice (some ⟨g9_0_, 0, none⟩) l0_1.length (pad l0_1).length, .slice none 0 0]) (blk_put (cs' := #[.int .i64 a0, .slice none 0 0, .slice none 0 0]) BK11.out 0 (.int .i64 a0) rfl) 1 (.slice (some ⟨g9_0_, 0, none⟩) l0_1.length (pad l0_1).length) rfl) 2 (.slice (some ⟨g9_1_, 0, none⟩) l0_2.length (pad l0_2).length) rfl)⟩; have z2_ := Aside0.mk (Nat.le_trans (by exact Z.out) hk.1); have z4_ : Aside0 (Below w.heap.size w w13_) := ⟨by rw [hw]; exact (below_set (below_set (below_set HB.out GE11.out) GE11.out) GE11.out)⟩; clear O5_0 O5_1 O7 O9_0 O9_1 BK1 BK11 HB Z; have O5_0 := nO5_0_; have O5_1 := nO5_1_; have O7 := nO7_; have O9_0 := nO9_0_; have O9_1 := nO9_1_; have BK1 := nBK1_; have BK11 := nBK11_; have HB := z4_; have Z := z2_; clear nO5_0_ nO5_1_ nO7_ nO9_0_ nO9_1_ nBK1_ nBK11_ z2_ z4_ hk hw; (try clear hcz12_BK1_0 hfz12_BK1_0 hcz12_BK1_1 hfz12_BK1_1 hcz12_BK1_2 hfz12_BK1_2 hcz12_BK11_0 hfz12_BK11_0 hcz12_BK11_1 hfz12_BK11_1 hcz12_BK11_2 hfz12_BK11_2); have hcz14_BK1_0 : w13_.cell? ⟨gb1_, 0, none⟩ = some (.int .i64 a0) := (blk_cell BK1.out 0).trans rfl; have hfz14_BK1_0 := blk_frozen BK1.out 0; have hcz14_BK1_1 : w13_.cell? ⟨gb1_, 1, none⟩ = some (.slice A0_1 l0_1.length c0_1) := (blk_cell BK1.out 1).trans rfl; have hfz14_BK1_1 := blk_frozen BK1.out 1; have hcz14_BK1_2 : w13_.cell? ⟨gb1_, 2, none⟩ = some (.slice A0_2 l0_2.length c0_2) := (blk_cell BK1.out 2).trans rfl; have hfz14_BK1_2 := blk_frozen BK1.out 2; have hcz14_BK11_0 : w13_.cell? ⟨gb11_, 0, none⟩ = some (.int .i64 a0) := (blk_cell BK11.out 0).trans rfl; have hfz14_BK11_0 := blk_frozen BK11.out 0; have hcz14_BK11_1 : w13_.cell? ⟨gb11_, 1, none⟩ = some (.slice (some ⟨g9_0_, 0, none⟩) l0_1.length (pad l0_1).length) := (blk_cell BK11.out 1).trans rfl; have hfz14_BK11_1 := blk_frozen BK11.out 1; have hcz14_BK11_2 : w13_.cell? ⟨gb11_, 2, none⟩ = some (.slice (some ⟨g9_1_, 0, none⟩) l0_2.length (pad l0_2).length) := (blk_cell BK11.out 2).trans rfl; have hfz14_BK11_2 := blk_frozen BK11.out 2)
    | ((with_reducible refine gate_callee (f := 19) rfl ?_); refine goesL_ (some 29) rfl rfl Try.func19 (by kernel_rfl) rfl #[.agg #[.int .i64 a0, .slice (some ⟨g9_0_, 0, none⟩) l0_1.length (pad l0_1).length, .slice (some ⟨g9_1_, 0, none⟩) l0_2.length (pad l0_2).length]] rfl (by (try simp only [List.map_toArray, List.map_cons, List.map_nil]); first | done | rfl | (simp only [List.length_drop, List.length_take]; rfl)) ?_; (with_reducible refine (impl_SidesOver.calls ki a0 _ _ l0_1 _ _ l0_2 r1 r2 _ ?side1 ?side2 ?side3 ?side4 HI.out).mono ?_); (case side1 => repeat (first | exact pad_reads O9_0.out | (with_reducible refine Kd.C_alloc ?_ _) | (with_reducible refine Kd.C_drewN ?_ _) | (with_reducible refine Kd.C_drew ?_))); (case side2 => exact pad_le _); (case side3 => repeat (first | exact pad_reads O9_1.out | (with_reducible refine Kd.C_alloc ?_ _) | (with_reducible refine Kd.C_drewN ?_ _) | (with_reducible refine Kd.C_drew ?_))); (case side4 => exact pad_le _); rintro e w15_ ⟨v15_, rfl, ho0, hb⟩; refine ⟨_, rfl, ?_⟩; obtain ⟨a15_, b15_, z1_, z2_, z3_, z4_⟩ := made (by exact Z.out) (by repeat (first | (with_reducible first | exact HB.out | apply below_alloc | apply pw_below_drewN | apply below_drew1) | exact HB.out)) hb ho0; have nO5_0_ := Aside0.mk (Kd.R_below (by (with_reducible repeat (first | apply Kd.R_alloc | apply Kd.R_drewN | apply Kd.R_drew)); exact O5_0.out) hb); have nO5_1_ := Aside0.mk (Kd.R_below (by (with_reducible repeat (first | apply Kd.R_alloc | apply Kd.R_drewN | apply Kd.R_drew)); exact O5_1.out) hb); have nO7_ := Aside0.mk (Kd.R_below (by (with_reducible repeat (first | apply Kd.R_alloc | apply Kd.R_drewN | apply Kd.R_drew)); exact O7.out) hb); have nO9_0_ := Aside0.mk (Kd.R_below (by (with_reducible repeat (first | apply Kd.R_alloc | apply Kd.R_drewN | apply Kd.R_drew)); exact O9_0.out) hb); have nO9_1_ := Aside0.mk (Kd.R_below (by (with_reducible repeat (first | apply Kd.R_alloc | apply Kd.R_drewN | apply Kd.R_drew)); exact O9_1.out) hb); have nBK1_ := Aside0.mk (blk_below (g := gb1_) (o := .cells #[.int .i64 a0, .slice A0_1 l0_1.length c0_1, .slice A0_2 l0_2.length c0_2] 31 (0, 0)) (by (with_reducible repeat (first | refine blk_drewN ?_ _ | refine blk_drew ?_ | refine blk_alloc ?_ _)); exact BK1.out) hb); have nBK11_ := Aside0.mk (blk_below (g := gb11_) (o := .cells #[.int .i64 a0, .slice (some ⟨g9_0_, 0, none⟩) l0_1.length (pad l0_1).length, .slice (some ⟨g9_1_, 0, none⟩) l0_2.length (pad l0_2).length] 36 (0, 0)) (by (with_reducible repeat (first | refine blk_drewN ?_ _ | refine blk_drew ?_ | refine blk_alloc ?_ _)); exact BK11.out) hb); clear O5_0 O5_1 O7 O9_0 O9_1 BK1 BK11 HB Z; have O5_0 := nO5_0_; have O5_1 := nO5_1_; have O7 := nO7_; have O9_0 := nO9_0_; have O9_1 := nO9_1_; have BK1 := nBK1_; have BK11 := nBK11_; clear nO5_0_ nO5_1_ nO7_ nO9_0_ nO9_1_ nBK1_ nBK11_; have O15 := Aside0.mk z3_; have Q15 := Aside0.mk z1_; have HB := Aside0.mk z4_; have Z := Aside0.mk z2_; clear z1_ z2_ z3_ z4_ hb ho0; obtain ⟨A15_, c15_, e15_⟩ := Kd.R_slice O15.out; subst e15_; (try clear hcz14_BK1_0 hfz14_BK1_0 hcz14_BK1_1 hfz14_BK1_1 hcz14_BK1_2 hfz14_BK1_2 hcz14_BK11_0 hfz14_BK11_0 hcz14_BK11_1 hfz14_BK11_1 hcz14_BK11_2 hfz14_BK11_2); have hcz16_BK1_0 : w15_.cell? ⟨gb1_, 0, none⟩ = some (.int .i64 a0) := (blk_cell BK1.out 0).trans rfl; have hfz16_BK1_0 := blk_frozen BK1.out 0; have hcz16_BK1_1 : w15_.cell? ⟨gb1_, 1, none⟩ = some (.slice A0_1 l0_1.length c0_1) := (blk_cell BK1.out 1).trans rfl; have hfz16_BK1_1 := blk_frozen BK1.out 1; have hcz16_BK1_2 : w15_.cell? ⟨gb1_, 2, none⟩ = some (.slice A0_2 l0_2.length c0_2) := (blk_cell BK1.out 2).trans rfl; have hfz16_BK1_2 := blk_frozen BK1.out 2; have hcz16_BK11_0 : w15_.cell? ⟨gb11_, 0, none⟩ = some (.int .i64 a0) := (blk_cell BK11.out 0).trans rfl; have hfz16_BK11_0 := blk_frozen BK11.out 0; have hcz16_BK11_1 : w15_.cell? ⟨gb11_, 1, none⟩ = some (.slice (some ⟨g9_0_, 0, none⟩) l0_1.length (pad l0_1).length) := (blk_cell BK11.out 1).trans rfl; have hfz16_BK11_1 := blk_frozen BK11.out 1; have hcz16_BK11_2 : w15_.cell? ⟨gb11_, 2, none⟩ = some (.slice (some ⟨g9_1_, 0, none⟩) l0_2.length (pad l0_2).length) := (blk_cell BK11.out 2).trans rfl; have hfz16_BK11_2 := blk_frozen BK11.out 2)
    | ((with_reducible refine gate_callee (f := 20) rfl ?_); refine goesL_ (some 34) rfl rfl Try.func20 (by kernel_rfl) rfl #[.slice A15_ r1.length c15_, .slice A7_ r1.length c7_] rfl (by (try simp only [List.map_toArray, List.map_cons, List.map_nil]); first | done | rfl | (simp only [List.length_drop, List.length_take]; rfl)) ?_; (with_reducible refine (laws_eqIntervalS.calls (r1.length + 1) _ _ r1 _ _ r1 true _ ?side1 ?side2 ?side3 ?side4 HE.out).mono ?_); (case side1 => repeat (first | exact (Kd.R_reads' O15.out).2.2 | (with_reducible refine Kd.C_alloc ?_ _) | (with_reducible refine Kd.C_drewN ?_ _) | (with_reducible refine Kd.C_drew ?_))); (case side2 => exact (Kd.R_reads' O15.out).2.1); (case side3 => repeat (first | exact (Kd.R_reads' O7.out).2.2 | (with_reducible refine Kd.C_alloc ?_ _) | (with_reducible refine Kd.C_drewN ?_ _) | (with_reducible refine Kd.C_drew ?_))); (case side4 => exact (Kd.R_reads' O7.out).2.1); rintro e w17_ ⟨rfl, hb⟩; refine ⟨_, rfl, ?_⟩; obtain ⟨z2_, z4_⟩ := still (by exact Z.out) (by repeat (first | (with_reducible first | exact HB.out | apply below_alloc | apply pw_below_drewN | apply below_drew1) | exact HB.out)) hb; have nO5_0_ := Aside0.mk (Kd.R_below (by (with_reducible repeat (first | apply Kd.R_alloc | apply Kd.R_drewN | apply Kd.R_drew)); exact O5_0.out) hb); have nO5_1_ := Aside0.mk (Kd.R_below (by (with_reducible repeat (first | apply Kd.R_alloc | apply Kd.R_drewN | apply Kd.R_drew)); exact O5_1.out) hb); have nO7_ := Aside0.mk (Kd.R_below (by (with_reducible repeat (first | apply Kd.R_alloc | apply Kd.R_drewN | apply Kd.R_drew)); exact O7.out) hb); have nO9_0_ := Aside0.mk (Kd.R_below (by (with_reducible repeat (first | apply Kd.R_alloc | apply Kd.R_drewN | apply Kd.R_drew)); exact O9_0.out) hb); have nO9_1_ := Aside0.mk (Kd.R_below (by (with_reducible repeat (first | apply Kd.R_alloc | apply Kd.R_drewN | apply Kd.R_drew)); exact O9_1.out) hb); have nO15_ := Aside0.mk (Kd.R_below (by (with_reducible repeat (first | apply Kd.R_alloc | apply Kd.R_drewN | apply Kd.R_drew)); exact O15.out) hb); have nBK1_ := Aside0.mk (blk_below (g := gb1_) (o := .cells #[.int .i64 a0, .slice A0_1 l0_1.length c0_1, .slice A0_2 l0_2.length c0_2] 31 (0, 0)) (by (with_reducible repeat (first | refine blk_drewN ?_ _ | refine blk_drew ?_ | refine blk_alloc ?_ _)); exact BK1.out) hb); have nBK11_ := Aside0.mk (blk_below (g := gb11_) (o := .cells #[.int .i64 a0, .slice (some ⟨g9_0_, 0, none⟩) l0_1.length (pad l0_1).length, .slice (some ⟨g9_1_, 0, none⟩) l0_2.length (pad l0_2).length] 36 (0, 0)) (by (with_reducible repeat (first | refine blk_drewN ?_ _ | refine blk_drew ?_ | refine blk_alloc ?_ _)); exact BK11.out) hb); clear O5_0 O5_1 O7 O9_0 O9_1 O15 BK1 BK11 HB Z; have O5_0 := nO5_0_; have O5_1 := nO5_1_; have O7 := nO7_; have O9_0 := nO9_0_; have O9_1 := nO9_1_; have O15 := nO15_; have BK1 := nBK1_; have BK11 := nBK11_; clear nO5_0_ nO5_1_ nO7_ nO9_0_ nO9_1_ nO15_ nBK1_ nBK11_; have HB := Aside0.mk z4_; have Z := Aside0.mk z2_; clear z2_ z4_ hb; (try clear hcz16_BK1_0 hfz16_BK1_0 hcz16_BK1_1 hfz16_BK1_1 hcz16_BK1_2 hfz16_BK1_2 hcz16_BK11_0 hfz16_BK11_0 hcz16_BK11_1 hfz16_BK11_1 hcz16_BK11_2 hfz16_BK11_2); have hcz18_BK1_0 : w17_.cell? ⟨gb1_, 0, none⟩ = some (.int .i64 a0) := (blk_cell BK1.out 0).trans rfl; have hfz18_BK1_0 := blk_frozen BK1.out 0; have hcz18_BK1_1 : w17_.cell? ⟨gb1_, 1, none⟩ = some (.slice A0_1 l0_1.length c0_1) := (blk_cell BK1.out 1).trans rfl; have hfz18_BK1_1 := blk_frozen BK1.out 1; have hcz18_BK1_2 : w17_.cell? ⟨gb1_, 2, none⟩ = some (.slice A0_2 l0_2.length c0_2) := (blk_cell BK1.out 2).trans rfl; have hfz18_BK1_2 := blk_frozen BK1.out 2; have hcz18_BK11_0 : w17_.cell? ⟨gb11_, 0, none⟩ = some (.int .i64 a0) := (blk_cell BK11.out 0).trans rfl; have hfz18_BK11_0 := blk_frozen BK11.out 0; have hcz18_BK11_1 : w17_.cell? ⟨gb11_, 1, none⟩ = some (.slice (some ⟨g9_0_, 0, none⟩) l0_1.length (pad l0_1).length) := (blk_cell BK11.out 1).trans rfl; have hfz18_BK11_1 := blk_frozen BK11.out 1; have hcz18_BK11_2 : w17_.cell? ⟨gb11_, 2, none⟩ = some (.slice (some ⟨g9_1_, 0, none⟩) l0_2.length (pad l0_2).length) := (blk_cell BK11.out 2).trans rfl; have hfz18_BK11_2 := blk_frozen BK11.out 2))
  try go_wp2
  refine start_ (n := 5) (S := fun w' => w'.cell? ⟨gb1_, 0, none⟩ = some (.int .i64 a0) ∧ w'.cell? ⟨gb1_, 1, none⟩ = some (.slice A0_1 l0_1.length c0_1) ∧ w'.cell? ⟨gb1_, 2, none⟩ = some (.slice A0_2 l0_2.length c0_2) ∧ w'.cell? ⟨gb11_, 0, none⟩ = some (.int .i64 a0) ∧ w'.cell? ⟨gb11_, 1, none⟩ = some (.slice (some ⟨g9_0_, 0, none⟩) l0_1.length (pad l0_1).length) ∧ w'.cell? ⟨gb11_, 2, none⟩ = some (.slice (some ⟨g9_1_, 0, none⟩) l0_2.length (pad l0_2).length)) (ds := []) #[false, false, false, false, false] (by kernel_rfl) rfl rfl ⟨((blk_cell (g := gb1_) (cs := #[.int .i64 a0, .slice A0_1 l0_1.length c0_1, .slice A0_2 l0_2.length c0_2]) (t := 31) (by (with_reducible repeat (first | refine blk_drewN ?_ _ | refine blk_drew ?_ | refine blk_alloc ?_ _)); exact BK1.out) 0).trans rfl), ((blk_cell (g := gb1_) (cs := #[.int .i64 a0, .slice A0_1 l0_1.length c0_1, .slice A0_2 l0_2.length c0_2]) (t := 31) (by (with_reducible repeat (first | refine blk_drewN ?_ _ | refine blk_drew ?_ | refine blk_alloc ?_ _)); exact BK1.out) 1).trans rfl), ((blk_cell (g := gb1_) (cs := #[.int .i64 a0, .slice A0_1 l0_1.length c0_1, .slice A0_2 l0_2.length c0_2]) (t := 31) (by (with_reducible repeat (first | refine blk_drewN ?_ _ | refine blk_drew ?_ | refine blk_alloc ?_ _)); exact BK1.out) 2).trans rfl), ((blk_cell (g := gb11_) (cs := #[.int .i64 a0, .slice (some ⟨g9_0_, 0, none⟩) l0_1.length (pad l0_1).length, .slice (some ⟨g9_1_, 0, none⟩) l0_2.length (pad l0_2).length]) (t := 36) (by (with_reducible repeat (first | refine blk_drewN ?_ _ | refine blk_drew ?_ | refine blk_alloc ?_ _)); exact BK11.out) 0).trans rfl), ((blk_cell (g := gb11_) (cs := #[.int .i64 a0, .slice (some ⟨g9_0_, 0, none⟩) l0_1.length (pad l0_1).length, .slice (some ⟨g9_1_, 0, none⟩) l0_2.length (pad l0_2).length]) (t := 36) (by (with_reducible repeat (first | refine blk_drewN ?_ _ | refine blk_drew ?_ | refine blk_alloc ?_ _)); exact BK11.out) 1).trans rfl), ((blk_cell (g := gb11_) (cs := #[.int .i64 a0, .slice (some ⟨g9_0_, 0, none⟩) l0_1.length (pad l0_1).length, .slice (some ⟨g9_1_, 0, none⟩) l0_2.length (pad l0_2).length]) (t := 36) (by (with_reducible repeat (first | refine blk_drewN ?_ _ | refine blk_drew ?_ | refine blk_alloc ?_ _)); exact BK11.out) 2).trans rfl)⟩ (fun hHeld => ?_)
  generalize hq_ : World.drew _ = w19_ at hHeld ⊢
  have nO5_0_ : Aside0 (Kd.R (Kd.int .i64) 3 w19_ w.heap.size (fun k => a5_1_ ≤ k ∧ k < b5_1_) (.slice (some ⟨g5_0_, 0, none⟩) (pad l0_1).length (pad l0_1).length) (pad l0_1)) := ⟨by rw [← hq_]; exact (by (with_reducible repeat (first | apply Kd.R_alloc | apply Kd.R_drewN | apply Kd.R_drew)); exact O5_0.out)⟩
  have nO5_1_ : Aside0 (Kd.R (Kd.int .i64) 3 w19_ w.heap.size (fun k => a5_1_ ≤ k ∧ k < b5_1_) (.slice (some ⟨g5_1_, 0, none⟩) (pad l0_2).length (pad l0_2).length) (pad l0_2)) := ⟨by rw [← hq_]; exact (by (with_reducible repeat (first | apply Kd.R_alloc | apply Kd.R_drewN | apply Kd.R_drew)); exact O5_1.out)⟩
  have nO7_ : Aside0 (Kd.R k92 92 w19_ w.heap.size (fun k => a7_ ≤ k ∧ k < b7_) (.slice A7_ r1.length c7_) r1) := ⟨by rw [← hq_]; exact (by (with_reducible repeat (first | apply Kd.R_alloc | apply Kd.R_drewN | apply Kd.R_drew)); exact O7.out)⟩
  have nO9_0_ : Aside0 (Kd.R (Kd.int .i64) 3 w19_ w.heap.size (fun k => a9_1_ ≤ k ∧ k < b9_1_) (.slice (some ⟨g9_0_, 0, none⟩) (pad l0_1).length (pad l0_1).length) (pad l0_1)) := ⟨by rw [← hq_]; exact (by (with_reducible repeat (first | apply Kd.R_alloc | apply Kd.R_drewN | apply Kd.R_drew)); exact O9_0.out)⟩
  have nO9_1_ : Aside0 (Kd.R (Kd.int .i64) 3 w19_ w.heap.size (fun k => a9_1_ ≤ k ∧ k < b9_1_) (.slice (some ⟨g9_1_, 0, none⟩) (pad l0_2).length (pad l0_2).length) (pad l0_2)) := ⟨by rw [← hq_]; exact (by (with_reducible repeat (first | apply Kd.R_alloc | apply Kd.R_drewN | apply Kd.R_drew)); exact O9_1.out)⟩
  have nO15_ : Aside0 (Kd.R k92 92 w19_ w.heap.size (fun k => a15_ ≤ k ∧ k < b15_) (.slice A15_ r1.length c15_) r1) := ⟨by rw [← hq_]; exact (by (with_reducible repeat (first | apply Kd.R_alloc | apply Kd.R_drewN | apply Kd.R_drew)); exact O15.out)⟩
  have nBK1_ : Aside0 (w19_.heap[gb1_]? = some (.cells #[.int .i64 a0, .slice A0_1 l0_1.length c0_1, .slice A0_2 l0_2.length c0_2] 31 (0, 0))) := ⟨by rw [← hq_]; exact (by (with_reducible repeat (first | refine blk_drewN ?_ _ | refine blk_drew ?_ | refine blk_alloc ?_ _)); exact BK1.out)⟩
  have nBK11_ : Aside0 (w19_.heap[gb11_]? = some (.cells #[.int .i64 a0, .slice (some ⟨g9_0_, 0, none⟩) l0_1.length (pad l0_1).length, .slice (some ⟨g9_1_, 0, none⟩) l0_2.length (pad l0_2).length] 36 (0, 0))) := ⟨by rw [← hq_]; exact (by (with_reducible repeat (first | refine blk_drewN ?_ _ | refine blk_drew ?_ | refine blk_alloc ?_ _)); exact BK11.out)⟩
  have nHB_ : Aside0 (Below w.heap.size w w19_) := ⟨by rw [← hq_]; exact (by repeat (first | (with_reducible first | exact HB.out | apply below_alloc | apply pw_below_drewN | apply below_drew1) | exact HB.out))⟩
  have nZ_ : Aside0 (b15_ ≤ w19_.heap.size) := ⟨by rw [← hq_]; exact (by exact Z.out)⟩
  clear hq_ O5_0 O5_1 O7 O9_0 O9_1 O15 BK1 BK11 HB Z
  have O5_0 := nO5_0_
  have O5_1 := nO5_1_
  have O7 := nO7_
  have O9_0 := nO9_0_
  have O9_1 := nO9_1_
  have O15 := nO15_
  have BK1 := nBK1_
  have BK11 := nBK11_
  have HB := nHB_
  have Z := nZ_
  clear nO5_0_ nO5_1_ nO7_ nO9_0_ nO9_1_ nO15_ nBK1_ nBK11_ nHB_ nZ_
  refine take_ (i := 0) (N := some 41) (v := ?_) (a' := ?_) #[true, false, false, false, false] rfl rfl (by kernel_rfl) (fun _ _ _ h => h) (Or.inl ⟨by rfl, ?_⟩) hHeld ?_ ?_
  rotate_left
  · rintro w' ⟨s0, s1, s2, s3, s4, s5⟩
    go_simp
    with_reducible rfl
  rotate_left
  · simp only [Act.put, List.setIfInBounds_toArray, List.set_cons_zero, List.set_cons_succ, i64_w, i32_w]
    rfl
  refine take_ (i := 1) (N := some 42) (v := ?_) (a' := ?_) #[true, true, false, false, false] rfl rfl (by kernel_rfl) (fun _ _ _ h => h) (Or.inl ⟨by rfl, ?_⟩) hHeld ?_ ?_
  rotate_left
  · rintro w' ⟨s0, s1, s2, s3, s4, s5⟩
    go_simp
    with_reducible rfl
  rotate_left
  · simp only [Act.put, List.setIfInBounds_toArray, List.set_cons_zero, List.set_cons_succ, i64_w, i32_w]
    rfl
  refine one_ (i := 2) (N := some 43) #[true, true, true, false, false] rfl rfl (by kernel_rfl) (by decide) (fun K hK => ?_)
  refine goes_ Try.func18 (by kernel_rfl) rfl #[.agg #[.int .i64 a0, .slice A0_1 l0_1.length c0_1, .slice A0_2 l0_2.length c0_2], .bool false] (by rfl) rfl rfl (by (try simp only [List.map_toArray, List.map_cons, List.map_nil]); first | done | rfl | (simp only [List.length_drop, List.length_take]; rfl)) ?_
  (with_reducible refine (toBox_pad a0 _ _ l0_1 _ _ l0_2 _ ?side1 ?side2 ?side3 ?side4 HN0_1.out HN0_2.out).mono ?_)
  (case side1 => repeat (first | exact HR0_1.out | exact (Kd.C_below HR0_1.out (by repeat (first | (with_reducible first | exact HB.out | apply below_alloc | apply pw_below_drewN | apply below_drew1) | exact HB.out))) | (with_reducible refine Kd.C_alloc ?_ _) | (with_reducible refine Kd.C_drewN ?_ _) | (with_reducible refine Kd.C_drew ?_)))
  (case side2 => exact HC0_1.out)
  (case side3 => repeat (first | exact HR0_2.out | exact (Kd.C_below HR0_2.out (by repeat (first | (with_reducible first | exact HB.out | apply below_alloc | apply pw_below_drewN | apply below_drew1) | exact HB.out))) | (with_reducible refine Kd.C_alloc ?_ _) | (with_reducible refine Kd.C_drewN ?_ _) | (with_reducible refine Kd.C_drew ?_)))
  (case side4 => exact HC0_2.out)
  rintro e w20_ ⟨g20_0_, g20_1_, rfl, ho0, ho1, hb⟩
  refine ⟨_, rfl, ?_⟩
  have NGg20_0_ : Aside0 (g20_0_ ≠ g20_1_) := ⟨ho0.1 _ rfl⟩
  replace ho0 := Kd.R_mono ho0 (fun _ _ => True.intro)
  replace ho1 := Kd.R_mono ho1 (fun _ _ => True.intro)
  obtain ⟨a20_1_, b20_1_, z1_, z2_, zo0_, zo1_, z4_⟩ := made2 (by exact Z.out) (by repeat (first | (with_reducible first | exact HB.out | apply below_alloc | apply pw_below_drewN | apply below_drew1) | exact HB.out)) hb ho0 ho1
  have nO5_0_ := Aside0.mk (Kd.R_below (by (with_reducible repeat (first | apply Kd.R_alloc | apply Kd.R_drewN | apply Kd.R_drew)); exact O5_0.out) hb)
  have nO5_1_ := Aside0.mk (Kd.R_below (by (with_reducible repeat (first | apply Kd.R_alloc | apply Kd.R_drewN | apply Kd.R_drew)); exact O5_1.out) hb)
  have nO7_ := Aside0.mk (Kd.R_below (by (with_reducible repeat (first | apply Kd.R_alloc | apply Kd.R_drewN | apply Kd.R_drew)); exact O7.out) hb)
  have nO9_0_ := Aside0.mk (Kd.R_below (by (with_reducible repeat (first | apply Kd.R_alloc | apply Kd.R_drewN | apply Kd.R_drew)); exact O9_0.out) hb)
  have nO9_1_ := Aside0.mk (Kd.R_below (by (with_reducible repeat (first | apply Kd.R_alloc | apply Kd.R_drewN | apply Kd.R_drew)); exact O9_1.out) hb)
  have nO15_ := Aside0.mk (Kd.R_below (by (with_reducible repeat (first | apply Kd.R_alloc | apply Kd.R_drewN | apply Kd.R_drew)); exact O15.out) hb)
  have nBK1_ := Aside0.mk (blk_below (g := gb1_) (o := .cells #[.int .i64 a0, .slice A0_1 l0_1.length c0_1, .slice A0_2 l0_2.length c0_2] 31 (0, 0)) (by (with_reducible repeat (first | refine blk_drewN ?_ _ | refine blk_drew ?_ | refine blk_alloc ?_ _)); exact BK1.out) hb)
  have nBK11_ := Aside0.mk (blk_below (g := gb11_) (o := .cells #[.int .i64 a0, .slice (some ⟨g9_0_, 0, none⟩) l0_1.length (pad l0_1).length, .slice (some ⟨g9_1_, 0, none⟩) l0_2.length (pad l0_2).length] 36 (0, 0)) (by (with_reducible repeat (first | refine blk_drewN ?_ _ | refine blk_drew ?_ | refine blk_alloc ?_ _)); exact BK11.out) hb)
  clear O5_0 O5_1 O7 O9_0 O9_1 O15 BK1 BK11 HB Z
  have O5_0 := nO5_0_
  have O5_1 := nO5_1_
  have O7 := nO7_
  have O9_0 := nO9_0_
  have O9_1 := nO9_1_
  have O15 := nO15_
  have BK1 := nBK1_
  have BK11 := nBK11_
  clear nO5_0_ nO5_1_ nO7_ nO9_0_ nO9_1_ nO15_ nBK1_ nBK11_
  have O20_0 := Aside0.mk zo0_
  have O20_1 := Aside0.mk zo1_
  have Q20_1 := Aside0.mk z1_
  have HB := Aside0.mk z4_
  have Z := Aside0.mk z2_
  clear z1_ z2_ z4_ hb ho0 zo0_ ho1 zo1_
  (try clear hcz18_BK1_0 hfz18_BK1_0 hcz18_BK1_1 hfz18_BK1_1 hcz18_BK1_2 hfz18_BK1_2 hcz18_BK11_0 hfz18_BK11_0 hcz18_BK11_1 hfz18_BK11_1 hcz18_BK11_2 hfz18_BK11_2)
  have hcz21_BK1_0 : w20_.cell? ⟨gb1_, 0, none⟩ = some (.int .i64 a0) := (blk_cell BK1.out 0).trans rfl
  have hfz21_BK1_0 := blk_frozen BK1.out 0
  have hcz21_BK1_1 : w20_.cell? ⟨gb1_, 1, none⟩ = some (.slice A0_1 l0_1.length c0_1) := (blk_cell BK1.out 1).trans rfl
  have hfz21_BK1_1 := blk_frozen BK1.out 1
  have hcz21_BK1_2 : w20_.cell? ⟨gb1_, 2, none⟩ = some (.slice A0_2 l0_2.length c0_2) := (blk_cell BK1.out 2).trans rfl
  have hfz21_BK1_2 := blk_frozen BK1.out 2
  have hcz21_BK11_0 : w20_.cell? ⟨gb11_, 0, none⟩ = some (.int .i64 a0) := (blk_cell BK11.out 0).trans rfl
  have hfz21_BK11_0 := blk_frozen BK11.out 0
  have hcz21_BK11_1 : w20_.cell? ⟨gb11_, 1, none⟩ = some (.slice (some ⟨g9_0_, 0, none⟩) l0_1.length (pad l0_1).length) := (blk_cell BK11.out 1).trans rfl
  have hfz21_BK11_1 := blk_frozen BK11.out 1
  have hcz21_BK11_2 : w20_.cell? ⟨gb11_, 2, none⟩ = some (.slice (some ⟨g9_1_, 0, none⟩) l0_2.length (pad l0_2).length) := (blk_cell BK11.out 2).trans rfl
  have hfz21_BK11_2 := blk_frozen BK11.out 2
  refine hK.out _ _ ⟨((blk_cell BK1.out 0).trans rfl), ((blk_cell BK1.out 1).trans rfl), ((blk_cell BK1.out 2).trans rfl), ((blk_cell BK11.out 0).trans rfl), ((blk_cell BK11.out 1).trans rfl), ((blk_cell BK11.out 2).trans rfl)⟩ (fun hHeld => ?_)
  clear hK K
  refine norm_ (a' := ?_) ?_ ?_
  rotate_left
  · show Act.put _ (some 43) _ = _
    simp only [Act.put, List.setIfInBounds_toArray, List.set_cons_zero, List.set_cons_succ, i64_w, i32_w]
    rfl
  refine one_ (i := 3) (N := some 44) #[true, true, true, true, false] rfl rfl (by kernel_rfl) (by decide) (fun K hK => ?_)
  refine goes_ Try.func21 (by kernel_rfl) rfl #[.agg #[.int .i64 a0, .slice (some ⟨g9_0_, 0, none⟩) l0_1.length (pad l0_1).length, .slice (some ⟨g9_1_, 0, none⟩) l0_2.length (pad l0_2).length], .agg #[.int .i64 a0, .slice (some ⟨g20_0_, 0, none⟩) l0_1.length (pad l0_1).length, .slice (some ⟨g20_1_, 0, none⟩) l0_2.length (pad l0_2).length]] (by rfl) rfl rfl (by (try simp only [List.map_toArray, List.map_cons, List.map_nil]); first | done | rfl | (simp only [List.length_drop, List.length_take]; rfl)) ?_
  (with_reducible refine (intactBox_pad a0 _ _ _ _ l0_1 l0_2 _ HN0_1.out HN0_2.out ?side1 ?side2 ?side3 ?side4).mono ?_)
  (case side1 => exact ⟨_, _, (by (with_reducible repeat (first | apply Kd.R_alloc | apply Kd.R_drewN | apply Kd.R_drew)); exact O9_0.out)⟩)
  (case side2 => exact ⟨_, _, (by (with_reducible repeat (first | apply Kd.R_alloc | apply Kd.R_drewN | apply Kd.R_drew)); exact O20_0.out)⟩)
  (case side3 => exact ⟨_, _, (by (with_reducible repeat (first | apply Kd.R_alloc | apply Kd.R_drewN | apply Kd.R_drew)); exact O9_1.out)⟩)
  (case side4 => exact ⟨_, _, (by (with_reducible repeat (first | apply Kd.R_alloc | apply Kd.R_drewN | apply Kd.R_drew)); exact O20_1.out)⟩)
  rintro e w22_ ⟨rfl, hb⟩
  refine ⟨_, rfl, ?_⟩
  obtain ⟨z2_, z4_⟩ := still (by exact Z.out) (by repeat (first | (with_reducible first | exact HB.out | apply below_alloc | apply pw_below_drewN | apply below_drew1) | exact HB.out)) hb
  have nO5_0_ := Aside0.mk (Kd.R_below (by (with_reducible repeat (first | apply Kd.R_alloc | apply Kd.R_drewN | apply Kd.R_drew)); exact O5_0.out) hb)
  have nO5_1_ := Aside0.mk (Kd.R_below (by (with_reducible repeat (first | apply Kd.R_alloc | apply Kd.R_drewN | apply Kd.R_drew)); exact O5_1.out) hb)
  have nO7_ := Aside0.mk (Kd.R_below (by (with_reducible repeat (first | apply Kd.R_alloc | apply Kd.R_drewN | apply Kd.R_drew)); exact O7.out) hb)
  have nO9_0_ := Aside0.mk (Kd.R_below (by (with_reducible repeat (first | apply Kd.R_alloc | apply Kd.R_drewN | apply Kd.R_drew)); exact O9_0.out) hb)
  have nO9_1_ := Aside0.mk (Kd.R_below (by (with_reducible repeat (first | apply Kd.R_alloc | apply Kd.R_drewN | apply Kd.R_drew)); exact O9_1.out) hb)
  have nO15_ := Aside0.mk (Kd.R_below (by (with_reducible repeat (first | apply Kd.R_alloc | apply Kd.R_drewN | apply Kd.R_drew)); exact O15.out) hb)
  have nO20_0_ := Aside0.mk (Kd.R_below (by (with_reducible repeat (first | apply Kd.R_alloc | apply Kd.R_drewN | apply Kd.R_drew)); exact O20_0.out) hb)
  have nO20_1_ := Aside0.mk (Kd.R_below (by (with_reducible repeat (first | apply Kd.R_alloc | apply Kd.R_drewN | apply Kd.R_drew)); exact O20_1.out) hb)
  have nBK1_ := Aside0.mk (blk_below (g := gb1_) (o := .cells #[.int .i64 a0, .slice A0_1 l0_1.length c0_1, .slice A0_2 l0_2.length c0_2] 31 (0, 0)) (by (with_reducible repeat (first | refine blk_drewN ?_ _ | refine blk_drew ?_ | refine blk_alloc ?_ _)); exact BK1.out) hb)
  have nBK11_ := Aside0.mk (blk_below (g := gb11_) (o := .cells #[.int .i64 a0, .slice (some ⟨g9_0_, 0, none⟩) l0_1.length (pad l0_1).length, .slice (some ⟨g9_1_, 0, none⟩) l0_2.length (pad l0_2).length] 36 (0, 0)) (by (with_reducible repeat (first | refine blk_drewN ?_ _ | refine blk_drew ?_ | refine blk_alloc ?_ _)); exact BK11.out) hb)
  clear O5_0 O5_1 O7 O9_0 O9_1 O15 O20_0 O20_1 BK1 BK11 HB Z
  have O5_0 := nO5_0_
  have O5_1 := nO5_1_
  have O7 := nO7_
  have O9_0 := nO9_0_
  have O9_1 := nO9_1_
  have O15 := nO15_
  have O20_0 := nO20_0_
  have O20_1 := nO20_1_
  have BK1 := nBK1_
  have BK11 := nBK11_
  clear nO5_0_ nO5_1_ nO7_ nO9_0_ nO9_1_ nO15_ nO20_0_ nO20_1_ nBK1_ nBK11_
  have HB := Aside0.mk z4_
  have Z := Aside0.mk z2_
  clear z2_ z4_ hb
  (try clear hcz21_BK1_0 hfz21_BK1_0 hcz21_BK1_1 hfz21_BK1_1 hcz21_BK1_2 hfz21_BK1_2 hcz21_BK11_0 hfz21_BK11_0 hcz21_BK11_1 hfz21_BK11_1 hcz21_BK11_2 hfz21_BK11_2)
  have hcz23_BK1_0 : w22_.cell? ⟨gb1_, 0, none⟩ = some (.int .i64 a0) := (blk_cell BK1.out 0).trans rfl
  have hfz23_BK1_0 := blk_frozen BK1.out 0
  have hcz23_BK1_1 : w22_.cell? ⟨gb1_, 1, none⟩ = some (.slice A0_1 l0_1.length c0_1) := (blk_cell BK1.out 1).trans rfl
  have hfz23_BK1_1 := blk_frozen BK1.out 1
  have hcz23_BK1_2 : w22_.cell? ⟨gb1_, 2, none⟩ = some (.slice A0_2 l0_2.length c0_2) := (blk_cell BK1.out 2).trans rfl
  have hfz23_BK1_2 := blk_frozen BK1.out 2
  have hcz23_BK11_0 : w22_.cell? ⟨gb11_, 0, none⟩ = some (.int .i64 a0) := (blk_cell BK11.out 0).trans rfl
  have hfz23_BK11_0 := blk_frozen BK11.out 0
  have hcz23_BK11_1 : w22_.cell? ⟨gb11_, 1, none⟩ = some (.slice (some ⟨g9_0_, 0, none⟩) l0_1.length (pad l0_1).length) := (blk_cell BK11.out 1).trans rfl
  have hfz23_BK11_1 := blk_frozen BK11.out 1
  have hcz23_BK11_2 : w22_.cell? ⟨gb11_, 2, none⟩ = some (.slice (some ⟨g9_1_, 0, none⟩) l0_2.length (pad l0_2).length) := (blk_cell BK11.out 2).trans rfl
  have hfz23_BK11_2 := blk_frozen BK11.out 2
  refine hK.out _ _ ⟨((blk_cell BK1.out 0).trans rfl), ((blk_cell BK1.out 1).trans rfl), ((blk_cell BK1.out 2).trans rfl), ((blk_cell BK11.out 0).trans rfl), ((blk_cell BK11.out 1).trans rfl), ((blk_cell BK11.out 2).trans rfl)⟩ (fun hHeld => ?_)
  clear hK K
  refine norm_ (a' := ?_) ?_ ?_
  rotate_left
  · show Act.put _ (some 44) _ = _
    simp only [Act.put, List.setIfInBounds_toArray, List.set_cons_zero, List.set_cons_succ, i64_w, i32_w]
    rfl
  refine pure_ (i := 4) (N := some 45) (v := ?_) (a' := ?_) #[true, true, true, true, true] rfl rfl (by kernel_rfl) (fun _ _ _ h => h) (Or.inl ⟨by rfl, ?_⟩) ?_ ?_
  rotate_left
  · intro w'
    go_simp
    with_reducible rfl
  rotate_left
  · simp only [Act.put, List.setIfInBounds_toArray, List.set_cons_zero, List.set_cons_succ, i64_w, i32_w]
    rfl
  refine done_ (by kernel_rfl) ?_
  go_wp2_with (first
    | ((with_reducible refine gate_callee (f := 22) rfl ?_); refine goesL_ (some 48) rfl rfl Try.func22 (by kernel_rfl) rfl #[.agg #[.int .i64 a0, .slice (some ⟨g9_0_, 0, none⟩) l0_1.length (pad l0_1).length, .slice (some ⟨g9_1_, 0, none⟩) l0_2.length (pad l0_2).length], .int .i64 101] rfl (by (try simp only [List.map_toArray, List.map_cons, List.map_nil]); first | done | rfl | (simp only [List.length_drop, List.length_take]; rfl)) ?_; (with_reducible refine (markBox_two kmB a0 g9_0_ g9_1_ a9_1_ b9_1_ l0_1 l0_2 yB1 yB2 101 mB w _ ?side1 ?side2 ?side3 ?side4 HMB.out).mono ?_); (case side1 => exact (by repeat (first | (with_reducible first | exact HB.out | apply below_alloc | apply pw_below_drewN | apply below_drew1) | exact HB.out))); (case side2 => exact NGg9_0_.out); (case side3 => exact (by (with_reducible repeat (first | apply Kd.R_alloc | apply Kd.R_drewN | apply Kd.R_drew)); exact O9_0.out)); (case side4 => exact (by (with_reducible repeat (first | apply Kd.R_alloc | apply Kd.R_drewN | apply Kd.R_drew)); exact O9_1.out)); rintro e w24_ ⟨rfl, hb, hk⟩; refine ⟨_, rfl, ?_⟩; have nO5_0_ := Aside0.mk (Kd.R_kept (by (with_reducible repeat (first | apply Kd.R_alloc | apply Kd.R_drewN | apply Kd.R_drew)); exact O5_0.out) hk (fun k_ h1_ h2_ => by have := GB1.out; have := Q5_1.out; have := Q7.out; have := Q9_1.out; have := GB11.out; have := Q15.out; have := Q20_1.out; omega)); have nO5_1_ := Aside0.mk (Kd.R_kept (by (with_reducible repeat (first | apply Kd.R_alloc | apply Kd.R_drewN | apply Kd.R_drew)); exact O5_1.out) hk (fun k_ h1_ h2_ => by have := GB1.out; have := Q5_1.out; have := Q7.out; have := Q9_1.out; have := GB11.out; have := Q15.out; have := Q20_1.out; omega)); have nO7_ := Aside0.mk (Kd.R_kept (by (with_reducible repeat (first | apply Kd.R_alloc | apply Kd.R_drewN | apply Kd.R_drew)); exact O7.out) hk (fun k_ h1_ h2_ => by have := GB1.out; have := Q5_1.out; have := Q7.out; have := Q9_1.out; have := GB11.out; have := Q15.out; have := Q20_1.out; omega)); have nO15_ := Aside0.mk (Kd.R_kept (by (with_reducible repeat (first | apply Kd.R_alloc | apply Kd.R_drewN | apply Kd.R_drew)); exact O15.out) hk (fun k_ h1_ h2_ => by have := GB1.out; have := Q5_1.out; have := Q7.out; have := Q9_1.out; have := GB11.out; have := Q15.out; have := Q20_1.out; omega)); have nO20_0_ := Aside0.mk (Kd.R_kept (by (with_reducible repeat (first | apply Kd.R_alloc | apply Kd.R_drewN | apply Kd.R_drew)); exact O20_0.out) hk (fun k_ h1_ h2_ => by have := GB1.out; have := Q5_1.out; have := Q7.out; have := Q9_1.out; have := GB11.out; have := Q15.out; have := Q20_1.out; omega)); have nO20_1_ := Aside0.mk (Kd.R_kept (by (with_reducible repeat (first | apply Kd.R_alloc | apply Kd.R_drewN | apply Kd.R_drew)); exact O20_1.out) hk (fun k_ h1_ h2_ => by have := GB1.out; have := Q5_1.out; have := Q7.out; have := Q9_1.out; have := GB11.out; have := Q15.out; have := Q20_1.out; omega)); have z2_ := Aside0.mk (Nat.le_trans (by exact Z.out) hk.1); have nBK1_ := Aside0.mk (blk_kept (g := gb1_) (o := .cells #[.int .i64 a0, .slice A0_1 l0_1.length c0_1, .slice A0_2 l0_2.length c0_2] 31 (0, 0)) (by (with_reducible repeat (first | refine blk_drewN ?_ _ | refine blk_drew ?_ | refine blk_alloc ?_ _)); exact BK1.out) hk (fun h1_ => by have := GB1.out; have := Q5_1.out; have := Q7.out; have := Q9_1.out; have := GB11.out; have := Q15.out; have := Q20_1.out; omega)); have nBK11_ := Aside0.mk (blk_kept (g := gb11_) (o := .cells #[.int .i64 a0, .slice (some ⟨g9_0_, 0, none⟩) l0_1.length (pad l0_1).length, .slice (some ⟨g9_1_, 0, none⟩) l0_2.length (pad l0_2).length] 36 (0, 0)) (by (with_reducible repeat (first | refine blk_drewN ?_ _ | refine blk_drew ?_ | refine blk_alloc ?_ _)); exact BK11.out) hk (fun h1_ => by have := GB1.out; have := Q5_1.out; have := Q7.out; have := Q9_1.out; have := GB11.out; have := Q15.out; have := Q20_1.out; omega)); clear O5_0 O5_1 O7 O15 O20_0 O20_1 BK1 BK11 O9_0 O9_1 HB Z; have O5_0 := nO5_0_; have O5_1 := nO5_1_; have O7 := nO7_; have O15 := nO15_; have O20_0 := nO20_0_; have O20_1 := nO20_1_; have BK1 := nBK1_; have BK11 := nBK11_; have HB := Aside0.mk hb; have Z := z2_; clear nO5_0_ nO5_1_ nO7_ nO15_ nO20_0_ nO20_1_ nBK1_ nBK11_ z2_ hb hk; (try clear hcz23_BK1_0 hfz23_BK1_0 hcz23_BK1_1 hfz23_BK1_1 hcz23_BK1_2 hfz23_BK1_2 hcz23_BK11_0 hfz23_BK11_0 hcz23_BK11_1 hfz23_BK11_1 hcz23_BK11_2 hfz23_BK11_2); have hcz25_BK1_0 : w24_.cell? ⟨gb1_, 0, none⟩ = some (.int .i64 a0) := (blk_cell BK1.out 0).trans rfl; have hfz25_BK1_0 := blk_frozen BK1.out 0; have hcz25_BK1_1 : w24_.cell? ⟨gb1_, 1, none⟩ = some (.slice A0_1 l0_1.length c0_1) := (blk_cell BK1.out 1).trans rfl; have hfz25_BK1_1 := blk_frozen BK1.out 1; have hcz25_BK1_2 : w24_.cell? ⟨gb1_, 2, none⟩ = some (.slice A0_2 l0_2.length c0_2) := (blk_cell BK1.out 2).trans rfl; have hfz25_BK1_2 := blk_frozen BK1.out 2; have hcz25_BK11_0 : w24_.cell? ⟨gb11_, 0, none⟩ = some (.int .i64 a0) := (blk_cell BK11.out 0).trans rfl; have hfz25_BK11_0 := blk_frozen BK11.out 0; have hcz25_BK11_1 : w24_.cell? ⟨gb11_, 1, none⟩ = some (.slice (some ⟨g9_0_, 0, none⟩) l0_1.length (pad l0_1).length) := (blk_cell BK11.out 1).trans rfl; have hfz25_BK11_1 := blk_frozen BK11.out 1; have hcz25_BK11_2 : w24_.cell? ⟨gb11_, 2, none⟩ = some (.slice (some ⟨g9_1_, 0, none⟩) l0_2.length (pad l0_2).length) := (blk_cell BK11.out 2).trans rfl; have hfz25_BK11_2 := blk_frozen BK11.out 2)
    | (go_at_call 20; (with_reducible refine (laws_eqIntervalS.calls (r1.length + 1) _ _ r1 _ _ r1 true _ ?side1 ?side2 ?side3 ?side4 HE.out).mono ?_); (case side1 => repeat (first | exact (Kd.R_reads' O15.out).2.2 | (with_reducible refine Kd.C_alloc ?_ _) | (with_reducible refine Kd.C_drewN ?_ _) | (with_reducible refine Kd.C_drew ?_))); (case side2 => exact (Kd.R_reads' O15.out).2.1); (case side3 => repeat (first | exact (Kd.R_reads' O7.out).2.2 | (with_reducible refine Kd.C_alloc ?_ _) | (with_reducible refine Kd.C_drewN ?_ _) | (with_reducible refine Kd.C_drew ?_))); (case side4 => exact (Kd.R_reads' O7.out).2.1); rintro e w26_ ⟨rfl, hb⟩; obtain ⟨z2_, z4_⟩ := still (by exact Z.out) (by repeat (first | (with_reducible first | exact HB.out | apply below_alloc | apply pw_below_drewN | apply below_drew1) | exact HB.out)) hb; have nO5_0_ := Aside0.mk (Kd.R_below (by (with_reducible repeat (first | apply Kd.R_alloc | apply Kd.R_drewN | apply Kd.R_drew)); exact O5_0.out) hb); have nO5_1_ := Aside0.mk (Kd.R_below (by (with_reducible repeat (first | apply Kd.R_alloc | apply Kd.R_drewN | apply Kd.R_drew)); exact O5_1.out) hb); have nO7_ := Aside0.mk (Kd.R_below (by (with_reducible repeat (first | apply Kd.R_alloc | apply Kd.R_drewN | apply Kd.R_drew)); exact O7.out) hb); have nO15_ := Aside0.mk (Kd.R_below (by (with_reducible repeat (first | apply Kd.R_alloc | apply Kd.R_drewN | apply Kd.R_drew)); exact O15.out) hb); have nO20_0_ := Aside0.mk (Kd.R_below (by (with_reducible repeat (first | apply Kd.R_alloc | apply Kd.R_drewN | apply Kd.R_drew)); exact O20_0.out) hb); have nO20_1_ := Aside0.mk (Kd.R_below (by (with_reducible repeat (first | apply Kd.R_alloc | apply Kd.R_drewN | apply Kd.R_drew)); exact O20_1.out) hb); have nBK1_ := Aside0.mk (blk_below (g := gb1_) (o := .cells #[.int .i64 a0, .slice A0_1 l0_1.length c0_1, .slice A0_2 l0_2.length c0_2] 31 (0, 0)) (by (with_reducible repeat (first | refine blk_drewN ?_ _ | refine blk_drew ?_ | refine blk_alloc ?_ _)); exact BK1.out) hb); have nBK11_ := Aside0.mk (blk_below (g := gb11_) (o := .cells #[.int .i64 a0, .slice (some ⟨g9_0_, 0, none⟩) l0_1.length (pad l0_1).length, .slice (some ⟨g9_1_, 0, none⟩) l0_2.length (pad l0_2).length] 36 (0, 0)) (by (with_reducible repeat (first | refine blk_drewN ?_ _ | refine blk_drew ?_ | refine blk_alloc ?_ _)); exact BK11.out) hb); clear O5_0 O5_1 O7 O15 O20_0 O20_1 BK1 BK11 HB Z; have O5_0 := nO5_0_; have O5_1 := nO5_1_; have O7 := nO7_; have O15 := nO15_; have O20_0 := nO20_0_; have O20_1 := nO20_1_; have BK1 := nBK1_; have BK11 := nBK11_; clear nO5_0_ nO5_1_ nO7_ nO15_ nO20_0_ nO20_1_ nBK1_ nBK11_; have HB := Aside0.mk z4_; have Z := Aside0.mk z2_; clear z2_ z4_ hb; (try clear hcz25_BK1_0 hfz25_BK1_0 hcz25_BK1_1 hfz25_BK1_1 hcz25_BK1_2 hfz25_BK1_2 hcz25_BK11_0 hfz25_BK11_0 hcz25_BK11_1 hfz25_BK11_1 hcz25_BK11_2 hfz25_BK11_2); have hcz27_BK1_0 : w26_.cell? ⟨gb1_, 0, none⟩ = some (.int .i64 a0) := (blk_cell BK1.out 0).trans rfl; have hfz27_BK1_0 := blk_frozen BK1.out 0; have hcz27_BK1_1 : w26_.cell? ⟨gb1_, 1, none⟩ = some (.slice A0_1 l0_1.length c0_1) := (blk_cell BK1.out 1).trans rfl; have hfz27_BK1_1 := blk_frozen BK1.out 1; have hcz27_BK1_2 : w26_.cell? ⟨gb1_, 2, none⟩ = some (.slice A0_2 l0_2.length c0_2) := (blk_cell BK1.out 2).trans rfl; have hfz27_BK1_2 := blk_frozen BK1.out 2; have hcz27_BK11_0 : w26_.cell? ⟨gb11_, 0, none⟩ = some (.int .i64 a0) := (blk_cell BK11.out 0).trans rfl; have hfz27_BK11_0 := blk_frozen BK11.out 0; have hcz27_BK11_1 : w26_.cell? ⟨gb11_, 1, none⟩ = some (.slice (some ⟨g9_0_, 0, none⟩) l0_1.length (pad l0_1).length) := (blk_cell BK11.out 1).trans rfl; have hfz27_BK11_1 := blk_frozen BK11.out 1; have hcz27_BK11_2 : w26_.cell? ⟨gb11_, 2, none⟩ = some (.slice (some ⟨g9_1_, 0, none⟩) l0_2.length (pad l0_2).length) := (blk_cell BK11.out 2).trans rfl; have hfz27_BK11_2 := blk_frozen BK11.out 2)
    | ((with_reducible refine gate_callee (f := 23) rfl ?_); refine goesL_ (some 64) rfl rfl Try.func23 (by kernel_rfl) rfl #[.slice A15_ r1.length c15_, .int .i64 101] rfl (by (try simp only [List.map_toArray, List.map_cons, List.map_nil]); first | done | rfl | (simp only [List.length_drop, List.length_take]; rfl)) ?_; (with_reducible refine (laws_markIntervalS.calls kg (fun k => a15_ ≤ k ∧ k < b15_) _ r1 101 mg (marksV 101 r1.length) w _ ?side1 ?side2 HG.out).mono ?_); (case side1 => exact (by repeat (first | (with_reducible first | exact HB.out | apply below_alloc | apply pw_below_drewN | apply below_drew1) | exact HB.out))); (case side2 => exact (by (with_reducible repeat (first | apply Kd.R_alloc | apply Kd.R_drewN | apply Kd.R_drew)); exact O15.out)); rintro e w28_ ⟨rfl, ho0, hb, hk⟩; refine ⟨_, rfl, ?_⟩; have nO5_0_ := Aside0.mk (Kd.R_kept (by (with_reducible repeat (first | apply Kd.R_alloc | apply Kd.R_drewN | apply Kd.R_drew)); exact O5_0.out) hk (fun k_ h1_ h2_ => by have := GB1.out; have := Q5_1.out; have := Q7.out; have := Q9_1.out; have := GB11.out; have := Q15.out; have := Q20_1.out; omega)); have nO5_1_ := Aside0.mk (Kd.R_kept (by (with_reducible repeat (first | apply Kd.R_alloc | apply Kd.R_drewN | apply Kd.R_drew)); exact O5_1.out) hk (fun k_ h1_ h2_ => by have := GB1.out; have := Q5_1.out; have := Q7.out; have := Q9_1.out; have := GB11.out; have := Q15.out; have := Q20_1.out; omega)); have nO7_ := Aside0.mk (Kd.R_kept (by (with_reducible repeat (first | apply Kd.R_alloc | apply Kd.R_drewN | apply Kd.R_drew)); exact O7.out) hk (fun k_ h1_ h2_ => by have := GB1.out; have := Q5_1.out; have := Q7.out; have := Q9_1.out; have := GB11.out; have := Q15.out; have := Q20_1.out; omega)); have nO20_0_ := Aside0.mk (Kd.R_kept (by (with_reducible repeat (first | apply Kd.R_alloc | apply Kd.R_drewN | apply Kd.R_drew)); exact O20_0.out) hk (fun k_ h1_ h2_ => by have := GB1.out; have := Q5_1.out; have := Q7.out; have := Q9_1.out; have := GB11.out; have := Q15.out; have := Q20_1.out; omega)); have nO20_1_ := Aside0.mk (Kd.R_kept (by (with_reducible repeat (first | apply Kd.R_alloc | apply Kd.R_drewN | apply Kd.R_drew)); exact O20_1.out) hk (fun k_ h1_ h2_ => by have := GB1.out; have := Q5_1.out; have := Q7.out; have := Q9_1.out; have := GB11.out; have := Q15.out; have := Q20_1.out; omega)); have z2_ := Aside0.mk (Nat.le_trans (by exact Z.out) hk.1); have nBK1_ := Aside0.mk (blk_kept (g := gb1_) (o := .cells #[.int .i64 a0, .slice A0_1 l0_1.length c0_1, .slice A0_2 l0_2.length c0_2] 31 (0, 0)) (by (with_reducible repeat (first | refine blk_drewN ?_ _ | refine blk_drew ?_ | refine blk_alloc ?_ _)); exact BK1.out) hk (fun h1_ => by have := GB1.out; have := Q5_1.out; have := Q7.out; have := Q9_1.out; have := GB11.out; have := Q15.out; have := Q20_1.out; omega)); have nBK11_ := Aside0.mk (blk_kept (g := gb11_) (o := .cells #[.int .i64 a0, .slice (some ⟨g9_0_, 0, none⟩) l0_1.length (pad l0_1).length, .slice (some ⟨g9_1_, 0, none⟩) l0_2.length (pad l0_2).length] 36 (0, 0)) (by (with_reducible repeat (first | refine blk_drewN ?_ _ | refine blk_drew ?_ | refine blk_alloc ?_ _)); exact BK11.out) hk (fun h1_ => by have := GB1.out; have := Q5_1.out; have := Q7.out; have := Q9_1.out; have := GB11.out; have := Q15.out; have := Q20_1.out; omega)); have nO15_ := Aside0.mk (Kd.R_mono ho0 (ok' := fun _ => True) (fun _ _ => trivial)); clear O5_0 O5_1 O7 O20_0 O20_1 BK1 BK11 O15 HB Z; have O5_0 := nO5_0_; have O5_1 := nO5_1_; have O7 := nO7_; have O20_0 := nO20_0_; have O20_1 := nO20_1_; have BK1 := nBK1_; have BK11 := nBK11_; have O15 := nO15_; have HB := Aside0.mk hb; have Z := z2_; clear nO5_0_ nO5_1_ nO7_ nO20_0_ nO20_1_ nBK1_ nBK11_ nO15_ z2_ hb hk ho0; (try clear hcz27_BK1_0 hfz27_BK1_0 hcz27_BK1_1 hfz27_BK1_1 hcz27_BK1_2 hfz27_BK1_2 hcz27_BK11_0 hfz27_BK11_0 hcz27_BK11_1 hfz27_BK11_1 hcz27_BK11_2 hfz27_BK11_2); have hcz29_BK1_0 : w28_.cell? ⟨gb1_, 0, none⟩ = some (.int .i64 a0) := (blk_cell BK1.out 0).trans rfl; have hfz29_BK1_0 := blk_frozen BK1.out 0; have hcz29_BK1_1 : w28_.cell? ⟨gb1_, 1, none⟩ = some (.slice A0_1 l0_1.length c0_1) := (blk_cell BK1.out 1).trans rfl; have hfz29_BK1_1 := blk_frozen BK1.out 1; have hcz29_BK1_2 : w28_.cell? ⟨gb1_, 2, none⟩ = some (.slice A0_2 l0_2.length c0_2) := (blk_cell BK1.out 2).trans rfl; have hfz29_BK1_2 := blk_frozen BK1.out 2; have hcz29_BK11_0 : w28_.cell? ⟨gb11_, 0, none⟩ = some (.int .i64 a0) := (blk_cell BK11.out 0).trans rfl; have hfz29_BK11_0 := blk_frozen BK11.out 0; have hcz29_BK11_1 : w28_.cell? ⟨gb11_, 1, none⟩ = some (.slice (some ⟨g9_0_, 0, none⟩) l0_1.length (pad l0_1).length) := (blk_cell BK11.out 1).trans rfl; have hfz29_BK11_1 := blk_frozen BK11.out 1; have hcz29_BK11_2 : w28_.cell? ⟨gb11_, 2, none⟩ = some (.slice (some ⟨g9_1_, 0, none⟩) l0_2.length (pad l0_2).length) := (blk_cell BK11.out 2).trans rfl; have hfz29_BK11_2 := blk_frozen BK11.out 2)
    | ((with_reducible refine gate_callee (f := 24) rfl ?_); refine goesL_ (some 67) rfl rfl Try.func24 (by kernel_rfl) rfl #[.slice A15_ r1.length c15_, .int .i64 101] rfl (by (try simp only [List.map_toArray, List.map_cons, List.map_nil]); first | done | rfl | (simp only [List.length_drop, List.length_take]; rfl)) ?_; (with_reducible refine (heldV_calls kh _ _ r1.length 101 mg _ ?side1 ?side2 HH.out).mono ?_); (case side1 => repeat (first | exact (Kd.R_reads' O15.out).2.2 | (with_reducible refine Kd.C_alloc ?_ _) | (with_reducible refine Kd.C_drewN ?_ _) | (with_reducible refine Kd.C_drew ?_))); (case side2 => exact (by have h_ := (Kd.R_reads' O15.out).2.1; simpa [marksV_length] using h_)); rintro e w' ⟨rfl, ⟨nd, rfl⟩⟩; refine ⟨_, rfl, ?_⟩)
    | ((with_reducible refine gate_callee (f := 18) rfl ?_); refine goesL_ (some 75) rfl rfl Try.func18 (by kernel_rfl) rfl #[.agg #[.int .i64 a0, .slice A0_1 l0_1.length c0_1, .slice A0_2 l0_2.length c0_2], .bool true] rfl (by (try simp only [List.map_toArray, List.map_cons, List.map_nil]); first | done | rfl | (simp only [List.length_drop, List.length_take]; rfl)) ?_; (with_reducible refine (laws_toBox.calls kb0 a0 _ _ l0_1 _ _ l0_2 true a0 l0_1 l0_2 _ ?side1 ?side2 ?side3 ?side4 HBA0.out).mono ?_); (case side1 => repeat (first | exact HR0_1.out | exact (Kd.C_below HR0_1.out (by repeat (first | (with_reducible first | exact HB.out | apply below_alloc | apply pw_below_drewN | apply below_drew1) | exact HB.out))) | (with_reducible refine Kd.C_alloc ?_ _) | (with_reducible refine Kd.C_drewN ?_ _) | (with_reducible refine Kd.C_drew ?_))); (case side2 => exact HC0_1.out); (case side3 => repeat (first | exact HR0_2.out | exact (Kd.C_below HR0_2.out (by repeat (first | (with_reducible first | exact HB.out | apply below_alloc | apply pw_below_drewN | apply below_drew1) | exact HB.out))) | (with_reducible refine Kd.C_alloc ?_ _) | (with_reducible refine Kd.C_drewN ?_ _) | (with_reducible refine Kd.C_drew ?_))); (case side4 => exact HC0_2.out); rintro e w30_ ⟨v30_0_, v30_1_, rfl, ho0, ho1, hb⟩; refine ⟨_, rfl, ?_⟩; replace ho0 := Kd.R_mono ho0 (fun _ _ => True.intro); replace ho1 := Kd.R_mono ho1 (fun _ _ => True.intro); obtain ⟨a30_1_, b30_1_, z1_, z2_, zo0_, zo1_, z4_⟩ := made2 (by exact Z.out) (by repeat (first | (with_reducible first | exact HB.out | apply below_alloc | apply pw_below_drewN | apply below_drew1) | exact HB.out)) hb ho0 ho1; have nO5_0_ := Aside0.mk (Kd.R_below (by (with_reducible repeat (first | apply Kd.R_alloc | apply Kd.R_drewN | apply Kd.R_drew)); exact O5_0.out) hb); have nO5_1_ := Aside0.mk (Kd.R_below (by (with_reducible repeat (first | apply Kd.R_alloc | apply Kd.R_drewN | apply Kd.R_drew)); exact O5_1.out) hb); have nO7_ := Aside0.mk (Kd.R_below (by (with_reducible repeat (first | apply Kd.R_alloc | apply Kd.R_drewN | apply Kd.R_drew)); exact O7.out) hb); have nO15_ := Aside0.mk (Kd.R_below (by (with_reducible repeat (first | apply Kd.R_alloc | apply Kd.R_drewN | apply Kd.R_drew)); exact O15.out) hb); have nO20_0_ := Aside0.mk (Kd.R_below (by (with_reducible repeat (first | apply Kd.R_alloc | apply Kd.R_drewN | apply Kd.R_drew)); exact O20_0.out) hb); have nO20_1_ := Aside0.mk (Kd.R_below (by (with_reducible repeat (first | apply Kd.R_alloc | apply Kd.R_drewN | apply Kd.R_drew)); exact O20_1.out) hb); have nBK1_ := Aside0.mk (blk_below (g := gb1_) (o := .cells #[.int .i64 a0, .slice A0_1 l0_1.length c0_1, .slice A0_2 l0_2.length c0_2] 31 (0, 0)) (by (with_reducible repeat (first | refine blk_drewN ?_ _ | refine blk_drew ?_ | refine blk_alloc ?_ _)); exact BK1.out) hb); have nBK11_ := Aside0.mk (blk_below (g := gb11_) (o := .cells #[.int .i64 a0, .slice (some ⟨g9_0_, 0, none⟩) l0_1.length (pad l0_1).length, .slice (some ⟨g9_1_, 0, none⟩) l0_2.length (pad l0_2).length] 36 (0, 0)) (by (with_reducible repeat (first | refine blk_drewN ?_ _ | refine blk_drew ?_ | refine blk_alloc ?_ _)); exact BK11.out) hb); clear O5_0 O5_1 O7 O15 O20_0 O20_1 BK1 BK11 HB Z; have O5_0 := nO5_0_; have O5_1 := nO5_1_; have O7 := nO7_; have O15 := nO15_; have O20_0 := nO20_0_; have O20_1 := nO20_1_; have BK1 := nBK1_; have BK11 := nBK11_; clear nO5_0_ nO5_1_ nO7_ nO15_ nO20_0_ nO20_1_ nBK1_ nBK11_; have O30_0 := Aside0.mk zo0_; have O30_1 := Aside0.mk zo1_; have Q30_1 := Aside0.mk z1_; have HB := Aside0.mk z4_; have Z := Aside0.mk z2_; clear z1_ z2_ z4_ hb ho0 zo0_ ho1 zo1_; obtain ⟨A30_0_, c30_0_, e30_0_⟩ := Kd.R_slice O30_0.out; subst e30_0_; obtain ⟨A30_1_, c30_1_, e30_1_⟩ := Kd.R_slice O30_1.out; subst e30_1_; (try clear hcz29_BK1_0 hfz29_BK1_0 hcz29_BK1_1 hfz29_BK1_1 hcz29_BK1_2 hfz29_BK1_2 hcz29_BK11_0 hfz29_BK11_0 hcz29_BK11_1 hfz29_BK11_1 hcz29_BK11_2 hfz29_BK11_2); have hcz31_BK1_0 : w30_.cell? ⟨gb1_, 0, none⟩ = some (.int .i64 a0) := (blk_cell BK1.out 0).trans rfl; have hfz31_BK1_0 := blk_frozen BK1.out 0; have hcz31_BK1_1 : w30_.cell? ⟨gb1_, 1, none⟩ = some (.slice A0_1 l0_1.length c0_1) := (blk_cell BK1.out 1).trans rfl; have hfz31_BK1_1 := blk_frozen BK1.out 1; have hcz31_BK1_2 : w30_.cell? ⟨gb1_, 2, none⟩ = some (.slice A0_2 l0_2.length c0_2) := (blk_cell BK1.out 2).trans rfl; have hfz31_BK1_2 := blk_frozen BK1.out 2; have hcz31_BK11_0 : w30_.cell? ⟨gb11_, 0, none⟩ = some (.int .i64 a0) := (blk_cell BK11.out 0).trans rfl; have hfz31_BK11_0 := blk_frozen BK11.out 0; have hcz31_BK11_1 : w30_.cell? ⟨gb11_, 1, none⟩ = some (.slice (some ⟨g9_0_, 0, none⟩) l0_1.length (pad l0_1).length) := (blk_cell BK11.out 1).trans rfl; have hfz31_BK11_1 := blk_frozen BK11.out 1; have hcz31_BK11_2 : w30_.cell? ⟨gb11_, 2, none⟩ = some (.slice (some ⟨g9_1_, 0, none⟩) l0_2.length (pad l0_2).length) := (blk_cell BK11.out 2).trans rfl; have hfz31_BK11_2 := blk_frozen BK11.out 2)
    | ((with_reducible refine gate_callee (f := 19) rfl ?_); refine goesL_ (some 76) rfl rfl Try.func19 (by kernel_rfl) rfl #[.agg #[.int .i64 a0, .slice A30_0_ l0_1.length c30_0_, .slice A30_1_ l0_2.length c30_1_]] rfl (by (try simp only [List.map_toArray, List.map_cons, List.map_nil]); first | done | rfl | (simp only [List.length_drop, List.length_take]; rfl)) ?_; (with_reducible refine (impl_SidesOver.calls ki a0 _ _ l0_1 _ _ l0_2 r1 r2 _ ?side1 ?side2 ?side3 ?side4 HI.out).mono ?_); (case side1 => repeat (first | exact (Kd.R_reads' O30_0.out).2.2 | (with_reducible refine Kd.C_alloc ?_ _) | (with_reducible refine Kd.C_drewN ?_ _) | (with_reducible refine Kd.C_drew ?_))); (case side2 => exact (Kd.R_reads' O30_0.out).2.1); (case side3 => repeat (first | exact (Kd.R_reads' O30_1.out).2.2 | (with_reducible refine Kd.C_alloc ?_ _) | (with_reducible refine Kd.C_drewN ?_ _) | (with_reducible refine Kd.C_drew ?_))); (case side4 => exact (Kd.R_reads' O30_1.out).2.1); rintro e w32_ ⟨v32_, rfl, ho0, hb⟩; refine ⟨_, rfl, ?_⟩; obtain ⟨a32_, b32_, z1_, z2_, z3_, z4_⟩ := made (by exact Z.out) (by repeat (first | (with_reducible first | exact HB.out | apply below_alloc | apply pw_below_drewN | apply below_drew1) | exact HB.out)) hb ho0; have nO5_0_ := Aside0.mk (Kd.R_below (by (with_reducible repeat (first | apply Kd.R_alloc | apply Kd.R_drewN | apply Kd.R_drew)); exact O5_0.out) hb); have nO5_1_ := Aside0.mk (Kd.R_below (by (with_reducible repeat (first | apply Kd.R_alloc | apply Kd.R_drewN | apply Kd.R_drew)); exact O5_1.out) hb); have nO7_ := Aside0.mk (Kd.R_below (by (with_reducible repeat (first | apply Kd.R_alloc | apply Kd.R_drewN | apply Kd.R_drew)); exact O7.out) hb); have nO15_ := Aside0.mk (Kd.R_below (by (with_reducible repeat (first | apply Kd.R_alloc | apply Kd.R_drewN | apply Kd.R_drew)); exact O15.out) hb); have nO20_0_ := Aside0.mk (Kd.R_below (by (with_reducible repeat (first | apply Kd.R_alloc | apply Kd.R_drewN | apply Kd.R_drew)); exact O20_0.out) hb); have nO20_1_ := Aside0.mk (Kd.R_below (by (with_reducible repeat (first | apply Kd.R_alloc | apply Kd.R_drewN | apply Kd.R_drew)); exact O20_1.out) hb); have nO30_0_ := Aside0.mk (Kd.R_below (by (with_reducible repeat (first | apply Kd.R_alloc | apply Kd.R_drewN | apply Kd.R_drew)); exact O30_0.out) hb); have nO30_1_ := Aside0.mk (Kd.R_below (by (with_reducible repeat (first | apply Kd.R_alloc | apply Kd.R_drewN | apply Kd.R_drew)); exact O30_1.out) hb); have nBK1_ := Aside0.mk (blk_below (g := gb1_) (o := .cells #[.int .i64 a0, .slice A0_1 l0_1.length c0_1, .slice A0_2 l0_2.length c0_2] 31 (0, 0)) (by (with_reducible repeat (first | refine blk_drewN ?_ _ | refine blk_drew ?_ | refine blk_alloc ?_ _)); exact BK1.out) hb); have nBK11_ := Aside0.mk (blk_below (g := gb11_) (o := .cells #[.int .i64 a0, .slice (some ⟨g9_0_, 0, none⟩) l0_1.length (pad l0_1).length, .slice (some ⟨g9_1_, 0, none⟩) l0_2.length (pad l0_2).length] 36 (0, 0)) (by (with_reducible repeat (first | refine blk_drewN ?_ _ | refine blk_drew ?_ | refine blk_alloc ?_ _)); exact BK11.out) hb); clear O5_0 O5_1 O7 O15 O20_0 O20_1 O30_0 O30_1 BK1 BK11 HB Z; have O5_0 := nO5_0_; have O5_1 := nO5_1_; have O7 := nO7_; have O15 := nO15_; have O20_0 := nO20_0_; have O20_1 := nO20_1_; have O30_0 := nO30_0_; have O30_1 := nO30_1_; have BK1 := nBK1_; have BK11 := nBK11_; clear nO5_0_ nO5_1_ nO7_ nO15_ nO20_0_ nO20_1_ nO30_0_ nO30_1_ nBK1_ nBK11_; have O32 := Aside0.mk z3_; have Q32 := Aside0.mk z1_; have HB := Aside0.mk z4_; have Z := Aside0.mk z2_; clear z1_ z2_ z3_ z4_ hb ho0; obtain ⟨A32_, c32_, e32_⟩ := Kd.R_slice O32.out; subst e32_; (try clear hcz31_BK1_0 hfz31_BK1_0 hcz31_BK1_1 hfz31_BK1_1 hcz31_BK1_2 hfz31_BK1_2 hcz31_BK11_0 hfz31_BK11_0 hcz31_BK11_1 hfz31_BK11_1 hcz31_BK11_2 hfz31_BK11_2); have hcz33_BK1_0 : w32_.cell? ⟨gb1_, 0, none⟩ = some (.int .i64 a0) := (blk_cell BK1.out 0).trans rfl; have hfz33_BK1_0 := blk_frozen BK1.out 0; have hcz33_BK1_1 : w32_.cell? ⟨gb1_, 1, none⟩ = some (.slice A0_1 l0_1.length c0_1) := (blk_cell BK1.out 1).trans rfl; have hfz33_BK1_1 := blk_frozen BK1.out 1; have hcz33_BK1_2 : w32_.cell? ⟨gb1_, 2, none⟩ = some (.slice A0_2 l0_2.length c0_2) := (blk_cell BK1.out 2).trans rfl; have hfz33_BK1_2 := blk_frozen BK1.out 2; have hcz33_BK11_0 : w32_.cell? ⟨gb11_, 0, none⟩ = some (.int .i64 a0) := (blk_cell BK11.out 0).trans rfl; have hfz33_BK11_0 := blk_frozen BK11.out 0; have hcz33_BK11_1 : w32_.cell? ⟨gb11_, 1, none⟩ = some (.slice (some ⟨g9_0_, 0, none⟩) l0_1.length (pad l0_1).length) := (blk_cell BK11.out 1).trans rfl; have hfz33_BK11_1 := blk_frozen BK11.out 1; have hcz33_BK11_2 : w32_.cell? ⟨gb11_, 2, none⟩ = some (.slice (some ⟨g9_1_, 0, none⟩) l0_2.length (pad l0_2).length) := (blk_cell BK11.out 2).trans rfl; have hfz33_BK11_2 := blk_frozen BK11.out 2)
    | ((with_reducible refine gate_callee (f := 20) rfl ?_); refine goesL_ (some 81) rfl rfl Try.func20 (by kernel_rfl) rfl #[.slice A32_ r1.length c32_, .slice A7_ r1.length c7_] rfl (by (try simp only [List.map_toArray, List.map_cons, List.map_nil]); first | done | rfl | (simp only [List.length_drop, List.length_take]; rfl)) ?_; (with_reducible refine (laws_eqIntervalS.calls (r1.length + 1) _ _ r1 _ _ r1 true _ ?side1 ?side2 ?side3 ?side4 HE.out).mono ?_); (case side1 => repeat (first | exact (Kd.R_reads' O32.out).2.2 | (with_reducible refine Kd.C_alloc ?_ _) | (with_reducible refine Kd.C_drewN ?_ _) | (with_reducible refine Kd.C_drew ?_))); (case side2 => exact (Kd.R_reads' O32.out).2.1); (case side3 => repeat (first | exact (Kd.R_reads' O7.out).2.2 | (with_reducible refine Kd.C_alloc ?_ _) | (with_reducible refine Kd.C_drewN ?_ _) | (with_reducible refine Kd.C_drew ?_))); (case side4 => exact (Kd.R_reads' O7.out).2.1); rintro e w34_ ⟨rfl, hb⟩; refine ⟨_, rfl, ?_⟩; obtain ⟨z2_, z4_⟩ := still (by exact Z.out) (by repeat (first | (with_reducible first | exact HB.out | apply below_alloc | apply pw_below_drewN | apply below_drew1) | exact HB.out)) hb; have nO5_0_ := Aside0.mk (Kd.R_below (by (with_reducible repeat (first | apply Kd.R_alloc | apply Kd.R_drewN | apply Kd.R_drew)); exact O5_0.out) hb); have nO5_1_ := Aside0.mk (Kd.R_below (by (with_reducible repeat (first | apply Kd.R_alloc | apply Kd.R_drewN | apply Kd.R_drew)); exact O5_1.out) hb); have nO7_ := Aside0.mk (Kd.R_below (by (with_reducible repeat (first | apply Kd.R_alloc | apply Kd.R_drewN | apply Kd.R_drew)); exact O7.out) hb); have nO15_ := Aside0.mk (Kd.R_below (by (with_reducible repeat (first | apply Kd.R_alloc | apply Kd.R_drewN | apply Kd.R_drew)); exact O15.out) hb); have nO20_0_ := Aside0.mk (Kd.R_below (by (with_reducible repeat (first | apply Kd.R_alloc | apply Kd.R_drewN | apply Kd.R_drew)); exact O20_0.out) hb); have nO20_1_ := Aside0.mk (Kd.R_below (by (with_reducible repeat (first | apply Kd.R_alloc | apply Kd.R_drewN | apply Kd.R_drew)); exact O20_1.out) hb); have nO30_0_ := Aside0.mk (Kd.R_below (by (with_reducible repeat (first | apply Kd.R_alloc | apply Kd.R_drewN | apply Kd.R_drew)); exact O30_0.out) hb); have nO30_1_ := Aside0.mk (Kd.R_below (by (with_reducible repeat (first | apply Kd.R_alloc | apply Kd.R_drewN | apply Kd.R_drew)); exact O30_1.out) hb); have nO32_ := Aside0.mk (Kd.R_below (by (with_reducible repeat (first | apply Kd.R_alloc | apply Kd.R_drewN | apply Kd.R_drew)); exact O32.out) hb); have nBK1_ := Aside0.mk (blk_below (g := gb1_) (o := .cells #[.int .i64 a0, .slice A0_1 l0_1.length c0_1, .slice A0_2 l0_2.length c0_2] 31 (0, 0)) (by (with_reducible repeat (first | refine blk_drewN ?_ _ | refine blk_drew ?_ | refine blk_alloc ?_ _)); exact BK1.out) hb); have nBK11_ := Aside0.mk (blk_below (g := gb11_) (o := .cells #[.int .i64 a0, .slice (some ⟨g9_0_, 0, none⟩) l0_1.length (pad l0_1).length, .slice (some ⟨g9_1_, 0, none⟩) l0_2.length (pad l0_2).length] 36 (0, 0)) (by (with_reducible repeat (first | refine blk_drewN ?_ _ | refine blk_drew ?_ | refine blk_alloc ?_ _)); exact BK11.out) hb); clear O5_0 O5_1 O7 O15 O20_0 O20_1 O30_0 O30_1 O32 BK1 BK11 HB Z; have O5_0 := nO5_0_; have O5_1 := nO5_1_; have O7 := nO7_; have O15 := nO15_; have O20_0 := nO20_0_; have O20_1 := nO20_1_; have O30_0 := nO30_0_; have O30_1 := nO30_1_; have O32 := nO32_; have BK1 := nBK1_; have BK11 := nBK11_; clear nO5_0_ nO5_1_ nO7_ nO15_ nO20_0_ nO20_1_ nO30_0_ nO30_1_ nO32_ nBK1_ nBK11_; have HB := Aside0.mk z4_; have Z := Aside0.mk z2_; clear z2_ z4_ hb; (try clear hcz33_BK1_0 hfz33_BK1_0 hcz33_BK1_1 hfz33_BK1_1 hcz33_BK1_2 hfz33_BK1_2 hcz33_BK11_0 hfz33_BK11_0 hcz33_BK11_1 hfz33_BK11_1 hcz33_BK11_2 hfz33_BK11_2); have hcz35_BK1_0 : w34_.cell? ⟨gb1_, 0, none⟩ = some (.int .i64 a0) := (blk_cell BK1.out 0).trans rfl; have hfz35_BK1_0 := blk_frozen BK1.out 0; have hcz35_BK1_1 : w34_.cell? ⟨gb1_, 1, none⟩ = some (.slice A0_1 l0_1.length c0_1) := (blk_cell BK1.out 1).trans rfl; have hfz35_BK1_1 := blk_frozen BK1.out 1; have hcz35_BK1_2 : w34_.cell? ⟨gb1_, 2, none⟩ = some (.slice A0_2 l0_2.length c0_2) := (blk_cell BK1.out 2).trans rfl; have hfz35_BK1_2 := blk_frozen BK1.out 2; have hcz35_BK11_0 : w34_.cell? ⟨gb11_, 0, none⟩ = some (.int .i64 a0) := (blk_cell BK11.out 0).trans rfl; have hfz35_BK11_0 := blk_frozen BK11.out 0; have hcz35_BK11_1 : w34_.cell? ⟨gb11_, 1, none⟩ = some (.slice (some ⟨g9_0_, 0, none⟩) l0_1.length (pad l0_1).length) := (blk_cell BK11.out 1).trans rfl; have hfz35_BK11_1 := blk_frozen BK11.out 1; have hcz35_BK11_2 : w34_.cell? ⟨gb11_, 2, none⟩ = some (.slice (some ⟨g9_1_, 0, none⟩) l0_2.length (pad l0_2).length) := (blk_cell BK11.out 2).trans rfl; have hfz35_BK11_2 := blk_frozen BK11.out 2)
    | ((with_reducible refine gate_callee (f := 24) rfl ?_); refine goesL_ (some 90) rfl rfl Try.func24 (by kernel_rfl) rfl #[.slice A15_ r1.length c15_, .int .i64 101] rfl (by (try simp only [List.map_toArray, List.map_cons, List.map_nil]); first | done | rfl | (simp only [List.length_drop, List.length_take]; rfl)) ?_; (with_reducible refine (heldV_calls kh _ _ r1.length 101 mg _ ?side1 ?side2 HH.out).mono ?_); (case side1 => repeat (first | exact (Kd.R_reads' O15.out).2.2 | (with_reducible refine Kd.C_alloc ?_ _) | (with_reducible refine Kd.C_drewN ?_ _) | (with_reducible refine Kd.C_drew ?_))); (case side2 => exact (by have h_ := (Kd.R_reads' O15.out).2.1; simpa [marksV_length] using h_)); rintro e w' ⟨rfl, ⟨nd, rfl⟩⟩; refine ⟨_, rfl, ?_⟩))
  go_ret
  exact ⟨by first | rfl | (simp; done), by repeat (first | (with_reducible first | exact HB.out | apply below_alloc | apply pw_below_drewN | apply below_drew1) | exact HB.out)⟩
set_option maxHeartbeats 8000000 in
set_option maxRecDepth 100000 in
theorem law_big0 (a0 : Int) (A0_1 : Option Addr) (c0_1 : Nat) (l0_1 : List Int) (A0_2 : Option Addr) (c0_2 : Nat) (l0_2 : List Int) (w : World) (hr0_1 : Kd.C (Kd.int .i64) w A0_1 l0_1.length l0_1) (hc0_1 : l0_1.length ≤ c0_1) (hr0_2 : Kd.C (Kd.int .i64) w A0_2 l0_2.length l0_2) (hc0_2 : l0_2.length ≤ c0_2) (hn : ¬ l0_1.length + l0_2.length ≤ 1000000) :
    Calls Try.prog 4 #[.agg #[.int .i64 a0, .slice A0_1 l0_1.length c0_1, .slice A0_2 l0_2.length c0_2]] w fun e w' => e = .returned (.bool true) ∧ Below w.heap.size w w' := by
  have HR0_1 := Aside0.mk hr0_1; have HC0_1 := Aside0.mk hc0_1; have hm0_1 := hr0_1.2.1
  have HR0_2 := Aside0.mk hr0_2; have HC0_2 := Aside0.mk hc0_2; have hm0_2 := hr0_2.2.1
  obtain ⟨s0, hs0⟩ : ∃ s : Int, s = (-1) := ⟨_, rfl⟩
  have hzs0 : laws_szBox.f a0 l0_1 l0_2 1000000 = some s0 := by unfold laws_szBox.f; unfold laws_szIntS.f; (by_cases hA_ : wrap64 (1000000 - (l0_1.length : Int)) < 0 <;> by_cases hB_ : wrap64 (wrap64 (1000000 - (l0_1.length : Int)) - (l0_2.length : Int)) < 0 <;> simp [hA_, hB_] <;> (unfold wrap64 at *; omega))
  have HSZ0 := Aside0.mk hzs0
  have cs0 : decide (s0 < 0) = true := decide_eq_true (by omega)
  have HB := Aside0.mk (Below.refl w.heap.size w)
  have Z := Aside0.mk (Nat.zero_le w.heap.size)
  clear hn hr0_1 hc0_1 hm0_1 hr0_2 hc0_2 hm0_2 hs0 hzs0
  go_enter Try.func4, Try.ntmps4
  go_wp2_with (first
    | ((with_reducible refine gate_dst (N := 1) rfl ?_); refine box_event ?hg (N := 1) ?hd (cs := #[.int .i64 a0, .slice A0_1 l0_1.length c0_1, .slice A0_2 l0_2.length c0_2]) (t := 31) ?hr ?_; (case hd => rfl); (case hg => rfl); (case hr => first | (go_simp; done) | (go_simp; rfl)); intro gb1_ hg w1_ hbox hb; obtain ⟨z2_, z4_⟩ := still (by exact Z.out) (by repeat (first | (with_reducible first | exact HB.out | apply below_alloc | apply pw_below_drewN | apply below_drew1) | exact HB.out)) hb; have GB1 : Aside0 (0 ≤ gb1_) := ⟨by rw [hg]; exact Z.out⟩; have zb_ : gb1_ + 1 ≤ w1_.heap.size := blk_lt hbox; have BK1 := Aside0.mk hbox; clear HB Z; have HB := Aside0.mk z4_; have Z := Aside0.mk zb_; clear z2_ z4_ zb_ hb hg hbox; have hcz2_BK1_0 : w1_.cell? ⟨gb1_, 0, none⟩ = some (.int .i64 a0) := (blk_cell BK1.out 0).trans rfl; have hfz2_BK1_0 := blk_frozen BK1.out 0; have hcz2_BK1_1 : w1_.cell? ⟨gb1_, 1, none⟩ = some (.slice A0_1 l0_1.length c0_1) := (blk_cell BK1.out 1).trans rfl; have hfz2_BK1_1 := blk_frozen BK1.out 1; have hcz2_BK1_2 : w1_.cell? ⟨gb1_, 2, none⟩ = some (.slice A0_2 l0_2.length c0_2) := (blk_cell BK1.out 2).trans rfl; have hfz2_BK1_2 := blk_frozen BK1.out 2)
    | ((with_reducible refine gate_callee (f := 16) rfl ?_); refine goesL_ (some 16) rfl rfl Try.func16 (by kernel_rfl) rfl #[.agg #[.int .i64 a0, .slice A0_1 l0_1.length c0_1, .slice A0_2 l0_2.length c0_2], .int .i64 1000000] rfl (by (try simp only [List.map_toArray, List.map_cons, List.map_nil]); first | done | rfl | (simp only [List.length_drop, List.length_take]; rfl)) ?_; (with_reducible refine (laws_szBox.calls a0 _ _ l0_1 _ _ l0_2 1000000 s0 _ ?side1 ?side2 ?side3 ?side4 HSZ0.out).mono ?_); (case side1 => repeat (first | exact HR0_1.out | exact (Kd.C_below HR0_1.out (by repeat (first | (with_reducible first | exact HB.out | apply below_alloc | apply pw_below_drewN | apply below_drew1) | exact HB.out))) | (with_reducible refine Kd.C_alloc ?_ _) | (with_reducible refine Kd.C_drewN ?_ _) | (with_reducible refine Kd.C_drew ?_))); (case side2 => exact HC0_1.out); (case side3 => repeat (first | exact HR0_2.out | exact (Kd.C_below HR0_2.out (by repeat (first | (with_reducible first | exact HB.out | apply below_alloc | apply pw_below_drewN | apply below_drew1) | exact HB.out))) | (with_reducible refine Kd.C_alloc ?_ _) | (with_reducible refine Kd.C_drewN ?_ _) | (with_reducible refine Kd.C_drew ?_))); (case side4 => exact HC0_2.out); rintro e w3_ ⟨rfl, hb⟩; refine ⟨_, rfl, ?_⟩; obtain ⟨z2_, z4_⟩ := still (by exact Z.out) (by repeat (first | (with_reducible first | exact HB.out | apply below_alloc | apply pw_below_drewN | apply below_drew1) | exact HB.out)) hb; have nBK1_ := Aside0.mk (blk_below (g := gb1_) (o := .cells #[.int .i64 a0, .slice A0_1 l0_1.length c0_1, .slice A0_2 l0_2.length c0_2] 31 (0, 0)) (by (with_reducible repeat (first | refine blk_drewN ?_ _ | refine blk_drew ?_ | refine blk_alloc ?_ _)); exact BK1.out) hb); clear BK1 HB Z; have BK1 := nBK1_; clear nBK1_; have HB := Aside0.mk z4_; have Z := Aside0.mk z2_; clear z2_ z4_ hb; (try clear hcz2_BK1_0 hfz2_BK1_0 hcz2_BK1_1 hfz2_BK1_1 hcz2_BK1_2 hfz2_BK1_2); have hcz4_BK1_0 : w3_.cell? ⟨gb1_, 0, none⟩ = some (.int .i64 a0) := (blk_cell BK1.out 0).trans rfl; have hfz4_BK1_0 := blk_frozen BK1.out 0; have hcz4_BK1_1 : w3_.cell? ⟨gb1_, 1, none⟩ = some (.slice A0_1 l0_1.length c0_1) := (blk_cell BK1.out 1).trans rfl; have hfz4_BK1_1 := blk_frozen BK1.out 1; have hcz4_BK1_2 : w3_.cell? ⟨gb1_, 2, none⟩ = some (.slice A0_2 l0_2.length c0_2) := (blk_cell BK1.out 2).trans rfl; have hfz4_BK1_2 := blk_frozen BK1.out 2))
  go_ret
  exact ⟨by first | rfl | (simp; done), by repeat (first | (with_reducible first | exact HB.out | apply below_alloc | apply pw_below_drewN | apply below_drew1) | exact HB.out)⟩
def Pure : Prop := ∀ (a0 : Int) (l0_1 l0_2 : List Int), l0_1.length + l0_2.length ≤ 1000000 → ∃ (ks ki : Nat) (r1 : List S92) (r2 : Bool), spec_SidesOver.f ks a0 l0_1 l0_2 = some (r1, r2) ∧ impl_SidesOver.f ki a0 l0_1 l0_2 = some (r1, r2) ∧ r1.length ≤ 1000000
theorem law_holds (P_ : Pure) (a0 : Int) (A0_1 : Option Addr) (c0_1 : Nat) (l0_1 : List Int) (A0_2 : Option Addr) (c0_2 : Nat) (l0_2 : List Int) (w : World) (hr0_1 : Kd.C (Kd.int .i64) w A0_1 l0_1.length l0_1) (hc0_1 : l0_1.length ≤ c0_1) (hr0_2 : Kd.C (Kd.int .i64) w A0_2 l0_2.length l0_2) (hc0_2 : l0_2.length ≤ c0_2) :
    Calls Try.prog 4 #[.agg #[.int .i64 a0, .slice A0_1 l0_1.length c0_1, .slice A0_2 l0_2.length c0_2]] w fun e w' => e = .returned (.bool true) ∧ Below w.heap.size w w' := by
  by_cases hn0 : l0_1.length + l0_2.length ≤ 1000000
  case neg => exact law_big0 a0 A0_1 c0_1 l0_1 A0_2 c0_2 l0_2 w hr0_1 hc0_1 hr0_2 hc0_2 hn0
  have hn := hn0
  obtain ⟨ks, ki, r1, r2, hs, hi, hg⟩ := P_ a0 l0_1 l0_2 (by omega)
  obtain ⟨kb0, hba0⟩ := toBox_bare a0 l0_1 l0_2 (by omega) (by omega)
  exact law_walk a0 A0_1 c0_1 l0_1 A0_2 c0_2 l0_2  kb0 w hr0_1 hc0_1 hr0_2 hc0_2   hba0 (by omega) ks ki r1 r2 hs hi hg
end Go.Proofs.Ytalcohajbcijlaa.QSid
