/- The walk of the law FnExactIsBoxPoint: what its calls come to. -/
import Derived.Test.YtalcohajbcijlaaQBpx
namespace Go.Proofs.Ytalcohajbcijlaa.QBp
open Go.RowKit Go.Proofs.YtalcohajbcijlaaW.PrintWords Go.Proofs.YtalcohajbcijlaaW.PrintLast Go.Proofs.YtalcohajbcijlaaW.PrintMore
set_option linter.unusedVariables false
set_option linter.unusedSimpArgs false
section
variable {P : Program} {ops : Array Oper} {rest : List Oper} {o : Oper} {a : Act} {Q : Exit → Act → World → Prop} {α : Type}
theorem lit_whole (d : Kd α) {w0 W : World} (base e : Nat) (hgd : o.guard = none) {N : Tmp} (hd : o.dst = some N) {xs : List α} {inner : List Value} {ok okp : Nat → Prop}
    (hrun : (execOp a.eval o).run P W = .ok (.value (.slice (some ⟨W.heap.size, 0, none⟩) xs.length xs.length)) (W.alloc (.cells inner.toArray e)))
    (hrep : Reps (d.M W base okp) d.sz xs inner) (hok : ∀ k, okp k → ok k) (hfresh : ok W.heap.size) (HB : Below base w0 W) (hbase : base ≤ W.heap.size) (hm : xs.length ≤ 9223372036854775807)
    (h : ∀ g w1, d.R e w1 base ok (.slice (some ⟨g, 0, none⟩) xs.length xs.length) xs → Below base w0 w1 → W.grownBy w1 none → base ≤ g → wpList P ops Q rest (a.put o.dst (.slice (some ⟨g, 0, none⟩) xs.length xs.length)) w1) : wpList P ops Q (o :: rest) a W := by
  refine Kd.event_run hgd hrun (h _ _ ⟨fun k hk => ?_, inner, ?_, ?_⟩ (HB.alloc hbase _) (World.grownBy_alloc W _ none) hbase)
  · have : W.heap.size = k := by simpa [Value.ownBlock] using hk
    subst this
    exact hfresh
  · have h2 := World.ownsRow_lit (base := base) (e := e) (size := d.sz) W inner.toArray xs.length hbase (by simpa [maxLen] using hm) (by simpa using hrep.1)
    simpa using h2
  · refine hrep.imp_ (fun p c hp => d.M_mono (fun k hk => ⟨hok k hk.1, fun he => ?_⟩) (Kd.M_below (d.M_bound hp) (below_alloc (Below.refl _ _) _)))
    have h3 : k = W.heap.size := by simpa [Value.ownBlock] using he
    have := hk.2.2.1
    omega
/-- 'make', the row told whole: its capacity is its length. -/
theorem make_whole (d : Kd α) {w0 W : World} (base e : Nat) (hgd : o.guard = none) {N : Tmp} (hd : o.dst = some N) (t : TypeId) (x y : Operand) (ho : o.op = .makeSlice t x y) (n : Int) (hx : a.eval x = .int .i64 n) (hy : a.eval y = .int .i64 n)
    (ht : P.underlying t = some (.slice e)) (z : Value) (bytes : Nat) (hinfo : (P.info? e).map (fun i => (i.zero, i.size, i.bytes)) = some (some z, d.sz, bytes)) (hz : z.cells.size = d.sz) (hs0 : 0 < d.sz) (hb0 : 0 < bytes)
    (z0 : α) {ok okp : Nat → Prop} (hzero : d.M W base okp z0 z.cells.toList) (hok : ∀ k, okp k → ok k) (hfresh : ok W.heap.size) (h0 : 0 ≤ n) (hl : n.toNat * bytes ≤ 281474976710656) (HB : Below base w0 W) (hbase : base ≤ W.heap.size)
    (h : ∀ g w1, d.R e w1 base ok (.slice (some ⟨g, 0, none⟩) n.toNat n.toNat) (List.replicate n.toNat z0) → Below base w0 w1 → W.grownBy w1 none → base ≤ g → wpList P ops Q rest (a.put o.dst (.slice (some ⟨g, 0, none⟩) n.toNat n.toNat)) w1) : wpList P ops Q (o :: rest) a W := by
  obtain ⟨m, rfl⟩ := Int.eq_ofNat_of_zero_le h0
  simp only [Int.toNat_natCast] at hl h
  obtain ⟨i0, hi, hzz⟩ := Option.map_eq_some_iff.1 hinfo
  simp only [Prod.mk.injEq] at hzz
  obtain ⟨hz0, hz1, hz2⟩ := hzz
  have hm : m ≤ 281474976710656 := Nat.le_trans (Nat.le_mul_of_pos_right _ hb0) hl
  have hr := run_make (P := P) W t e i0 z ht hi hz0 .i64 .i64 (m : Int) (m : Int) (by omega) (by omega)
    (by
      have h3 : ((i0.bytes * m : Nat) : Int) ≤ 281474976710656 := by rw [hz2, Nat.mul_comm]; omega
      rwa [Int.natCast_mul] at h3) (by omega)
  simp only [Int.toNat_natCast] at hr
  rw [hz1] at hr
  refine lit_whole d base e hgd hd (xs := List.replicate m z0) (inner := (madeCells z.cells (m * d.sz)).toList) (okp := okp) (ok := ok) ?_ (Kd.reps_made hz hs0 hzero m) hok hfresh HB hbase (by simp; omega) (by simpa using h)
  simp [execOp, ho, hx, hy, hr]
end
theorem cut_room {P : Program} (t e : TypeId) (kh : IntKind) {i : TypeInfo} (ht : P.underlying t = some (.slice e)) (hi : P.info? e = some i) (A : Option Addr) (n c : Nat) (j : Int) (h0 : 0 ≤ j) (hc : j ≤ c) :
    ∀ W : World, (Instr.slice t (.slice A n c) none (some (.int kh j)) none).run P W = .ok (.slice A j.toNat c) W := by
  intro W
  have hel : P.elem t = e := by simp [Program.elem, ht]
  have hu : P.underlying t = some (.slice (P.elem t)) := by rw [hel]; exact ht
  have ha : (A.map fun x => x.add 0) = A := by cases A <;> simp [Addr.add]
  rw [run_slice_h W t A n c hu kh j h0 hc, hel]
  simp [sizeOf, typeInfo, hi, sliced, Result.andThen, ha]
section
variable {α : Type} {d : Kd α}
/-- The begin of a row that is read. -/
theorem C_begin {w : World} {A : Option Addr} {n : Nat} {xs ys : List α} (h : d.C w A n (xs ++ ys)) : d.C w A xs.length xs := by
  obtain ⟨h1, h2, h3⟩ := h
  simp only [List.length_append] at h1
  refine ⟨rfl, by omega, fun hp => ?_⟩
  obtain ⟨ad, e, hc⟩ := h3 (by omega)
  refine ⟨ad, e, fun j p hj => hc j p ?_⟩
  rw [List.getElem?_append_left (List.getElem?_eq_some_iff.1 hj).1]
  exact hj
end
theorem made {α : Type} {d : Kd α} {e : Nat} {v : Value} {xs : List α} {w W W' : World} {bp : Nat} (hp : bp ≤ W.heap.size) (hB : Below w.heap.size w W) (hb : Below W.heap.size W W') (ho : d.R e W' W.heap.size (fun _ => True) v xs) :
    ∃ a b, (bp ≤ a ∧ a ≤ b) ∧ b ≤ W'.heap.size ∧ d.R e W' w.heap.size (fun k => a ≤ k ∧ k < b) v xs ∧ Below w.heap.size w W' :=
  ⟨W.heap.size, W'.heap.size, ⟨hp, hb.size⟩, Nat.le_refl _, Kd.R_lower (Kd.R_mono (Kd.R_bound ho) (fun k hk => ⟨hk.2.1, hk.2.2.1⟩)) hB.size, below_step hB hb⟩
theorem still {w W W' : World} {bp : Nat} (hp : bp ≤ W.heap.size) (hB : Below w.heap.size w W) (hb : Below W.heap.size W W') : bp ≤ W'.heap.size ∧ Below w.heap.size w W' := ⟨Nat.le_trans hp hb.size, below_step hB hb⟩
def room (n : Nat) : Nat := if n % 6 = 5 then 0 else if n % 3 = 0 then 1 else n
theorem room_le (n : Nat) : room n ≤ n + 1 := by unfold room; split <;> (try split) <;> omega
theorem roomBehind_eq (n : Nat) : laws_roomBehind.f (n : Int) = some (room n : Int) := by
  have h6 : Int.tmod (n : Int) 6 = ((n % 6 : Nat) : Int) := by rw [Int.tmod_eq_emod_of_nonneg (by omega)]; rfl
  have h3 : Int.tmod (n : Int) 3 = ((n % 3 : Nat) : Int) := by rw [Int.tmod_eq_emod_of_nonneg (by omega)]; rfl
  unfold laws_roomBehind.f room
  rw [h6, h3]
  by_cases a : n % 6 = 5
  · rw [if_pos (by omega), if_pos a]; rfl
  · rw [if_neg (by omega), if_neg a]
    by_cases b : n % 3 = 0
    · rw [if_pos (by omega), if_pos b]; rfl
    · rw [if_neg (by omega), if_neg b]
theorem padr {α : Type} {d : Kd α} {e : Nat} {w : World} {b : Nat} {ok : Nat → Prop} {A : Option Addr} {c : Nat} {q P : List α} (hp : ∃ f, P = q ++ f) (h : d.R e w b ok (.slice A P.length c) P) : d.C w A q.length q := by
  obtain ⟨f, rfl⟩ := hp
  exact C_begin (Kd.R_reads' h).2.2
theorem padl {α : Type} {q P : List α} {c : Nat} (hp : ∃ f, P = q ++ f) (h : P.length ≤ c) : q.length ≤ c := by
  obtain ⟨f, rfl⟩ := hp
  simp at h; omega
mutual
def laws_toDyadicSW.j0 : Nat → List (S82) → Bool → Option ((List (S44)))
  | 0, _, _ => none
  | k + 1, x0, x13 => if x13 = true then (none) else ((laws_roomBehind.f (x0.length : Int)).bind fun t150 => (if 0 ≤ (wrap64 ((x0.length : Int) + t150)) then (if (wrap64 ((x0.length : Int) + t150) : Int).toNat ≤ 17592186044416 then (laws_toDyadicSW.l0 k x0 (List.replicate (wrap64 ((x0.length : Int) + t150) : Int).toNat z44) 0) else (none)) else (none)))
def laws_toDyadicSW.l0 : Nat → List (S82) → List (S44) → Int → Option ((List (S44)))
  | 0, _, _, _ => none
  | k + 1, x0, x5, x6 => if x6 < (x0.length : Int) then (if 0 ≤ x6 then ((laws_toDyadic.f ((rd_T82 x0 x6).f0) ((rd_T82 x0 x6).f1)).bind fun bt155 => (if x6 < (x5.length : Int) then (laws_toDyadicSW.l0 k x0 (x5.set (x6 : Int).toNat (⟨bt155.1, bt155.2⟩ : S44)) (wrap64 (x6 + 1))) else (none))) else (none)) else (laws_toDyadicSW.l1 k x0 x5 (x0.length : Int))
def laws_toDyadicSW.l1 : Nat → List (S82) → List (S44) → Int → Option ((List (S44)))
  | 0, _, _, _ => none
  | k + 1, x0, x5, x7 => if x7 < (x5.length : Int) then ((laws_fillerDyadic.f).bind fun bt158 => (if 0 ≤ x7 then (laws_toDyadicSW.l1 k x0 (x5.set (x7 : Int).toNat (⟨bt158.1, bt158.2⟩ : S44)) (wrap64 (x7 + 1))) else (none))) else (if 0 ≤ (x0.length : Int) then (if (x0.length : Int) ≤ (x5.length : Int) then (some x5) else (none)) else (none))
end
def laws_toDyadicSW.f (k : Nat) (l0 : List (S82)) (a1 : Bool) : Option ((List (S44))) := if a1 = true then (laws_toDyadicSW.j0 k l0 ((l0.length : Int) == 0)) else (laws_toDyadicSW.j0 k l0 false)
theorem laws_toDyadicSW.mono_l : ∀ k, (∀ y0 y1, LeO (laws_toDyadicSW.j0 k y0 y1) (laws_toDyadicSW.j0 (k + 1) y0 y1)) ∧ (∀ y0 y1 y2, LeO (laws_toDyadicSW.l0 k y0 y1 y2) (laws_toDyadicSW.l0 (k + 1) y0 y1 y2)) ∧ (∀ y0 y1 y2, LeO (laws_toDyadicSW.l1 k y0 y1 y2) (laws_toDyadicSW.l1 (k + 1) y0 y1 y2))
  | 0 => ⟨fun _ _ r h => by simp [laws_toDyadicSW.j0] at h, fun _ _ _ r h => by simp [laws_toDyadicSW.l0] at h, fun _ _ _ r h => by simp [laws_toDyadicSW.l1] at h⟩
  | k + 1 => by
    obtain ⟨ih0, ih1, ih2⟩ := laws_toDyadicSW.mono_l k
    refine ⟨?_, ?_, ?_⟩
    · intro y0 y1
      unfold laws_toDyadicSW.j0
      repeat' first
      | (with_reducible exact ih0 _ _)
      | (with_reducible exact ih1 _ _ _)
      | (with_reducible exact ih2 _ _ _)
      | (with_reducible exact LeO.refl _)
      | (with_reducible exact LeO.none _)
      | (with_reducible refine LeO.ite ?_ ?_)
      | (with_reducible refine LeO.bind ?_ (fun _ => ?_))
      | exact ih0 _ _
      | exact ih1 _ _ _
      | exact ih2 _ _ _
      | exact LeO.none _
      | refine LeO.ite ?_ ?_
      | refine LeO.bind ?_ (fun _ => ?_)
    · intro y0 y1 y2
      unfold laws_toDyadicSW.l0
      repeat' first
      | (with_reducible exact ih0 _ _)
      | (with_reducible exact ih1 _ _ _)
      | (with_reducible exact ih2 _ _ _)
      | (with_reducible exact LeO.refl _)
      | (with_reducible exact LeO.none _)
      | (with_reducible refine LeO.ite ?_ ?_)
      | (with_reducible refine LeO.bind ?_ (fun _ => ?_))
      | exact ih0 _ _
      | exact ih1 _ _ _
      | exact ih2 _ _ _
      | exact LeO.none _
      | refine LeO.ite ?_ ?_
      | refine LeO.bind ?_ (fun _ => ?_)
    · intro y0 y1 y2
      unfold laws_toDyadicSW.l1
      repeat' first
      | (with_reducible exact ih0 _ _)
      | (with_reducible exact ih1 _ _ _)
      | (with_reducible exact ih2 _ _ _)
      | (with_reducible exact LeO.refl _)
      | (with_reducible exact LeO.none _)
      | (with_reducible refine LeO.ite ?_ ?_)
      | (with_reducible refine LeO.bind ?_ (fun _ => ?_))
      | exact ih0 _ _
      | exact ih1 _ _ _
      | exact ih2 _ _ _
      | exact LeO.none _
      | refine LeO.ite ?_ ?_
      | refine LeO.bind ?_ (fun _ => ?_)
theorem laws_toDyadicSW.mono : ∀ a0 a1 k, LeO (laws_toDyadicSW.f k a0 a1) (laws_toDyadicSW.f (k + 1) a0 a1) := by
  intro a0 a1 k
  obtain ⟨ih0, ih1, ih2⟩ := laws_toDyadicSW.mono_l k
  unfold laws_toDyadicSW.f
  repeat' first
      | (with_reducible exact ih0 _ _)
      | (with_reducible exact ih1 _ _ _)
      | (with_reducible exact ih2 _ _ _)
      | (with_reducible exact LeO.refl _)
      | (with_reducible exact LeO.none _)
      | (with_reducible refine LeO.ite ?_ ?_)
      | (with_reducible refine LeO.bind ?_ (fun _ => ?_))
      | exact ih0 _ _
      | exact ih1 _ _ _
      | exact ih2 _ _ _
      | exact LeO.none _
      | refine LeO.ite ?_ ?_
      | refine LeO.bind ?_ (fun _ => ?_)
set_option maxHeartbeats 8000000 in
set_option maxRecDepth 100000 in
theorem laws_toDyadicSW.calls (k : Nat) (A0 : Option Addr) (c0 : Nat) (l0 : List (S82)) (a1 : Bool) (r : List (S44)) (w : World) (hr0 : Kd.C k82 w A0 l0.length l0) (hc0 : l0.length ≤ c0) (h : laws_toDyadicSW.f k l0 a1 = some r) :
    Calls Try.prog 13 #[.slice A0 l0.length c0, .bool a1] w fun e w' => ∃ (Ac_ : Option Addr) (cc_ : Nat), e = .returned (.slice Ac_ l0.length cc_) ∧ Kd.R k44 44 w' w.heap.size (fun _ => True) (.slice Ac_ r.length cc_) r ∧ Below w.heap.size w w' := by
  have hu82 := Try.underlying82
  have hu44 := Try.underlying44
  have HR0 := Aside0.mk hr0
  have HC0 := Aside0.mk hc0
  clear hr0 hc0
  have HB := Aside0.mk (Below.refl w.heap.size w)
  have H : (if a1 = true then (laws_toDyadicSW.j0 k l0 ((l0.length : Int) == 0)) else (laws_toDyadicSW.j0 k l0 false)) = some r := h
  clear h
  have HC3 := Aside0.mk H
  clear H
  go_enter Try.func13, Try.ntmps13
  go_upto_region 1 with (fail)
  go_cut [13] (fun v13 wc => ∃ (kq : Nat) (x13_2 : Bool), v13 = .bool x13_2 ∧ Aside0 (laws_toDyadicSW.j0 kq l0 x13_2 = some r) ∧ Aside0 (kq ≤ k) ∧ Aside0 (Below w.heap.size w wc))
  case first =>
    have H := HC3.out
    clear HC3
    by_cases c4 : a1 = true
    · subst c4
      have H1 : (laws_toDyadicSW.j0 k l0 ((l0.length : Int) == 0)) = some r := by rw [if_pos rfl] at H; exact H
      clear H
      have H := H1
      clear H1
      have H' := Aside0.mk H
      clear H
      go_wp2
      go_meet
      case rel => exact ⟨_, (((l0.length : Int) == 0)), (by first | rfl | (simp; done) | (simp [*]; done)), H', ⟨by first | omega | exact Nat.le_refl _⟩, ⟨by repeat (first | (with_reducible first | exact HB.out | apply below_alloc | apply pw_below_drewN | apply below_drew1) | exact HB.out)⟩⟩
    · replace c4 := Bool.eq_false_iff.mpr c4
      subst c4
      have H1 : (laws_toDyadicSW.j0 k l0 false) = some r := by rw [if_neg (show ¬ (false = true) by decide)] at H; exact H
      clear H
      have H := H1
      clear H1
      have H' := Aside0.mk H
      clear H
      go_wp2
      go_meet
      case rel => exact ⟨_, (false), (by first | rfl | (simp; done) | (simp [*]; done)), H', ⟨by first | omega | exact Nat.le_refl _⟩, ⟨by repeat (first | (with_reducible first | exact HB.out | apply below_alloc | apply pw_below_drewN | apply below_drew1) | exact HB.out)⟩⟩
  case rest =>
    clear HC3
    try clear c1
    try clear p2
    try clear c4
    obtain ⟨kq, x13_2, rfl, HA, HJ2, HB⟩ := hcut
    cases kq with
    | zero => exact absurd HA.out (by simp [laws_toDyadicSW.j0])
    | succ kj2 =>
      have H := HA.out
      clear HA
      simp only [laws_toDyadicSW.j0] at H
      by_cases c5 : x13_2 = true
      · subst c5
        have H1 : none = some r := by rw [if_pos rfl] at H; exact H
        exact absurd H1 (by simp)
      · replace c5 := Bool.eq_false_iff.mpr c5
        subst c5
        have H1 : ((laws_roomBehind.f (l0.length : Int)).bind fun t150 => (if 0 ≤ (wrap64 ((l0.length : Int) + t150)) then (if (wrap64 ((l0.length : Int) + t150) : Int).toNat ≤ 17592186044416 then (laws_toDyadicSW.l0 kj2 l0 (List.replicate (wrap64 ((l0.length : Int) + t150) : Int).toNat z44) 0) else (none)) else (none))) = some r := by rw [if_neg (show ¬ (false = true) by decide)] at H; exact H
        clear H
        have H := H1
        clear H1
        replace H := Option.bind_eq_some_iff.mp H
        obtain ⟨t150, A60, H⟩ := H
        replace H : (if 0 ≤ (wrap64 ((l0.length : Int) + t150)) then (if (wrap64 ((l0.length : Int) + t150) : Int).toNat ≤ 17592186044416 then (laws_toDyadicSW.l0 kj2 l0 (List.replicate (wrap64 ((l0.length : Int) + t150) : Int).toNat z44) 0) else (none)) else (none)) = some r := H
        have A6 := Aside0.mk A60
        clear A60
        obtain ⟨ji7, hji7⟩ : ∃ j_ : Int, (wrap64 ((l0.length : Int) + t150)) = j_ := ⟨_, rfl⟩
        replace H : (if 0 ≤ (ji7) then (if (ji7 : Int).toNat ≤ 17592186044416 then (laws_toDyadicSW.l0 kj2 l0 (List.replicate (ji7 : Int).toNat z44) 0) else (none)) else (none)) = some r := by first | (rw [hji7] at H; exact H) | (simp only [hji7] at H ⊢; exact H)
        (try rw [hji7] at A6)
        have hji7w : (IntKind.i64.wrap ((l0.length : Int) + t150)) = ji7 := (i64_w _).trans hji7
        by_cases c8 : 0 ≤ (ji7)
        · rw [if_pos c8] at H
          have c8b0 := eq_true c8
          have c8b1 : decide (0 ≤ (ji7)) = true := decide_eq_true c8
          clear c8
          by_cases c9 : (ji7 : Int).toNat ≤ 17592186044416
          · rw [if_pos c9] at H
            have c9b0 := eq_true c9
            have c9b1 : decide ((ji7 : Int).toNat ≤ 17592186044416) = true := decide_eq_true c9
            clear c9
            obtain ⟨y151, hy151⟩ : ∃ y_ : List (S44), y_ = (List.replicate (ji7 : Int).toNat z44) := ⟨_, rfl⟩
            replace H : (laws_toDyadicSW.l0 kj2 l0 y151 0) = some r := by first | (rw [hy151]; with_reducible exact H) | (have H2_ := (Option.bind_some _ _).symm.trans H; rw [hy151]; with_reducible exact H2_) | (have H2_ := (Option.bind_some _ _).symm.trans H; with_reducible exact H2_) | with_reducible exact H | (rw [hy151]; exact H) | exact H
            have Ny151 := Aside0.mk hy151
            clear hy151
            have H' := Aside0.mk H
            clear H
            go_wp2_with (first | ((with_reducible refine gate_callee (f := 55) rfl ?_); refine goesL_ (some 18) rfl rfl Try.func55 (by kernel_rfl) rfl #[.int .i64 (l0.length : Int)] rfl (by (try simp only [List.map_toArray, List.map_cons, List.map_nil]); first | done | rfl | (simp only [List.length_drop, List.length_take]; rfl)) ?_; (with_reducible refine (laws_roomBehind.calls (l0.length : Int) t150 _ A6.out).mono ?_); rintro e w' ⟨rfl, ⟨nd, rfl⟩⟩; refine ⟨_, rfl, ?_⟩) | ((with_reducible refine gate_dst (N := 20) rfl ?_); (try (refine gate_guard (by rfl) ?_; dsimp only)); refine Kd.R_make k44 _ 44 rfl (N := 20) rfl 25 _ _ rfl ji7 rfl rfl Try.underlying25 (.agg #[(.int .i64 0), (.int .i64 0)]) 16 info44 rfl (by decide) (by omega) z44 (ok := fun _ => True) (okp := fun _ => True) (k44_mkM _ _ _ z44 ) (fun _ hk => hk) trivial (of_decide_eq_true (by first | (with_reducible assumption) | assumption)) (Nat.le_trans (Nat.mul_le_mul_right _ (of_decide_eq_true (by first | (with_reducible assumption) | assumption) : ji7.toNat ≤ 17592186044416)) (by omega)) (Below.refl _ _) (Nat.le_refl _) ?_; intro v152 w10 ho11 hb hg_ hnew_; clear hg_ hnew_; (first | rw [← Ny151.out] at ho11 | (simp only [Int.reduceToNat] at ho11; rw [← Ny151.out] at ho11)); have n0_ := Aside0.mk (Kd.R_lower ho11 (below_size (by repeat (first | (with_reducible first | exact HB.out | apply below_alloc | apply pw_below_drewN | apply below_drew1) | exact HB.out)))); have n1_ := Aside0.mk (below_step (by repeat (first | (with_reducible first | exact HB.out | apply below_alloc | apply pw_below_drewN | apply below_drew1) | exact HB.out)) hb); clear HB; have HO153 := n0_; have HB := n1_; clear n0_ n1_; clear hb ho11))
            go_loopg [6] kj2 (fun kq v6 w' => ∃ (x5_2 : List (S44)) (x6_2 : Int), v6 = .int .i64 x6_2 ∧ Aside0 (laws_toDyadicSW.l0 kq l0 x5_2 x6_2 = some r) ∧ Aside0 (kq ≤ kj2) ∧ Aside0 (Kd.R k44 44 w' w.heap.size (fun _ => True) v152 x5_2) ∧ Aside0 (Below w.heap.size w w'))
            case atStart => exact ⟨(y151), (0), (by first | rfl | (simp; done) | (simp [*]; done)), H', ⟨Nat.le_refl _⟩, ⟨by (with_reducible repeat (first | apply Kd.R_alloc | apply Kd.R_drewN | apply Kd.R_drew)); exact HO153.out⟩, ⟨by repeat (first | (with_reducible first | exact HB.out | apply below_alloc | apply pw_below_drewN | apply below_drew1) | exact HB.out)⟩⟩
            case round =>
              clear H'
              try clear c1
              try clear p2
              try clear c4
              try clear c5
              try clear p6
              try clear c8
              try clear c8b0
              try clear c8b1
              try clear c9
              try clear c9b0
              try clear c9b1
              try clear p2
              obtain ⟨x5_2, x6_2, rfl, HA, HK2, HO_5, HB⟩ := hrel
              cases gk with
              | zero => exact absurd HA.out (by simp [laws_toDyadicSW.l0])
              | succ k2 =>
                have H := HA.out
                clear HA
                simp only [laws_toDyadicSW.l0] at H
                by_cases c12 : x6_2 < (l0.length : Int)
                · rw [if_pos c12] at H
                  have c12b0 : decide (x6_2 < (l0.length : Int)) = true := decide_eq_true c12
                  clear c12
                  by_cases c13 : 0 ≤ x6_2
                  · rw [if_pos c13] at H
                    have c13b0 : decide (0 ≤ x6_2) = true := decide_eq_true c13
                    clear c13
                    replace H := Option.bind_eq_some_iff.mp H
                    obtain ⟨⟨t155, t156⟩, A140, H⟩ := H
                    replace H : (if x6_2 < (x5_2.length : Int) then (laws_toDyadicSW.l0 k2 l0 (x5_2.set (x6_2 : Int).toNat (⟨t155, t156⟩ : S44)) (wrap64 (x6_2 + 1))) else (none)) = some r := H
                    have A14 := Aside0.mk A140
                    clear A140
                    by_cases c15 : x6_2 < (x5_2.length : Int)
                    · rw [if_pos c15] at H
                      have c15b0 : decide (x6_2 < (x5_2.length : Int)) = true := decide_eq_true c15
                      clear c15
                      obtain ⟨y157, hy157⟩ : ∃ y_ : List (S44), y_ = (x5_2.set (x6_2 : Int).toNat (⟨t155, t156⟩ : S44)) := ⟨_, rfl⟩
                      replace H : (laws_toDyadicSW.l0 k2 l0 y157 (wrap64 (x6_2 + 1))) = some r := by first | (rw [hy157]; with_reducible exact H) | (have H2_ := (Option.bind_some _ _).symm.trans H; rw [hy157]; with_reducible exact H2_) | (have H2_ := (Option.bind_some _ _).symm.trans H; with_reducible exact H2_) | with_reducible exact H | (rw [hy157]; exact H) | exact H
                      have Ny157 := Aside0.mk hy157
                      clear hy157
                      have H' := Aside0.mk H
                      clear H
                      have p154 : 0 ≤ (x6_2 : Int) := of_decide_eq_true (by first | (with_reducible assumption) | assumption)
                      have q154 : x6_2 < (l0.length : Int) := of_decide_eq_true (by first | (with_reducible assumption) | assumption)
                      obtain ⟨ad154, e154, hx154_0, hx154_1⟩ := at_T82 HR0.out x6_2 p154 q154
                      cases e154
                      replace hx154_0 := (HB.out.cell (World.block_lt_of_cell? w _ hx154_0)).trans hx154_0
                      replace hx154_1 := (HB.out.cell (World.block_lt_of_cell? w _ hx154_1)).trans hx154_1
                      replace p154 := eq_true p154
                      replace q154 := eq_true q154
                      go_wp2_with (first | ((with_reducible refine gate_callee (f := 56) rfl ?_); refine goesL_ (some 33) rfl rfl Try.func56 (by kernel_rfl) rfl #[.agg #[.int .i64 ((rd_T82 l0 x6_2).f0), .int .i64 ((rd_T82 l0 x6_2).f1)]] rfl (by (try simp only [List.map_toArray, List.map_cons, List.map_nil]); first | done | rfl | (simp only [List.length_drop, List.length_take]; rfl)) ?_; (with_reducible refine (laws_toDyadic.calls ((rd_T82 l0 x6_2).f0) ((rd_T82 l0 x6_2).f1) t155 t156 _ A14.out).mono ?_); rintro e w17 ⟨rfl, hb⟩; refine ⟨_, rfl, ?_⟩; have n0_ := Aside0.mk (Kd.R_below (by (with_reducible repeat (first | apply Kd.R_alloc | apply Kd.R_drewN | apply Kd.R_drew)); exact HO_5.out) hb); have n1_ := Aside0.mk (below_step (by repeat (first | (with_reducible first | exact HB.out | apply below_alloc | apply pw_below_drewN | apply below_drew1) | exact HB.out)) hb); clear HO_5; clear HB; have HO_5 := n0_; have HB := n1_; clear n0_ n1_; (try clear hb); (try clear hb2); (try clear hk); (try clear hi); have p16 : 0 ≤ (x6_2 : Int) := of_decide_eq_true (by first | (with_reducible assumption) | assumption); have q16 : (x6_2 : Int) < ((x5_2.length : Int) : Int) := of_decide_eq_true (by first | (with_reducible assumption) | assumption); obtain ⟨go16, co16, eo16, gb16, gl16, cl16, HG16⟩ := Kd.R_form HO_5.out (by omega); (first | cases eo16 | (injection eo16 with ea_ en_ ec_; (first | subst ea_ | (injection ea_ with ea_; subst ea_)); subst ec_; clear en_)); have GB16 := Aside0.mk gb16; have GG16 := Aside0.mk HG16; clear gb16 gl16 HG16; obtain ⟨ce16, hcl16, hM16, hcc16, hfr16⟩ := Kd.R_elem HO_5.out z44 (x6_2 : Int) p16 q16; obtain rfl := k44_openM hM16; have hx16_0 : w17.cell? ⟨go16, (x6_2 : Int).toNat * 2, none⟩ = some (.int .i64 ((rd_T44 x5_2 x6_2).f0)) := hcc16 0 _ rfl; have hx16_1 : w17.cell? ⟨go16, (x6_2 : Int).toNat * 2 + 1, none⟩ = some (.int .i64 ((rd_T44 x5_2 x6_2).f1)) := hcc16 1 _ rfl; have hf16_0 : w17.frozen? ⟨go16, (x6_2 : Int).toNat * 2, none⟩ = false := hfr16 0; have hf16_1 : w17.frozen? ⟨go16, (x6_2 : Int).toNat * 2 + 1, none⟩ = false := hfr16 1; clear hcl16 hcc16 hfr16 hM16; replace p16 := eq_true p16; replace q16 := eq_true q16; have HX18 := Aside0.mk (show Kd.R k44 44 w17 w.heap.size (fun _ => True) (.slice (some ⟨go16, 0, none⟩) x5_2.length co16) x5_2 from (by (with_reducible repeat (first | apply Kd.R_alloc | apply Kd.R_drewN | apply Kd.R_drew)); exact HO_5.out)); obtain ⟨ce18, hcl18, hM18, hcc18, hfr18⟩ := Kd.R_elem HX18.out z44 (x6_2 : Int) (of_decide_eq_true (by first | (with_reducible assumption) | assumption)) (by have h_ : (x6_2 : Int) < ((x5_2.length : Int) : Int) := of_decide_eq_true (by first | (with_reducible assumption) | assumption); first | exact h_ | (have e_ := (Kd.R_reads' HO_5.out).1; omega) | simpa using h_); obtain rfl := k44_openM hM18; have HP18 := Kd.R_seg HX18.out (x6_2 : Int) (of_decide_eq_true (by first | (with_reducible assumption) | assumption)) (by have h_ : (x6_2 : Int) < ((x5_2.length : Int) : Int) := of_decide_eq_true (by first | (with_reducible assumption) | assumption); first | exact h_ | (have e_ := (Kd.R_reads' HO_5.out).1; omega) | simpa using h_) (seg := [.int .i64 t155, .int .i64 t156]) (j := 0) hcl18 hcc18 (show 2 ≤ 2 from by decide) (x' := (⟨t155, t156⟩ : S44)) (k44_mkM _ _ _ (⟨t155, t156⟩ : S44) ) (fun _ hk => hk); have hx18_0 := hcc18 0 _ rfl; (try simp only [show (k44).sz = 2 from rfl, Nat.mul_one, Nat.add_zero] at hx18_0); have hf18_0 := hfr18 0; (try simp only [show (k44).sz = 2 from rfl, Nat.mul_one, Nat.add_zero] at hf18_0); have hx18_1 := hcc18 1 _ rfl; (try simp only [show (k44).sz = 2 from rfl, Nat.mul_one, Nat.add_zero] at hx18_1); have hf18_1 := hfr18 1; (try simp only [show (k44).sz = 2 from rfl, Nat.mul_one, Nat.add_zero] at hf18_1); clear hcl18 hcc18 hfr18 hM18) | ((with_reducible refine gate_store (t := 44) (p := 34) rfl ?_); refine store_event (t := 44) (p := 34) (v := ?vo_w19) (w1 := ((w17.setCell ⟨go16, (x6_2 : Int).toNat * 2, none⟩ (.int .i64 t155)).setCell ⟨go16, (x6_2 : Int).toNat * 2 + 1, none⟩ (.int .i64 t156))) ?hg ?ho ?hn ?hr ?_; (case ho => rfl); (case hg => rfl); (case hn => rfl); (case hr => first | (go_simp; done) | (go_simp; rfl)); intro w19 hw; have hg : w17.grownBy w19 (some go16) := (by rw [hw]; exact HP18.2); have hp_ : Kd.R k44 44 w19 w.heap.size (fun _ => True) (.slice (some ⟨go16, 0, none⟩) x5_2.length co16) y157 := (by rw [hw, Ny157.out]; exact HP18.1); clear HP18; have n0_ := Aside0.mk (hp_); have n1_ := Aside0.mk ((by rw [hw]; exact below_set (below_set (HB.out) GB16.out) GB16.out : Below w.heap.size w w19)); clear HO_5; clear HB; have HO_5 := n0_; have HB := n1_; clear n0_ n1_; clear hg hw hp_))
                      go_roundg k2
                      case measure => have := HJ2.out; have := HK2.out; omega
                      case rel => exact ⟨(y157), (wrap64 (x6_2 + 1)), (by first | rfl | (simp; done) | (simp [*]; done)), H', ⟨by have := HJ2.out; have := HK2.out; omega⟩, ⟨by (with_reducible repeat (first | apply Kd.R_alloc | apply Kd.R_drewN | apply Kd.R_drew)); exact HO_5.out⟩, ⟨by repeat (first | (with_reducible first | exact HB.out | apply below_alloc | apply pw_below_drewN | apply below_drew1) | exact HB.out)⟩⟩
                    · rw [if_neg c15] at H
                      exact absurd H (by simp)
                  · rw [if_neg c13] at H
                    exact absurd H (by simp)
                · rw [if_neg c12] at H
                  have c12b0 : decide (x6_2 < (l0.length : Int)) = false := decide_eq_false c12
                  clear c12
                  have H' := Aside0.mk H
                  clear H
                  go_wp2
                  go_loopg [7] k2 (fun kq v7 w' => ∃ (x5_3 : List (S44)) (x7_3 : Int), v7 = .int .i64 x7_3 ∧ Aside0 (laws_toDyadicSW.l1 kq l0 x5_3 x7_3 = some r) ∧ Aside0 (kq ≤ k2) ∧ Aside0 (Kd.R k44 44 w' w.heap.size (fun _ => True) v152 x5_3) ∧ Aside0 (Below w.heap.size w w'))
                  case atStart => exact ⟨(x5_2), ((l0.length : Int)), (by first | rfl | (simp; done) | (simp [*]; done)), H', ⟨Nat.le_refl _⟩, ⟨by (with_reducible repeat (first | apply Kd.R_alloc | apply Kd.R_drewN | apply Kd.R_drew)); exact HO_5.out⟩, ⟨by repeat (first | (with_reducible first | exact HB.out | apply below_alloc | apply pw_below_drewN | apply below_drew1) | exact HB.out)⟩⟩
                  case round =>
                    clear H'
                    try clear c1
                    try clear p1
                    try clear q1
                    try clear hx1
                    try clear p2
                    try clear c4
                    try clear c5
                    try clear p6
                    try clear c8
                    try clear c8b0
                    try clear c8b1
                    try clear c9
                    try clear c9b0
                    try clear c9b1
                    try clear c12
                    try clear c12b0
                    try clear c13
                    try clear c13b0
                    try clear c15
                    try clear c15b0
                    try clear p15
                    try clear q15
                    try clear hx15
                    try clear c16
                    try clear p16
                    try clear q16
                    try clear hx16
                    try clear hf16
                    try clear c18
                    try clear hx18
                    try clear hf18
                    try clear hx154_0
                    try clear hx154_1
                    try clear hx16_0
                    try clear hx16_1
                    try clear hx18_0
                    try clear hx18_1
                    try clear p154
                    try clear p16
                    try clear p2
                    try clear p6
                    try clear q154
                    try clear q16
                    obtain ⟨x5_3, x7_3, rfl, HA, HK3, HO_5, HB⟩ := hrel
                    cases gk with
                    | zero => exact absurd HA.out (by simp [laws_toDyadicSW.l1])
                    | succ k3 =>
                      have H := HA.out
                      clear HA
                      simp only [laws_toDyadicSW.l1] at H
                      by_cases c20 : x7_3 < (x5_3.length : Int)
                      · rw [if_pos c20] at H
                        have c20b0 : decide (x7_3 < (x5_3.length : Int)) = true := decide_eq_true c20
                        clear c20
                        replace H := Option.bind_eq_some_iff.mp H
                        obtain ⟨⟨t158, t159⟩, A210, H⟩ := H
                        replace H : (if 0 ≤ x7_3 then (laws_toDyadicSW.l1 k3 l0 (x5_3.set (x7_3 : Int).toNat (⟨t158, t159⟩ : S44)) (wrap64 (x7_3 + 1))) else (none)) = some r := H
                        have A21 := Aside0.mk A210
                        clear A210
                        by_cases c22 : 0 ≤ x7_3
                        · rw [if_pos c22] at H
                          have c22b0 : decide (0 ≤ x7_3) = true := decide_eq_true c22
                          clear c22
                          obtain ⟨y160, hy160⟩ : ∃ y_ : List (S44), y_ = (x5_3.set (x7_3 : Int).toNat (⟨t158, t159⟩ : S44)) := ⟨_, rfl⟩
                          replace H : (laws_toDyadicSW.l1 k3 l0 y160 (wrap64 (x7_3 + 1))) = some r := by first | (rw [hy160]; with_reducible exact H) | (have H2_ := (Option.bind_some _ _).symm.trans H; rw [hy160]; with_reducible exact H2_) | (have H2_ := (Option.bind_some _ _).symm.trans H; with_reducible exact H2_) | with_reducible exact H | (rw [hy160]; exact H) | exact H
                          have Ny160 := Aside0.mk hy160
                          clear hy160
                          have H' := Aside0.mk H
                          clear H
                          obtain ⟨Ao24, co24, eo24⟩ := Kd.R_slice HO_5.out
                          subst eo24
                          go_wp2_with (first | ((with_reducible refine gate_callee (f := 57) rfl ?_); refine goesL_ (some 45) rfl rfl Try.func57 (by kernel_rfl) rfl #[] rfl (by (try simp only [List.map_toArray, List.map_cons, List.map_nil]); first | done | rfl | (simp only [List.length_drop, List.length_take]; rfl)) ?_; (with_reducible refine (laws_fillerDyadic.calls  t158 t159 _ A21.out).mono ?_); rintro e w25 ⟨rfl, hb⟩; refine ⟨_, rfl, ?_⟩; have n0_ := Aside0.mk (Kd.R_below (by (with_reducible repeat (first | apply Kd.R_alloc | apply Kd.R_drewN | apply Kd.R_drew)); exact HO_5.out) hb); have n1_ := Aside0.mk (below_step (by repeat (first | (with_reducible first | exact HB.out | apply below_alloc | apply pw_below_drewN | apply below_drew1) | exact HB.out)) hb); clear HO_5; clear HB; have HO_5 := n0_; have HB := n1_; clear n0_ n1_; (try clear hb); (try clear hb2); (try clear hk); (try clear hi); have p23 : 0 ≤ (x7_3 : Int) := of_decide_eq_true (by first | (with_reducible assumption) | assumption); have q23 : (x7_3 : Int) < ((x5_3.length : Int) : Int) := of_decide_eq_true (by first | (with_reducible assumption) | assumption); obtain ⟨go23, co23, eo23, gb23, gl23, cl23, HG23⟩ := Kd.R_form HO_5.out (by omega); (first | cases eo23 | (injection eo23 with ea_ en_ ec_; (first | subst ea_ | (injection ea_ with ea_; subst ea_)); subst ec_; clear en_)); have GB23 := Aside0.mk gb23; have GG23 := Aside0.mk HG23; clear gb23 gl23 HG23; obtain ⟨ce23, hcl23, hM23, hcc23, hfr23⟩ := Kd.R_elem HO_5.out z44 (x7_3 : Int) p23 q23; obtain rfl := k44_openM hM23; have hx23_0 : w25.cell? ⟨go23, (x7_3 : Int).toNat * 2, none⟩ = some (.int .i64 ((rd_T44 x5_3 x7_3).f0)) := hcc23 0 _ rfl; have hx23_1 : w25.cell? ⟨go23, (x7_3 : Int).toNat * 2 + 1, none⟩ = some (.int .i64 ((rd_T44 x5_3 x7_3).f1)) := hcc23 1 _ rfl; have hf23_0 : w25.frozen? ⟨go23, (x7_3 : Int).toNat * 2, none⟩ = false := hfr23 0; have hf23_1 : w25.frozen? ⟨go23, (x7_3 : Int).toNat * 2 + 1, none⟩ = false := hfr23 1; clear hcl23 hcc23 hfr23 hM23; replace p23 := eq_true p23; replace q23 := eq_true q23; have HX26 := Aside0.mk (show Kd.R k44 44 w25 w.heap.size (fun _ => True) (.slice (some ⟨go23, 0, none⟩) x5_3.length co24) x5_3 from (by (with_reducible repeat (first | apply Kd.R_alloc | apply Kd.R_drewN | apply Kd.R_drew)); exact HO_5.out)); obtain ⟨ce26, hcl26, hM26, hcc26, hfr26⟩ := Kd.R_elem HX26.out z44 (x7_3 : Int) (of_decide_eq_true (by first | (with_reducible assumption) | assumption)) (by have h_ : (x7_3 : Int) < ((x5_3.length : Int) : Int) := of_decide_eq_true (by first | (with_reducible assumption) | assumption); first | exact h_ | (have e_ := (Kd.R_reads' HO_5.out).1; omega) | simpa using h_); obtain rfl := k44_openM hM26; have HP26 := Kd.R_seg HX26.out (x7_3 : Int) (of_decide_eq_true (by first | (with_reducible assumption) | assumption)) (by have h_ : (x7_3 : Int) < ((x5_3.length : Int) : Int) := of_decide_eq_true (by first | (with_reducible assumption) | assumption); first | exact h_ | (have e_ := (Kd.R_reads' HO_5.out).1; omega) | simpa using h_) (seg := [.int .i64 t158, .int .i64 t159]) (j := 0) hcl26 hcc26 (show 2 ≤ 2 from by decide) (x' := (⟨t158, t159⟩ : S44)) (k44_mkM _ _ _ (⟨t158, t159⟩ : S44) ) (fun _ hk => hk); have hx26_0 := hcc26 0 _ rfl; (try simp only [show (k44).sz = 2 from rfl, Nat.mul_one, Nat.add_zero] at hx26_0); have hf26_0 := hfr26 0; (try simp only [show (k44).sz = 2 from rfl, Nat.mul_one, Nat.add_zero] at hf26_0); have hx26_1 := hcc26 1 _ rfl; (try simp only [show (k44).sz = 2 from rfl, Nat.mul_one, Nat.add_zero] at hx26_1); have hf26_1 := hfr26 1; (try simp only [show (k44).sz = 2 from rfl, Nat.mul_one, Nat.add_zero] at hf26_1); clear hcl26 hcc26 hfr26 hM26) | ((with_reducible refine gate_store (t := 44) (p := 46) rfl ?_); refine store_event (t := 44) (p := 46) (v := ?vo_w27) (w1 := ((w25.setCell ⟨go23, (x7_3 : Int).toNat * 2, none⟩ (.int .i64 t158)).setCell ⟨go23, (x7_3 : Int).toNat * 2 + 1, none⟩ (.int .i64 t159))) ?hg ?ho ?hn ?hr ?_; (case ho => rfl); (case hg => rfl); (case hn => rfl); (case hr => first | (go_simp; done) | (go_simp; rfl)); intro w27 hw; have hg : w25.grownBy w27 (some go23) := (by rw [hw]; exact HP26.2); have hp_ : Kd.R k44 44 w27 w.heap.size (fun _ => True) (.slice (some ⟨go23, 0, none⟩) x5_3.length co24) y160 := (by rw [hw, Ny160.out]; exact HP26.1); clear HP26; have n0_ := Aside0.mk (hp_); have n1_ := Aside0.mk ((by rw [hw]; exact below_set (below_set (HB.out) GB23.out) GB23.out : Below w.heap.size w w27)); clear HO_5; clear HB; have HO_5 := n0_; have HB := n1_; clear n0_ n1_; clear hg hw hp_))
                          go_roundg k3
                          case measure => have := HJ2.out; have := HK2.out; have := HK3.out; omega
                          case rel => exact ⟨(y160), (wrap64 (x7_3 + 1)), (by first | rfl | (simp; done) | (simp [*]; done)), H', ⟨by have := HJ2.out; have := HK2.out; have := HK3.out; omega⟩, ⟨by (with_reducible repeat (first | apply Kd.R_alloc | apply Kd.R_drewN | apply Kd.R_drew)); exact HO_5.out⟩, ⟨by repeat (first | (with_reducible first | exact HB.out | apply below_alloc | apply pw_below_drewN | apply below_drew1) | exact HB.out)⟩⟩
                        · rw [if_neg c22] at H
                          exact absurd H (by simp)
                      · rw [if_neg c20] at H
                        have c20b0 : decide (x7_3 < (x5_3.length : Int)) = false := decide_eq_false c20
                        clear c20
                        by_cases c28 : 0 ≤ (l0.length : Int)
                        · rw [if_pos c28] at H
                          have c28b0 := eq_true c28
                          have c28b1 : decide (0 ≤ (l0.length : Int)) = true := decide_eq_true c28
                          clear c28
                          by_cases c29 : (l0.length : Int) ≤ (x5_3.length : Int)
                          · rw [if_pos c29] at H
                            have c29b0 := eq_true c29
                            have c29b1 : decide ((l0.length : Int) ≤ (x5_3.length : Int)) = true := decide_eq_true c29
                            clear c29
                            obtain ⟨y161, hy161⟩ : ∃ y_ : List (S44), y_ = (x5_3.take ((l0.length : Int) : Int).toNat) := ⟨_, rfl⟩
                            have Ny161 := Aside0.mk hy161
                            clear hy161
                            have HR_ := Aside0.mk (Option.some.inj H)
                            obtain ⟨Ao30, co30, eo30⟩ := Kd.R_slice HO_5.out
                            subst eo30
                            have q31 : ((l0.length : Int) : Int) ≤ ((x5_3.length : Int) : Int) := of_decide_eq_true (by first | (with_reducible assumption) | assumption)
                            obtain ⟨i031, hi031, _, hsz31, _⟩ := info_parts info44
                            have hcut31 := cut_to (P := Try.prog) 25 44 .i64 Try.underlying25 hi031 Ao30 x5_3.length co30 (l0.length : Int) (of_decide_eq_true (by first | (with_reducible assumption) | assumption)) q31 (Kd.R_reads' HO_5.out).2.1
                            have hr31 := Kd.R_take (m := ((l0.length : Int) : Int).toNat) HO_5.out (by omega)
                            have hy31 : y161.length = ((l0.length : Int) : Int).toNat := (by rw [Ny161.out, List.length_take]; omega)
                            rw [← Ny161.out] at hr31
                            rw [← hy31] at hr31 hcut31
                            have HY_ : Aside0 (y161.length = l0.length) := ⟨by rw [hy31]; simp⟩
                            clear hy31 hi031 hsz31
                            have HO163 := Aside0.mk hr31
                            clear hr31
                            replace q31 := eq_true q31
                            go_wp2
                            go_ret
                            exact ⟨Ao30, co30, by first | rfl | (rw [HY_.out]; done) | (simp [HY_.out]; done), by rw [← HR_.out]; (with_reducible repeat (first | apply Kd.R_alloc | apply Kd.R_drewN | apply Kd.R_drew)); first | exact HO_5.out | exact Kd.R_mono HO_5.out (fun _ _ => trivial), (by repeat (first | (with_reducible first | exact HB.out | apply below_alloc | apply pw_below_drewN | apply below_drew1) | exact HB.out))⟩
                          · rw [if_neg c29] at H
                            exact absurd H (by simp)
                        · rw [if_neg c28] at H
                          exact absurd H (by simp)
          · rw [if_neg c9] at H
            exact absurd H (by simp)
        · rw [if_neg c8] at H
          exact absurd H (by simp)

/-! ### rows of S44 with room behind -/
def cvDyadicS (x : S82) : S44 := ⟨x.f0, x.f1⟩
def fillDyadicS : S44 := ⟨-7000000000000000101, -7000000000000000101⟩
def padDyadicS (l : List S82) : List S44 := l.map cvDyadicS ++ List.replicate (room l.length) fillDyadicS
theorem padDyadicS_length (l : List S82) : (padDyadicS l).length = l.length + room l.length := by simp [padDyadicS]
theorem set_fillDyadicS (Q : List S44) (F i : Nat) (h : i < Q.length) (hF : Q.length ≤ F) : (Q.take i ++ List.replicate (F - i) z44).set i Q[i] = Q.take (i + 1) ++ List.replicate (F - (i + 1)) z44 := by
  have h1 : F - i = (F - (i + 1)) + 1 := by omega
  rw [h1, List.replicate_succ, List.set_append_right _ _ (by simp; omega)]
  have h2 : i - (Q.take i).length = 0 := by simp; omega
  rw [h2, List.set_cons_zero, List.take_succ_eq_append_getElem h, List.append_assoc]
  rfl
theorem set_fill2DyadicS (Q : List S44) (F i : Nat) (h : Q.length ≤ i) (hF : i < F) : (Q ++ (List.replicate (i - Q.length) fillDyadicS ++ List.replicate (F - i) z44)).set i fillDyadicS = Q ++ (List.replicate (i + 1 - Q.length) fillDyadicS ++ List.replicate (F - (i + 1)) z44) := by
  have h1 : F - i = (F - (i + 1)) + 1 := by omega
  rw [List.set_append_right _ _ h, List.set_append_right _ _ (by simp), h1, List.replicate_succ]
  have h2 : i - Q.length - (List.replicate (i - Q.length) fillDyadicS).length = 0 := by simp
  rw [h2, List.set_cons_zero]
  have h3 : i + 1 - Q.length = (i - Q.length) + 1 := by omega
  rw [h3, List.replicate_succ', List.append_assoc]
  rfl

theorem laws_toDyadicS_l1 (l : List S82) (F : Nat) (hF : F ≤ 3000000) (hlF : l.length ≤ F) (d : Nat) : ∀ (k i : Nat), l.length ≤ i → i ≤ F → F - i = d → d < k → laws_toDyadicS.l1 k l (l.map cvDyadicS ++ (List.replicate (i - l.length) fillDyadicS ++ List.replicate (F - i) z44)) (i : Int) = some (l.map cvDyadicS) := by
  induction d with
  | zero =>
    intro k i h0 h1 hd hk
    obtain ⟨k, rfl⟩ : ∃ m, k = m + 1 := ⟨k - 1, by omega⟩
    have e : i = F := by omega
    subst e
    simp only [laws_toDyadicS.l1]; rw [if_neg (by simp only [List.length_append, List.length_replicate, List.length_map]; omega), if_pos (by omega), if_pos (by simp only [List.length_append, List.length_replicate, List.length_map]; omega)]
    simp
  | succ d ih =>
    intro k i h0 h1 hd hk
    obtain ⟨k, rfl⟩ : ∃ m, k = m + 1 := ⟨k - 1, by omega⟩
    have hs := set_fill2DyadicS (l.map cvDyadicS) F i (by simpa using h0) (by omega)
    simp only [List.length_map] at hs
    simp only [laws_toDyadicS.l1]; rw [if_pos (by simp only [List.length_append, List.length_replicate, List.length_map]; omega), show laws_fillerDyadic.f = some ((-7000000000000000101), (-7000000000000000101)) from rfl, Option.bind_some, if_pos (by omega), show wrap64 ((i : Int) + 1) = ((i + 1 : Nat) : Int) by unfold wrap64; omega, Int.toNat_natCast]
    change laws_toDyadicS.l1 k l ((l.map cvDyadicS ++ (List.replicate (i - l.length) fillDyadicS ++ List.replicate (F - i) z44)).set i fillDyadicS) _ = _
    rw [hs]
    exact ih k (i + 1) (by omega) (by omega) (by omega) (by omega)
theorem laws_toDyadicS_l0 (l : List S82) (F : Nat) (hF : F ≤ 3000000) (hlF : l.length ≤ F) (d : Nat) : ∀ (k i : Nat), i ≤ l.length → l.length - i = d → d + F + 2 < k → laws_toDyadicS.l0 k l ((l.map cvDyadicS).take i ++ List.replicate (F - i) z44) (i : Int) = some (l.map cvDyadicS) := by
  induction d with
  | zero =>
    intro k i h1 hd hk
    obtain ⟨k, rfl⟩ : ∃ m, k = m + 1 := ⟨k - 1, by omega⟩
    have e : i = l.length := by omega
    subst e
    simp only [laws_toDyadicS.l0]; rw [if_neg (by omega)]
    have h := laws_toDyadicS_l1 l F hF hlF (F - l.length) k l.length (Nat.le_refl _) hlF rfl (by omega)
    simp only [Nat.sub_self, List.replicate_zero, List.nil_append] at h
    rw [List.take_of_length_le (by simp)]
    exact h
  | succ d ih =>
    intro k i h1 hd hk
    obtain ⟨k, rfl⟩ : ∃ m, k = m + 1 := ⟨k - 1, by omega⟩
    have hi : i < l.length := by omega
    have hs := set_fillDyadicS (l.map cvDyadicS) F i (by simpa using hi) (by simpa using hlF)
    have hr : rd_T82 l (i : Int) = l[i] := by simp [rd_T82, hi]
    simp only [laws_toDyadicS.l0]; rw [if_pos (by omega), if_pos (by omega), hr, show laws_toDyadic.f l[i].f0 l[i].f1 = some (l[i].f0, l[i].f1) from rfl, Option.bind_some, if_pos (by simp only [List.length_append, List.length_take, List.length_replicate, List.length_map]; omega), show wrap64 ((i : Int) + 1) = ((i + 1 : Nat) : Int) by unfold wrap64; omega, Int.toNat_natCast]
    have hc : (⟨l[i].f0, l[i].f1⟩ : S44) = (l.map cvDyadicS)[i]'(by simpa using hi) := by simp [cvDyadicS]
    change laws_toDyadicS.l0 k l (((l.map cvDyadicS).take i ++ List.replicate (F - i) z44).set i (⟨l[i].f0, l[i].f1⟩ : S44)) _ = _
    rw [hc, hs]
    exact ih k (i + 1) (by omega) (by omega) (by omega)
theorem laws_toDyadicS_j0 (l : List S82) (hn : l.length ≤ 1000000) (F : Nat) (hF : l.length + room l.length = F) (k : Nat) (hk : l.length + F + 2 < k) : laws_toDyadicS.j0 (k + 1) l false = some (l.map cvDyadicS) := by
  have hr := room_le l.length
  have hw : wrap64 ((l.length : Int) + (room l.length : Int)) = (F : Int) := by unfold wrap64; omega
  have h := laws_toDyadicS_l0 l F (by omega) (by omega) l.length k 0 (by omega) (by omega) hk
  simp only [laws_toDyadicS.j0]
  rw [if_neg (by decide), roomBehind_eq, Option.bind_some, hw, if_pos (by omega), Int.toNat_natCast, if_pos (by omega)]
  simpa using h

theorem laws_toDyadicSW_l1 (l : List S82) (F : Nat) (hF : F ≤ 3000000) (hlF : l.length ≤ F) (d : Nat) : ∀ (k i : Nat), l.length ≤ i → i ≤ F → F - i = d → d < k → laws_toDyadicSW.l1 k l (l.map cvDyadicS ++ (List.replicate (i - l.length) fillDyadicS ++ List.replicate (F - i) z44)) (i : Int) = some (l.map cvDyadicS ++ List.replicate (F - l.length) fillDyadicS) := by
  induction d with
  | zero =>
    intro k i h0 h1 hd hk
    obtain ⟨k, rfl⟩ : ∃ m, k = m + 1 := ⟨k - 1, by omega⟩
    have e : i = F := by omega
    subst e
    simp only [laws_toDyadicSW.l1]; rw [if_neg (by simp only [List.length_append, List.length_replicate, List.length_map]; omega), if_pos (by omega), if_pos (by simp only [List.length_append, List.length_replicate, List.length_map]; omega)]
    simp
  | succ d ih =>
    intro k i h0 h1 hd hk
    obtain ⟨k, rfl⟩ : ∃ m, k = m + 1 := ⟨k - 1, by omega⟩
    have hs := set_fill2DyadicS (l.map cvDyadicS) F i (by simpa using h0) (by omega)
    simp only [List.length_map] at hs
    simp only [laws_toDyadicSW.l1]; rw [if_pos (by simp only [List.length_append, List.length_replicate, List.length_map]; omega), show laws_fillerDyadic.f = some ((-7000000000000000101), (-7000000000000000101)) from rfl, Option.bind_some, if_pos (by omega), show wrap64 ((i : Int) + 1) = ((i + 1 : Nat) : Int) by unfold wrap64; omega, Int.toNat_natCast]
    change laws_toDyadicSW.l1 k l ((l.map cvDyadicS ++ (List.replicate (i - l.length) fillDyadicS ++ List.replicate (F - i) z44)).set i fillDyadicS) _ = _
    rw [hs]
    exact ih k (i + 1) (by omega) (by omega) (by omega) (by omega)
theorem laws_toDyadicSW_l0 (l : List S82) (F : Nat) (hF : F ≤ 3000000) (hlF : l.length ≤ F) (d : Nat) : ∀ (k i : Nat), i ≤ l.length → l.length - i = d → d + F + 2 < k → laws_toDyadicSW.l0 k l ((l.map cvDyadicS).take i ++ List.replicate (F - i) z44) (i : Int) = some (l.map cvDyadicS ++ List.replicate (F - l.length) fillDyadicS) := by
  induction d with
  | zero =>
    intro k i h1 hd hk
    obtain ⟨k, rfl⟩ : ∃ m, k = m + 1 := ⟨k - 1, by omega⟩
    have e : i = l.length := by omega
    subst e
    simp only [laws_toDyadicSW.l0]; rw [if_neg (by omega)]
    have h := laws_toDyadicSW_l1 l F hF hlF (F - l.length) k l.length (Nat.le_refl _) hlF rfl (by omega)
    simp only [Nat.sub_self, List.replicate_zero, List.nil_append] at h
    rw [List.take_of_length_le (by simp)]
    exact h
  | succ d ih =>
    intro k i h1 hd hk
    obtain ⟨k, rfl⟩ : ∃ m, k = m + 1 := ⟨k - 1, by omega⟩
    have hi : i < l.length := by omega
    have hs := set_fillDyadicS (l.map cvDyadicS) F i (by simpa using hi) (by simpa using hlF)
    have hr : rd_T82 l (i : Int) = l[i] := by simp [rd_T82, hi]
    simp only [laws_toDyadicSW.l0]; rw [if_pos (by omega), if_pos (by omega), hr, show laws_toDyadic.f l[i].f0 l[i].f1 = some (l[i].f0, l[i].f1) from rfl, Option.bind_some, if_pos (by simp only [List.length_append, List.length_take, List.length_replicate, List.length_map]; omega), show wrap64 ((i : Int) + 1) = ((i + 1 : Nat) : Int) by unfold wrap64; omega, Int.toNat_natCast]
    have hc : (⟨l[i].f0, l[i].f1⟩ : S44) = (l.map cvDyadicS)[i]'(by simpa using hi) := by simp [cvDyadicS]
    change laws_toDyadicSW.l0 k l (((l.map cvDyadicS).take i ++ List.replicate (F - i) z44).set i (⟨l[i].f0, l[i].f1⟩ : S44)) _ = _
    rw [hc, hs]
    exact ih k (i + 1) (by omega) (by omega) (by omega)
theorem laws_toDyadicSW_j0 (l : List S82) (hn : l.length ≤ 1000000) (F : Nat) (hF : l.length + room l.length = F) (k : Nat) (hk : l.length + F + 2 < k) : laws_toDyadicSW.j0 (k + 1) l false = some (l.map cvDyadicS ++ List.replicate (F - l.length) fillDyadicS) := by
  have hr := room_le l.length
  have hw : wrap64 ((l.length : Int) + (room l.length : Int)) = (F : Int) := by unfold wrap64; omega
  have h := laws_toDyadicSW_l0 l F (by omega) (by omega) l.length k 0 (by omega) (by omega) hk
  simp only [laws_toDyadicSW.j0]
  rw [if_neg (by decide), roomBehind_eq, Option.bind_some, hw, if_pos (by omega), Int.toNat_natCast, if_pos (by omega)]
  simpa using h

theorem toDyadicS_whole (l : List S82) (hn : l.length ≤ 1000000) : ∃ k, laws_toDyadicSW.f k l false = some (padDyadicS l) := by
  refine ⟨(l.length + (l.length + room l.length) + 3) + 1, ?_⟩
  unfold laws_toDyadicSW.f
  rw [if_neg (by decide), laws_toDyadicSW_j0 l hn _ rfl _ (by omega)]
  unfold padDyadicS
  rw [show l.length + room l.length - l.length = room l.length by omega]
theorem toDyadicS_bare (l : List S82) (hn : l.length ≤ 1000000) : ∃ k, laws_toDyadicS.f k l true = some (l.map cvDyadicS) := by
  refine ⟨(l.length + (l.length + room l.length) + 3) + 1, ?_⟩
  unfold laws_toDyadicS.f
  rw [if_pos rfl]
  by_cases h : l = []
  · subst h
    rfl
  · have e : ((l.length : Int) == 0) = false := by
      have : 0 < l.length := List.length_pos_iff.2 h
      simp only [beq_eq_false_iff_ne]; omega
    rw [e]
    exact laws_toDyadicS_j0 l hn _ rfl _ (by omega)
theorem eqDyadic_self (a0 : Int) (a1 : Int) : laws_eqDyadic.f a0 a1 a0 a1 = some true := by unfold laws_eqDyadic.f; simp

theorem eqDyadicS_loop (l : List S44) (hn : l.length ≤ 1000000000) (d : Nat) : ∀ (k : Nat) (i : Nat), i ≤ l.length → l.length - i = d → d < k → laws_eqDyadicS.l0 k l l (i : Int) = some true := by
  induction d with
  | zero =>
    intro k i h0 hd hk
    obtain ⟨k, rfl⟩ : ∃ m, k = m + 1 := ⟨k - 1, by omega⟩
    simp only [laws_eqDyadicS.l0]; rw [if_neg (by omega)]
  | succ d ih =>
    intro k i h0 hd hk
    obtain ⟨k, rfl⟩ : ∃ m, k = m + 1 := ⟨k - 1, by omega⟩
    simp only [laws_eqDyadicS.l0]; rw [if_pos (by omega), if_pos (by omega), if_pos (by omega), eqDyadic_self, Option.bind_some, if_pos rfl, show wrap64 ((i : Int) + 1) = ((i + 1 : Nat) : Int) by unfold wrap64; omega]
    exact ih k (i + 1) (by omega) (by omega) (by omega)
theorem eqDyadicS_self (l : List S44) (hn : l.length ≤ 1000000000) : laws_eqDyadicS.f (l.length + 1) l l = some true := by
  unfold laws_eqDyadicS.f
  rw [if_pos rfl]
  exact eqDyadicS_loop l hn l.length (l.length + 1) 0 (by omega) (by omega) (by omega)
def laws_intactDyadicS.T2 : Bool × List (List Nat × List Nat) := (true, [([], []), ([0], [0]), ([], []), ([2], [2]), ([1, 3], [1, 3]), ([4], [4]), ([5], [5]), ([5], [5]), ([6, 7, 5], [5, 6, 7]), ([5], [5]), ([5], [5]), ([9, 10, 5], [5, 9, 10]), ([8, 11, 5, 5], [5, 8, 11]), ([5, 12], [5, 12]), ([13, 12, 0, 1, 2, 3, 4, 5, 6, 7, 8, 9, 10, 11, 12, 13], [13])])
def laws_intactDyadicS.B2 : List Nat := [0, 1, 0, 4, 15, 31, 63, 63, 255, 63, 63, 1599, 4095, 8191, 16383]
theorem laws_intactDyadicS.tab2 : rtab .any (opsOf Try.f15 2) = laws_intactDyadicS.T2 := by kernel_rfl
theorem laws_intactDyadicS.bits2 : waitsOk laws_intactDyadicS.T2.2 laws_intactDyadicS.B2 = true := by kernel_rfl
set_option maxHeartbeats 8000000 in
set_option maxRecDepth 100000 in
theorem laws_intactDyadicS.pad (k : Nat) (A0 A1 : Option Addr) (c0 c1 n : Nat) (p : List S44) (w : World) (hr0 : Kd.C k44 w A0 p.length p) (hc0 : p.length ≤ c0) (hr1 : Kd.C k44 w A1 p.length p) (hc1 : p.length ≤ c1) (hp : p.length = n + room n) (hn : n ≤ 1000000) (he : laws_eqDyadicS.f k p p = some true) :
    Calls Try.prog 15 #[.slice A0 n c0, .slice A1 n c1] w fun e w' => e = .returned (.bool true) ∧ Below w.heap.size w w' := by
  have hmb := room_le n
  have HR173 := Aside0.mk hr0
  have HC173 := Aside0.mk hc0
  have HR177 := Aside0.mk hr1
  have HC177 := Aside0.mk hc1
  have HB := Aside0.mk (Below.refl w.heap.size w)
  have A3 := Aside0.mk (roomBehind_eq n)
  have A10 := Aside0.mk he
  obtain ⟨ji5, hji5⟩ : ∃ j_ : Int, (wrap64 ((n : Int) + (room n : Int))) = j_ := ⟨_, rfl⟩
  have hje : ji5 = (p.length : Int) := by rw [← hji5, hp]; unfold wrap64; omega
  have hji5w : (IntKind.i64.wrap ((n : Int) + (room n : Int))) = ji5 := (i64_w _).trans hji5
  have c4b0 : ((n : Int) == (n : Int)) = true := by simp
  have c4b1 : ((n : Int) != (n : Int)) = false := by simp
  have c4b2 : (n == n) = true := by simp
  have c6b0 : (0 ≤ ji5) = True := eq_true (by omega)
  have c6b1 : decide (0 ≤ ji5) = true := decide_eq_true (by omega)
  obtain ⟨i0_, hi0_, _, hsz0_, _⟩ := info_parts info44
  have hcut12 := cut_room (P := Try.prog) 25 44 .i64 Try.underlying25 hi0_ A0 n c0 ji5 (by omega) (by omega)
  have hcut13 := cut_room (P := Try.prog) 25 44 .i64 Try.underlying25 hi0_ A1 n c1 ji5 (by omega) (by omega)
  rw [show ji5.toNat = p.length by omega] at hcut12 hcut13
  clear hmb hje hr0 hc0 hr1 hc1 he hp hi0_ hsz0_ hn
  go_enter Try.func15, Try.ntmps15
  try go_wp2_with (first | ((with_reducible refine gate_callee (f := 55) rfl ?_); refine goesL_ (some 10) rfl rfl Try.func55 (by kernel_rfl) rfl #[.int .i64 (n : Int)] rfl (by (try simp only [List.map_toArray, List.map_cons, List.map_nil]); first | done | rfl | (simp only [List.length_drop, List.length_take]; rfl)) ?_; (with_reducible refine (laws_roomBehind.calls (n : Int) (room n : Int) _ A3.out).mono ?_); rintro e w' ⟨rfl, ⟨nd, rfl⟩⟩; refine ⟨_, rfl, ?_⟩))
  refine start_ (n := 15) (S := fun w' => True) (ds := []) #[false, false, false, false, false, false, false, false, false, false, false, false, false, false, false] (by kernel_rfl) rfl rfl trivial (fun hHeld => ?_); refine with_tabW laws_intactDyadicS.tab2 laws_intactDyadicS.bits2 (fun HT_ HW_ => ?_)
  generalize hq_ : World.drew _ = w11 at hHeld ⊢
  have nHR173_ : Aside0 (Kd.C k44 w11 A0 p.length p) := ⟨by rw [← hq_]; exact (by repeat (first | exact HR173.out | (with_reducible refine Kd.C_alloc ?_ _) | (with_reducible refine Kd.C_drewN ?_ _) | (with_reducible refine Kd.C_drew ?_)))⟩
  have nHR177_ : Aside0 (Kd.C k44 w11 A1 p.length p) := ⟨by rw [← hq_]; exact (by repeat (first | exact HR177.out | (with_reducible refine Kd.C_alloc ?_ _) | (with_reducible refine Kd.C_drewN ?_ _) | (with_reducible refine Kd.C_drew ?_)))⟩
  have nHB_ : Aside0 (Below w.heap.size w w11) := ⟨by rw [← hq_]; exact (by repeat (first | (with_reducible first | exact HB.out | apply below_alloc | apply pw_below_drewN | apply below_drew1) | exact HB.out))⟩
  clear hq_ HR173 HR177 HB
  have HR173 := nHR173_
  have HR177 := nHR177_
  have HB := nHB_
  clear nHR173_ nHR177_ nHB_
  refine pure_ (i := 0) (N := some 12) (v := ?_) (a' := ?_) #[true, false, false, false, false, false, false, false, false, false, false, false, false, false, false] rfl rfl (any_of HT_.out (by kernel_rfl)) (fun _ _ _ h => h) (Or.inl ⟨by rfl, ?_⟩) ?_ ?_
  rotate_left
  · intro w'
    go_simp
    with_reducible rfl
  rotate_left
  · simp only [Act.put, List.setIfInBounds_toArray, List.set_cons_zero, List.set_cons_succ, i64_w, i32_w]
    rfl
  refine pure_ (i := 1) (N := some 13) (v := ?_) (a' := ?_) #[true, true, false, false, false, false, false, false, false, false, false, false, false, false, false] rfl rfl (any_of HT_.out (by kernel_rfl)) (fun _ _ _ h => h) (Or.inl ⟨by rfl, ?_⟩) ?_ ?_
  rotate_left
  · intro w'
    go_simp
    with_reducible rfl
  rotate_left
  · simp only [Act.put, List.setIfInBounds_toArray, List.set_cons_zero, List.set_cons_succ, i64_w, i32_w]
    rfl
  refine pure_ (i := 2) (N := some 14) (v := ?_) (a' := ?_) #[true, true, true, false, false, false, false, false, false, false, false, false, false, false, false] rfl rfl (any_of HT_.out (by kernel_rfl)) (fun _ _ _ h => h) (Or.inl ⟨by rfl, ?_⟩) ?_ ?_
  rotate_left
  · intro w'
    go_simp
    with_reducible rfl
  rotate_left
  · simp only [Act.put, List.setIfInBounds_toArray, List.set_cons_zero, List.set_cons_succ, i64_w, i32_w]
    rfl
  refine pure_ (i := 3) (N := some 15) (v := ?_) (a' := ?_) #[true, true, true, true, false, false, false, false, false, false, false, false, false, false, false] rfl rfl (any_of HT_.out (by kernel_rfl)) (fun _ _ _ h => h) (Or.inl ⟨by rfl, ?_⟩) ?_ ?_
  rotate_left
  · intro w'
    go_simp
    with_reducible rfl
  rotate_left
  · simp only [Act.put, List.setIfInBounds_toArray, List.set_cons_zero, List.set_cons_succ, i64_w, i32_w]
    rfl
  refine pure_ (i := 4) (N := some 16) (v := ?_) (a' := ?_) #[true, true, true, true, true, false, false, false, false, false, false, false, false, false, false] rfl rfl (any_of HT_.out (by kernel_rfl)) (fun _ _ _ h => h) (Or.inl ⟨by rfl, ?_⟩) ?_ ?_
  rotate_left
  · intro w'
    go_simp
    with_reducible rfl
  rotate_left
  · simp only [Act.put, List.setIfInBounds_toArray, List.set_cons_zero, List.set_cons_succ, i64_w, i32_w]
    rfl
  refine pure_ (i := 5) (N := some 17) (v := ?_) (a' := ?_) #[true, true, true, true, true, true, false, false, false, false, false, false, false, false, false] rfl rfl (any_of HT_.out (by kernel_rfl)) (fun _ _ _ h => h) (Or.inl ⟨by rfl, ?_⟩) ?_ ?_
  rotate_left
  · intro w'
    go_simp
    with_reducible rfl
  rotate_left
  · simp only [Act.put, List.setIfInBounds_toArray, List.set_cons_zero, List.set_cons_succ, i64_w, i32_w]
    rfl
  refine pure_ (i := 6) (N := some 18) (v := ?_) (a' := ?_) #[true, true, true, true, true, true, true, false, false, false, false, false, false, false, false] rfl rfl (any_of HT_.out (by kernel_rfl)) (fun _ _ _ h => h) (Or.inl ⟨by rfl, ?_⟩) ?_ ?_
  rotate_left
  · intro w'
    go_simp
    with_reducible rfl
  rotate_left
  · simp only [Act.put, List.setIfInBounds_toArray, List.set_cons_zero, List.set_cons_succ, i64_w, i32_w]
    rfl
  refine pure_ (i := 7) (N := some 19) (v := ?_) (a' := ?_) #[true, true, true, true, true, true, true, true, false, false, false, false, false, false, false] rfl rfl (any_of HT_.out (by kernel_rfl)) (fun _ _ _ h => h) (Or.inl ⟨by rfl, ?_⟩) ?_ ?_
  rotate_left
  · intro w'
    go_simp
    with_reducible rfl
  rotate_left
  · simp only [Act.put, List.setIfInBounds_toArray, List.set_cons_zero, List.set_cons_succ, i64_w, i32_w]
    rfl
  refine pure_ (i := 8) (N := some 20) (v := ?_) (a' := ?_) #[true, true, true, true, true, true, true, true, true, false, false, false, false, false, false] rfl rfl (any_of HT_.out (by kernel_rfl)) (fun _ _ _ h => h) (Or.inl ⟨by rfl, ?_⟩) ?_ ?_
  rotate_left
  · intro w'
    go_simp
    with_reducible rfl
  rotate_left
  · simp only [Act.put, List.setIfInBounds_toArray, List.set_cons_zero, List.set_cons_succ, i64_w, i32_w]
    rfl
  refine pure_ (i := 9) (N := some 21) (v := ?_) (a' := ?_) #[true, true, true, true, true, true, true, true, true, true, false, false, false, false, false] rfl rfl (any_of HT_.out (by kernel_rfl)) (fun _ _ _ h => h) (Or.inl ⟨by rfl, ?_⟩) ?_ ?_
  rotate_left
  · intro w'
    go_simp
    with_reducible rfl
  rotate_left
  · simp only [Act.put, List.setIfInBounds_toArray, List.set_cons_zero, List.set_cons_succ, i64_w, i32_w]
    rfl
  refine pure_ (i := 10) (N := some 22) (v := ?_) (a' := ?_) #[true, true, true, true, true, true, true, true, true, true, true, false, false, false, false] rfl rfl (any_of HT_.out (by kernel_rfl)) (fun _ _ _ h => h) (Or.inl ⟨by rfl, ?_⟩) ?_ ?_
  rotate_left
  · intro w'
    go_simp
    with_reducible rfl
  rotate_left
  · simp only [Act.put, List.setIfInBounds_toArray, List.set_cons_zero, List.set_cons_succ, i64_w, i32_w]
    rfl
  refine pure_ (i := 11) (N := some 23) (v := ?_) (a' := ?_) #[true, true, true, true, true, true, true, true, true, true, true, true, false, false, false] rfl rfl (any_of HT_.out (by kernel_rfl)) (fun _ _ _ h => h) (Or.inl ⟨by rfl, ?_⟩) ?_ ?_
  rotate_left
  · intro w'
    go_simp
    with_reducible rfl
  rotate_left
  · simp only [Act.put, List.setIfInBounds_toArray, List.set_cons_zero, List.set_cons_succ, i64_w, i32_w]
    rfl
  refine one_ (i := 12) (N := some 24) #[true, true, true, true, true, true, true, true, true, true, true, true, true, false, false] rfl rfl (one_of HT_.out (by kernel_rfl)) (by decide) (fun K hK => ?_)
  refine goes_ Try.func59 (by kernel_rfl) rfl #[.slice A0 p.length c0, .slice A1 p.length c1] (by rfl) rfl rfl (by (try simp only [List.map_toArray, List.map_cons, List.map_nil]); first | done | rfl | (simp only [List.length_drop, List.length_take]; rfl)) ?_
  with_reducible refine (laws_eqDyadicS.calls k _ _ p _ _ p true _ ?side1 ?side2 ?side3 ?side4 A10.out).mono ?_
  (case side1 => repeat (first | exact HR173.out | exact (Kd.C_below HR173.out HB.out) | (with_reducible refine Kd.C_alloc ?_ _) | (with_reducible refine Kd.C_drewN ?_ _) | (with_reducible refine Kd.C_drew ?_)))
  (case side2 => exact HC173.out)
  (case side3 => repeat (first | exact HR177.out | exact (Kd.C_below HR177.out HB.out) | (with_reducible refine Kd.C_alloc ?_ _) | (with_reducible refine Kd.C_drewN ?_ _) | (with_reducible refine Kd.C_drew ?_)))
  (case side4 => exact HC177.out)
  rintro e w14 ⟨rfl, hb⟩
  refine ⟨_, rfl, ?_⟩
  have n0_ := Aside0.mk (below_step (by repeat (first | (with_reducible first | exact HB.out | apply below_alloc | apply pw_below_drewN | apply below_drew1) | exact HB.out)) hb)
  clear HB
  have HB := n0_
  clear n0_
  (try clear hb)
  (try clear hb2)
  (try clear hk)
  (try clear hi)
  refine hK.out _ _ trivial (fun hHeld => ?_)
  clear hK K
  refine norm_ (a' := ?_) ?_ ?_
  rotate_left
  · show Act.put _ (some 24) _ = _
    simp only [Act.put, List.setIfInBounds_toArray, List.set_cons_zero, List.set_cons_succ, i64_w, i32_w]
    rfl
  refine pure_ (i := 13) (N := some 25) (v := ?_) (a' := ?_) #[true, true, true, true, true, true, true, true, true, true, true, true, true, true, false] rfl rfl (any_of HT_.out (by kernel_rfl)) (fun _ _ _ h => h) (Or.inl ⟨by rfl, ?_⟩) ?_ ?_
  rotate_left
  · intro w'
    go_simp
    with_reducible rfl
  rotate_left
  · simp only [Act.put, List.setIfInBounds_toArray, List.set_cons_zero, List.set_cons_succ, i64_w, i32_w]
    rfl
  refine pure_ (i := 14) (N := some 4) (v := ?_) (a' := ?_) #[true, true, true, true, true, true, true, true, true, true, true, true, true, true, true] rfl rfl (any_of HT_.out (by kernel_rfl)) (fun _ _ _ h => h) (Or.inl ⟨by rfl, ?_⟩) ?_ ?_
  rotate_left
  · intro w'
    go_simp
    with_reducible rfl
  rotate_left
  · simp only [Act.put, List.setIfInBounds_toArray, List.set_cons_zero, List.set_cons_succ, i64_w, i32_w]
    rfl
  refine done_ (done_of HT_.out (by kernel_rfl)) ?_
  try go_wp2
  go_ret
  exact ⟨by first | rfl | (simp [errW_none, errW_some] <;> rfl) | (simp only [← hji5]; first | rfl | (simp [errW_none, errW_some] <;> rfl)) | (simp [*, errW_none, errW_some] <;> rfl), by repeat (first | (with_reducible first | exact HB.out | apply below_alloc | apply pw_below_drewN | apply below_drew1) | exact HB.out)⟩
theorem toDyadicS_pad (kw : Nat) (A0 : Option Addr) (c0 : Nat) (l : List S82) (q P : List S44) (w : World) (hr : Kd.C k82 w A0 l.length l) (hc : l.length ≤ c0) (hw : laws_toDyadicSW.f kw l false = some P) (hq : q.length = l.length) :
    Calls Try.prog 13 #[.slice A0 l.length c0, .bool false] w fun e w' => ∃ (A : Option Addr) (c : Nat), e = .returned (.slice A q.length c) ∧ Kd.R k44 44 w' w.heap.size (fun _ => True) (.slice A P.length c) P ∧ Below w.heap.size w w' := by
  refine (laws_toDyadicSW.calls kw A0 c0 l false P w hr hc hw).mono ?_
  rintro e w' ⟨A, c, he, h1, h2⟩
  exact ⟨A, c, by rw [hq]; exact he, h1, h2⟩
set_option maxHeartbeats 8000000 in
set_option maxRecDepth 100000 in
theorem law_walk (A0 : Option Addr) (c0 : Nat) (l0 : List S82) (q0 P0 : List S44) (kw0 kb0 ke0 : Nat)  (w : World) (hr0 : Kd.C k82 w A0 l0.length l0) (hc0 : l0.length ≤ c0) (hw0 : laws_toDyadicSW.f kw0 l0 false = some P0) (hba0 : laws_toDyadicS.f kb0 l0 true = some q0) (hql0 : q0.length = l0.length) (hp0 : ∃ f, P0 = q0 ++ f) (hpl0 : P0.length = q0.length + room q0.length) (he0 : laws_eqDyadicS.f ke0 P0 P0 = some true)  (hn : l0.length ≤ 1000000) (ks ki : Nat) (r1 : Bool) (hs : spec_IsBoxPoint.f ks q0 = some r1) (hi : impl_IsBoxPoint.f q0 = some r1) :
    Calls Try.prog 3 #[.slice A0 l0.length c0] w fun e w' => e = .returned (.bool true) ∧ Below w.heap.size w w' := by
  have HR0 := Aside0.mk hr0
  have HC0 := Aside0.mk hc0
  have hm0 := hr0.2.1
  have HW0 := Aside0.mk hw0
  have HBA0 := Aside0.mk hba0
  have HQL0 := Aside0.mk hql0
  have HP0 := Aside0.mk hp0
  have HPL0 := Aside0.mk hpl0
  have HQN0 : Aside0 (q0.length ≤ 1000000) := ⟨by omega⟩
  have HE0 := Aside0.mk he0
  obtain ⟨s0, hs0⟩ : ∃ s : Int, s = (1000000 : Int) - (l0.length : Int) := ⟨_, rfl⟩
  have hzs0 : laws_szDyadicS.f l0 1000000 = some s0 := by unfold laws_szDyadicS.f; rw [if_neg (by unfold wrap64; omega)]; congr 1; unfold wrap64; omega
  have HSZ0 := Aside0.mk hzs0
  have cs0 : decide (s0 < 0) = false := decide_eq_false (by omega)
  have HS := Aside0.mk hs
  have HI := Aside0.mk hi
  have HB := Aside0.mk (Below.refl w.heap.size w)
  have Z := Aside0.mk (Nat.zero_le w.heap.size)
  clear hs hi hr0 hc0 hw0 hba0 hql0 hp0 hpl0 he0 hs0 hzs0 hn hm0
  go_enter Try.func3, Try.ntmps3
  go_wp2_with (first
    | ((with_reducible refine gate_callee (f := 11) rfl ?_); refine goesL_ (some 10) rfl rfl Try.func11 (by kernel_rfl) rfl #[.slice A0 l0.length c0, .int .i64 1000000] rfl (by (try simp only [List.map_toArray, List.map_cons, List.map_nil]); first | done | rfl | (simp only [List.length_drop, List.length_take]; rfl)) ?_; (with_reducible refine (laws_szDyadicS.calls _ _ l0 1000000 s0 _ ?side1 ?side2 HSZ0.out).mono ?_); (case side1 => repeat (first | exact HR0.out | exact (Kd.C_below HR0.out (by repeat (first | (with_reducible first | exact HB.out | apply below_alloc | apply pw_below_drewN | apply below_drew1) | exact HB.out))) | (with_reducible refine Kd.C_alloc ?_ _) | (with_reducible refine Kd.C_drewN ?_ _) | (with_reducible refine Kd.C_drew ?_))); (case side2 => exact HC0.out); rintro e w' ⟨rfl, ⟨nd, rfl⟩⟩; refine ⟨_, rfl, ?_⟩)
    | ((with_reducible refine gate_callee (f := 13) rfl ?_); refine goesL_ (some 14) rfl rfl Try.func13 (by kernel_rfl) rfl #[.slice A0 l0.length c0, .bool false] rfl (by (try simp only [List.map_toArray, List.map_cons, List.map_nil]); first | done | rfl | (simp only [List.length_drop, List.length_take]; rfl)) ?_; (with_reducible refine (toDyadicS_pad kw0 _ _ l0 q0 P0 _ ?side1 ?side2 HW0.out HQL0.out).mono ?_); (case side1 => repeat (first | exact HR0.out | exact (Kd.C_below HR0.out (by repeat (first | (with_reducible first | exact HB.out | apply below_alloc | apply pw_below_drewN | apply below_drew1) | exact HB.out))) | (with_reducible refine Kd.C_alloc ?_ _) | (with_reducible refine Kd.C_drewN ?_ _) | (with_reducible refine Kd.C_drew ?_))); (case side2 => exact HC0.out); rintro e w1_ ⟨A1_, c1_, rfl, ho0, hb⟩; refine ⟨_, rfl, ?_⟩; obtain ⟨a1_0_, b1_0_, z1_, z2_, zo0_, z4_⟩ := made (by exact Z.out) (by repeat (first | (with_reducible first | exact HB.out | apply below_alloc | apply pw_below_drewN | apply below_drew1) | exact HB.out)) hb ho0; clear HB Z; have O1_0 := Aside0.mk zo0_; have Q1_0 := Aside0.mk z1_; have HB := Aside0.mk z4_; have Z := Aside0.mk z2_; clear z1_ z2_ z4_ hb ho0 zo0_)
    | ((with_reducible refine gate_callee (f := 12) rfl ?_); refine goesL_ (some 15) rfl rfl Try.func12 (by kernel_rfl) rfl #[.slice A1_ q0.length c1_] rfl (by (try simp only [List.map_toArray, List.map_cons, List.map_nil]); first | done | rfl | (simp only [List.length_drop, List.length_take]; rfl)) ?_; (with_reducible refine (spec_IsBoxPoint.calls ks _ _ q0 r1 _ ?side1 ?side2 HS.out).mono ?_); (case side1 => repeat (first | exact padr HP0.out O1_0.out | (with_reducible refine Kd.C_alloc ?_ _) | (with_reducible refine Kd.C_drewN ?_ _) | (with_reducible refine Kd.C_drew ?_))); (case side2 => exact padl HP0.out (Kd.R_reads' O1_0.out).2.1); rintro e w2_ ⟨rfl, hb⟩; refine ⟨_, rfl, ?_⟩; obtain ⟨z2_, z4_⟩ := still (by exact Z.out) (by repeat (first | (with_reducible first | exact HB.out | apply below_alloc | apply pw_below_drewN | apply below_drew1) | exact HB.out)) hb; have nO1_0_ := Aside0.mk (Kd.R_below (by (with_reducible repeat (first | apply Kd.R_alloc | apply Kd.R_drewN | apply Kd.R_drew)); exact O1_0.out) hb); clear O1_0 HB Z; have O1_0 := nO1_0_; clear nO1_0_; have HB := Aside0.mk z4_; have Z := Aside0.mk z2_; clear z2_ z4_ hb)
    | ((with_reducible refine gate_callee (f := 13) rfl ?_); refine goesL_ (some 17) rfl rfl Try.func13 (by kernel_rfl) rfl #[.slice A0 l0.length c0, .bool false] rfl (by (try simp only [List.map_toArray, List.map_cons, List.map_nil]); first | done | rfl | (simp only [List.length_drop, List.length_take]; rfl)) ?_; (with_reducible refine (toDyadicS_pad kw0 _ _ l0 q0 P0 _ ?side1 ?side2 HW0.out HQL0.out).mono ?_); (case side1 => repeat (first | exact HR0.out | exact (Kd.C_below HR0.out (by repeat (first | (with_reducible first | exact HB.out | apply below_alloc | apply pw_below_drewN | apply below_drew1) | exact HB.out))) | (with_reducible refine Kd.C_alloc ?_ _) | (with_reducible refine Kd.C_drewN ?_ _) | (with_reducible refine Kd.C_drew ?_))); (case side2 => exact HC0.out); rintro e w3_ ⟨A3_, c3_, rfl, ho0, hb⟩; refine ⟨_, rfl, ?_⟩; obtain ⟨a3_0_, b3_0_, z1_, z2_, zo0_, z4_⟩ := made (by exact Z.out) (by repeat (first | (with_reducible first | exact HB.out | apply below_alloc | apply pw_below_drewN | apply below_drew1) | exact HB.out)) hb ho0; have nO1_0_ := Aside0.mk (Kd.R_below (by (with_reducible repeat (first | apply Kd.R_alloc | apply Kd.R_drewN | apply Kd.R_drew)); exact O1_0.out) hb); clear O1_0 HB Z; have O1_0 := nO1_0_; clear nO1_0_; have O3_0 := Aside0.mk zo0_; have Q3_0 := Aside0.mk z1_; have HB := Aside0.mk z4_; have Z := Aside0.mk z2_; clear z1_ z2_ z4_ hb ho0 zo0_)
    | ((with_reducible refine gate_callee (f := 14) rfl ?_); refine goesL_ (some 19) rfl rfl Try.func14 (by kernel_rfl) rfl #[.slice A3_ q0.length c3_] rfl (by (try simp only [List.map_toArray, List.map_cons, List.map_nil]); first | done | rfl | (simp only [List.length_drop, List.length_take]; rfl)) ?_; (with_reducible refine (impl_IsBoxPoint.calls _ _ q0 r1 _ ?side1 ?side2 HI.out).mono ?_); (case side1 => repeat (first | exact padr HP0.out O3_0.out | (with_reducible refine Kd.C_alloc ?_ _) | (with_reducible refine Kd.C_drewN ?_ _) | (with_reducible refine Kd.C_drew ?_))); (case side2 => exact padl HP0.out (Kd.R_reads' O3_0.out).2.1); rintro e w4_ ⟨rfl, hb⟩; refine ⟨_, rfl, ?_⟩; obtain ⟨z2_, z4_⟩ := still (by exact Z.out) (by repeat (first | (with_reducible first | exact HB.out | apply below_alloc | apply pw_below_drewN | apply below_drew1) | exact HB.out)) hb; have nO1_0_ := Aside0.mk (Kd.R_below (by (with_reducible repeat (first | apply Kd.R_alloc | apply Kd.R_drewN | apply Kd.R_drew)); exact O1_0.out) hb); have nO3_0_ := Aside0.mk (Kd.R_below (by (with_reducible repeat (first | apply Kd.R_alloc | apply Kd.R_drewN | apply Kd.R_drew)); exact O3_0.out) hb); clear O1_0 O3_0 HB Z; have O1_0 := nO1_0_; have O3_0 := nO3_0_; clear nO1_0_ nO3_0_; have HB := Aside0.mk z4_; have Z := Aside0.mk z2_; clear z2_ z4_ hb)
    | ((with_reducible refine gate_callee (f := 13) rfl ?_); refine goesL_ (some 25) rfl rfl Try.func13 (by kernel_rfl) rfl #[.slice A0 l0.length c0, .bool false] rfl (by (try simp only [List.map_toArray, List.map_cons, List.map_nil]); first | done | rfl | (simp only [List.length_drop, List.length_take]; rfl)) ?_; (with_reducible refine (toDyadicS_pad kw0 _ _ l0 q0 P0 _ ?side1 ?side2 HW0.out HQL0.out).mono ?_); (case side1 => repeat (first | exact HR0.out | exact (Kd.C_below HR0.out (by repeat (first | (with_reducible first | exact HB.out | apply below_alloc | apply pw_below_drewN | apply below_drew1) | exact HB.out))) | (with_reducible refine Kd.C_alloc ?_ _) | (with_reducible refine Kd.C_drewN ?_ _) | (with_reducible refine Kd.C_drew ?_))); (case side2 => exact HC0.out); rintro e w5_ ⟨A5_, c5_, rfl, ho0, hb⟩; refine ⟨_, rfl, ?_⟩; obtain ⟨a5_0_, b5_0_, z1_, z2_, zo0_, z4_⟩ := made (by exact Z.out) (by repeat (first | (with_reducible first | exact HB.out | apply below_alloc | apply pw_below_drewN | apply below_drew1) | exact HB.out)) hb ho0; have nO1_0_ := Aside0.mk (Kd.R_below (by (with_reducible repeat (first | apply Kd.R_alloc | apply Kd.R_drewN | apply Kd.R_drew)); exact O1_0.out) hb); have nO3_0_ := Aside0.mk (Kd.R_below (by (with_reducible repeat (first | apply Kd.R_alloc | apply Kd.R_drewN | apply Kd.R_drew)); exact O3_0.out) hb); clear O1_0 O3_0 HB Z; have O1_0 := nO1_0_; have O3_0 := nO3_0_; clear nO1_0_ nO3_0_; have O5_0 := Aside0.mk zo0_; have Q5_0 := Aside0.mk z1_; have HB := Aside0.mk z4_; have Z := Aside0.mk z2_; clear z1_ z2_ z4_ hb ho0 zo0_)
    | ((with_reducible refine gate_callee (f := 15) rfl ?_); refine goesL_ (some 26) rfl rfl Try.func15 (by kernel_rfl) rfl #[.slice A3_ q0.length c3_, .slice A5_ q0.length c5_] rfl (by (try simp only [List.map_toArray, List.map_cons, List.map_nil]); first | done | rfl | (simp only [List.length_drop, List.length_take]; rfl)) ?_; (with_reducible refine (laws_intactDyadicS.pad ke0 _ _ _ _ _ P0 _ ?side1 ?side2 ?side3 ?side4 HPL0.out HQN0.out HE0.out).mono ?_); (case side1 => exact (Kd.R_reads' (by (with_reducible repeat (first | apply Kd.R_alloc | apply Kd.R_drewN | apply Kd.R_drew)); exact O3_0.out)).2.2); (case side2 => exact (Kd.R_reads' O3_0.out).2.1); (case side3 => exact (Kd.R_reads' (by (with_reducible repeat (first | apply Kd.R_alloc | apply Kd.R_drewN | apply Kd.R_drew)); exact O5_0.out)).2.2); (case side4 => exact (Kd.R_reads' O5_0.out).2.1); rintro e w6_ ⟨rfl, hb⟩; refine ⟨_, rfl, ?_⟩; obtain ⟨z2_, z4_⟩ := still (by exact Z.out) (by repeat (first | (with_reducible first | exact HB.out | apply below_alloc | apply pw_below_drewN | apply below_drew1) | exact HB.out)) hb; have nO1_0_ := Aside0.mk (Kd.R_below (by (with_reducible repeat (first | apply Kd.R_alloc | apply Kd.R_drewN | apply Kd.R_drew)); exact O1_0.out) hb); have nO3_0_ := Aside0.mk (Kd.R_below (by (with_reducible repeat (first | apply Kd.R_alloc | apply Kd.R_drewN | apply Kd.R_drew)); exact O3_0.out) hb); have nO5_0_ := Aside0.mk (Kd.R_below (by (with_reducible repeat (first | apply Kd.R_alloc | apply Kd.R_drewN | apply Kd.R_drew)); exact O5_0.out) hb); clear O1_0 O3_0 O5_0 HB Z; have O1_0 := nO1_0_; have O3_0 := nO3_0_; have O5_0 := nO5_0_; clear nO1_0_ nO3_0_ nO5_0_; have HB := Aside0.mk z4_; have Z := Aside0.mk z2_; clear z2_ z4_ hb)
    | ((with_reducible refine gate_callee (f := 13) rfl ?_); refine goesL_ (some 29) rfl rfl Try.func13 (by kernel_rfl) rfl #[.slice A0 l0.length c0, .bool true] rfl (by (try simp only [List.map_toArray, List.map_cons, List.map_nil]); first | done | rfl | (simp only [List.length_drop, List.length_take]; rfl)) ?_; (with_reducible refine (laws_toDyadicS.calls kb0 _ _ l0 true q0 _ ?side1 ?side2 HBA0.out).mono ?_); (case side1 => repeat (first | exact HR0.out | exact (Kd.C_below HR0.out (by repeat (first | (with_reducible first | exact HB.out | apply below_alloc | apply pw_below_drewN | apply below_drew1) | exact HB.out))) | (with_reducible refine Kd.C_alloc ?_ _) | (with_reducible refine Kd.C_drewN ?_ _) | (with_reducible refine Kd.C_drew ?_))); (case side2 => exact HC0.out); rintro e w7_ ⟨v7_, rfl, ho0, hb⟩; refine ⟨_, rfl, ?_⟩; obtain ⟨a7_0_, b7_0_, z1_, z2_, zo0_, z4_⟩ := made (by exact Z.out) (by repeat (first | (with_reducible first | exact HB.out | apply below_alloc | apply pw_below_drewN | apply below_drew1) | exact HB.out)) hb ho0; have nO1_0_ := Aside0.mk (Kd.R_below (by (with_reducible repeat (first | apply Kd.R_alloc | apply Kd.R_drewN | apply Kd.R_drew)); exact O1_0.out) hb); have nO3_0_ := Aside0.mk (Kd.R_below (by (with_reducible repeat (first | apply Kd.R_alloc | apply Kd.R_drewN | apply Kd.R_drew)); exact O3_0.out) hb); have nO5_0_ := Aside0.mk (Kd.R_below (by (with_reducible repeat (first | apply Kd.R_alloc | apply Kd.R_drewN | apply Kd.R_drew)); exact O5_0.out) hb); clear O1_0 O3_0 O5_0 HB Z; have O1_0 := nO1_0_; have O3_0 := nO3_0_; have O5_0 := nO5_0_; clear nO1_0_ nO3_0_ nO5_0_; have O7_0 := Aside0.mk zo0_; have Q7_0 := Aside0.mk z1_; have HB := Aside0.mk z4_; have Z := Aside0.mk z2_; clear z1_ z2_ z4_ hb ho0 zo0_; obtain ⟨A7_, c7_, e7_⟩ := Kd.R_slice O7_0.out; subst e7_)
    | ((with_reducible refine gate_callee (f := 14) rfl ?_); refine goesL_ (some 30) rfl rfl Try.func14 (by kernel_rfl) rfl #[.slice A7_ q0.length c7_] rfl (by (try simp only [List.map_toArray, List.map_cons, List.map_nil]); first | done | rfl | (simp only [List.length_drop, List.length_take]; rfl)) ?_; (with_reducible refine (impl_IsBoxPoint.calls _ _ q0 r1 _ ?side1 ?side2 HI.out).mono ?_); (case side1 => repeat (first | exact (Kd.R_reads' O7_0.out).2.2 | (with_reducible refine Kd.C_alloc ?_ _) | (with_reducible refine Kd.C_drewN ?_ _) | (with_reducible refine Kd.C_drew ?_))); (case side2 => exact (Kd.R_reads' O7_0.out).2.1); rintro e w8_ ⟨rfl, hb⟩; refine ⟨_, rfl, ?_⟩; obtain ⟨z2_, z4_⟩ := still (by exact Z.out) (by repeat (first | (with_reducible first | exact HB.out | apply below_alloc | apply pw_below_drewN | apply below_drew1) | exact HB.out)) hb; have nO1_0_ := Aside0.mk (Kd.R_below (by (with_reducible repeat (first | apply Kd.R_alloc | apply Kd.R_drewN | apply Kd.R_drew)); exact O1_0.out) hb); have nO3_0_ := Aside0.mk (Kd.R_below (by (with_reducible repeat (first | apply Kd.R_alloc | apply Kd.R_drewN | apply Kd.R_drew)); exact O3_0.out) hb); have nO5_0_ := Aside0.mk (Kd.R_below (by (with_reducible repeat (first | apply Kd.R_alloc | apply Kd.R_drewN | apply Kd.R_drew)); exact O5_0.out) hb); have nO7_0_ := Aside0.mk (Kd.R_below (by (with_reducible repeat (first | apply Kd.R_alloc | apply Kd.R_drewN | apply Kd.R_drew)); exact O7_0.out) hb); clear O1_0 O3_0 O5_0 O7_0 HB Z; have O1_0 := nO1_0_; have O3_0 := nO3_0_; have O5_0 := nO5_0_; have O7_0 := nO7_0_; clear nO1_0_ nO3_0_ nO5_0_ nO7_0_; have HB := Aside0.mk z4_; have Z := Aside0.mk z2_; clear z2_ z4_ hb))
  go_ret
  exact ⟨by first | rfl | (simp; done), by repeat (first | (with_reducible first | exact HB.out | apply below_alloc | apply pw_below_drewN | apply below_drew1) | exact HB.out)⟩
set_option maxHeartbeats 8000000 in
set_option maxRecDepth 100000 in
theorem law_big0 (A0 : Option Addr) (c0 : Nat) (l0 : List S82) (w : World) (hr0 : Kd.C k82 w A0 l0.length l0) (hc0 : l0.length ≤ c0) (hn : ¬ l0.length ≤ 1000000) :
    Calls Try.prog 3 #[.slice A0 l0.length c0] w fun e w' => e = .returned (.bool true) ∧ Below w.heap.size w w' := by
  have HR0 := Aside0.mk hr0; have HC0 := Aside0.mk hc0; have hm0 := hr0.2.1
  obtain ⟨s0, hs0⟩ : ∃ s : Int, s = (-1) := ⟨_, rfl⟩
  have hzs0 : laws_szDyadicS.f l0 1000000 = some s0 := by unfold laws_szDyadicS.f; rw [if_pos (by unfold wrap64; omega), hs0]
  have HSZ0 := Aside0.mk hzs0
  have cs0 : decide (s0 < 0) = true := decide_eq_true (by omega)
  have HB := Aside0.mk (Below.refl w.heap.size w)
  have Z := Aside0.mk (Nat.zero_le w.heap.size)
  clear hn hr0 hc0 hm0 hs0 hzs0
  go_enter Try.func3, Try.ntmps3
  go_wp2_with (first
    | ((with_reducible refine gate_callee (f := 11) rfl ?_); refine goesL_ (some 10) rfl rfl Try.func11 (by kernel_rfl) rfl #[.slice A0 l0.length c0, .int .i64 1000000] rfl (by (try simp only [List.map_toArray, List.map_cons, List.map_nil]); first | done | rfl | (simp only [List.length_drop, List.length_take]; rfl)) ?_; (with_reducible refine (laws_szDyadicS.calls _ _ l0 1000000 s0 _ ?side1 ?side2 HSZ0.out).mono ?_); (case side1 => repeat (first | exact HR0.out | exact (Kd.C_below HR0.out (by repeat (first | (with_reducible first | exact HB.out | apply below_alloc | apply pw_below_drewN | apply below_drew1) | exact HB.out))) | (with_reducible refine Kd.C_alloc ?_ _) | (with_reducible refine Kd.C_drewN ?_ _) | (with_reducible refine Kd.C_drew ?_))); (case side2 => exact HC0.out); rintro e w' ⟨rfl, ⟨nd, rfl⟩⟩; refine ⟨_, rfl, ?_⟩))
  go_ret
  exact ⟨by first | rfl | (simp; done), by repeat (first | (with_reducible first | exact HB.out | apply below_alloc | apply pw_below_drewN | apply below_drew1) | exact HB.out)⟩
/-- What is left to show, over numbers and lists alone. -/
def Pure : Prop := ∀ (l0 : List S82), l0.length ≤ 1000000 → ∃ (ks ki : Nat) (r1 : Bool), spec_IsBoxPoint.f ks (l0.map cvDyadicS) = some r1 ∧ impl_IsBoxPoint.f (l0.map cvDyadicS) = some r1
theorem law_holds (P_ : Pure) (A0 : Option Addr) (c0 : Nat) (l0 : List S82) (w : World) (hr0 : Kd.C k82 w A0 l0.length l0) (hc0 : l0.length ≤ c0) :
    Calls Try.prog 3 #[.slice A0 l0.length c0] w fun e w' => e = .returned (.bool true) ∧ Below w.heap.size w w' := by
  by_cases hn0 : l0.length ≤ 1000000
  case neg => exact law_big0 A0 c0 l0 w hr0 hc0 hn0
  obtain ⟨ks, ki, r1, hs, hi⟩ := P_ l0 hn0
  obtain ⟨kw0, hw0⟩ := toDyadicS_whole l0 (by omega)
  obtain ⟨kb0, hba0⟩ := toDyadicS_bare l0 (by omega)
  have hrm0 := room_le l0.length
  exact law_walk A0 c0 l0 _ (padDyadicS l0) kw0 kb0 ((padDyadicS l0).length + 1)  w hr0 hc0 hw0 hba0 (by simp) ⟨_, rfl⟩ (by rw [padDyadicS_length, List.length_map]) (eqDyadicS_self _ (by rw [padDyadicS_length]; omega))  hn0 ks ki r1 hs hi
end Go.Proofs.Ytalcohajbcijlaa.QBp
