import Derived.Test.YtneceomekgophaaEvSound
set_option linter.unusedVariables false
set_option linter.unusedSimpArgs false
namespace Go.Proofs.Ytneceomekgophaa.Ev
open Go Go.RowKit Go.Proofs Go.Proofs.YtneceomekgophaaW.PrintWords Go.Proofs.YtneceomekgophaaW.PrintLast
section
variable {P : Program} {T : List (Nat × TyI)} {X0 : Nat → Prop} {gs : List Nat} {w0 w : World} {m : Nm} {s : St} {a : Act} {ρ : Type} {r : ρ}
theorem tyI_of (hT : TabOk P T) {t : Nat} {i : TyI} (h : look T t = some i) :
    ∃ ti d z, P.info? t = some ti ∧ P.underlying t = some d ∧ ti.zero = some z ∧ i.size = ti.size ∧ i.agg = aggD d ∧ i.zero = z.cells.toList ∧ i.kind = kindD P d := by
  have hq := hT t i h
  obtain ⟨size, agg, bytes, zero, kind, code, eqn⟩ := i
  unfold tyOf at hq
  cases h1 : P.info? t with
  | none => simp [h1] at hq
  | some ti =>
    cases h2 : P.underlying t with
    | none => simp [h1, h2] at hq
    | some d =>
      cases h3 : ti.zero with
      | none => simp [h1, h2, h3] at hq
      | some z =>
        simp only [h1, h2, h3, Option.some.injEq, TyI.mk.injEq] at hq
        exact ⟨ti, d, z, rfl, rfl, h3, hq.1.symm, hq.2.1.symm, hq.2.2.2.1.symm, hq.2.2.2.2.1.symm⟩
theorem fields_at : ∀ {fs : List Field} {l : List (Nat × Nat × Bool)}, fieldsD P fs = some l → ∀ (k o n : Nat) (g : Bool), l[k]? = some (o, n, g) →
    ∃ f fi fd, fs[k]? = some f ∧ P.info? f.type = some fi ∧ P.underlying f.type = some fd ∧ o = f.offset ∧ n = fi.size ∧ g = aggD fd
  | [], l, h, k, o, n, g, hk => by simp [fieldsD] at h; subst h; simp at hk
  | f :: r, l, h, k, o, n, g, hk => by
    simp only [fieldsD] at h
    cases h1 : P.info? f.type with
    | none => simp [h1] at h
    | some fi =>
      cases h2 : P.underlying f.type with
      | none => simp [h1, h2] at h
      | some fd =>
        cases h3 : fieldsD P r with
        | none => simp [h1, h2, h3] at h
        | some l' =>
          simp only [h1, h2, h3, Option.some.injEq] at h
          subst h
          cases k with
          | zero =>
            simp only [List.getElem?_cons_zero, Option.some.injEq, Prod.mk.injEq] at hk
            exact ⟨f, fi, fd, rfl, h1, h2, hk.1.symm, hk.2.1.symm, hk.2.2.symm⟩
          | succ k => exact fields_at h3 k o n g (by simpa using hk)
theorem struct_of {d : TypeDesc} {l : List (Nat × Nat × Bool)} (h : kindD P d = .struct l) : ∃ fs, d = .struct fs ∧ fieldsD P fs.toList = some l := by
  cases d with
  | struct fs =>
    refine ⟨fs, rfl, ?_⟩
    simp only [kindD] at h
    split at h
    · rename_i l' hl; injection h with h; rw [← h]; exact hl
    · cases h
  | _ => simp [kindD] at h
theorem run_isAgg {t : Nat} {d : TypeDesc} (hu : P.underlying t = some d) (w : World) : (isAgg t).run P w = .ok (aggD d) w := by
  unfold isAgg
  rw [Sem.run_bind, run_underlying hu w]
  cases d <;> rfl
theorem run_sizeOf {t : Nat} {ti : TypeInfo} (hi : P.info? t = some ti) (w : World) : (sizeOf t).run P w = .ok ti.size w := by simp [sizeOf, typeInfo, hi]
theorem take_vis {X : Nat → Prop} {xs : List AV} {ys : List Value} (h : VisL X w m xs ys) (o n : Nat) : VisL X w m ((xs.drop o).take n) ((ys.drop o).take n) := by
  refine ⟨by simp [h.1], fun i x y h1 h2 => ?_⟩
  rw [List.getElem?_take] at h1 h2
  split at h1
  · rename_i hi
    rw [if_pos hi] at h2
    rw [List.getElem?_drop] at h1 h2
    exact h.2 _ x y h1 h2
  · cases h1
theorem vis_at {X : Nat → Prop} {xs : List AV} {ys : List Value} (h : VisL X w m xs ys) {i : Nat} {x : AV} (hx : xs[i]? = some x) : ∃ y, ys[i]? = some y ∧ Vis X w m x y := by
  have hl := (List.getElem?_eq_some_iff.1 hx).1
  rw [h.1] at hl
  exact ⟨ys[i], List.getElem?_eq_getElem hl, h.2 i x _ hx (List.getElem?_eq_getElem hl)⟩
theorem vis_agg {X : Nat → Prop} {xs : List AV} {y : Value} (h : Vis X w m (.agg xs) y) : ∃ ys : List Value, y = .agg ys.toArray ∧ VisL X w m xs ys := by
  cases h with
  | agg hl h => exact ⟨_, rfl, hl, h⟩
theorem vis_tup {X : Nat → Prop} {xs : List AV} {y : Value} (h : Vis X w m (.tup xs) y) : ∃ ys : List Value, y = .tuple ys.toArray ∧ VisL X w m xs ys := by
  cases h with
  | tup hl h => exact ⟨_, rfl, hl, h⟩
theorem flat_vis {X : Nat → Prop} {x : AV} {y : Value} (h : Vis X w m x y) (hn : x.flat.all AV.one = true) : VisL X w m x.flat y.cells.toList := by
  have one : ∀ {x : AV} {y : Value}, Vis X w m x y → VisL X w m [x] [y] := fun {x y} h => ⟨rfl, fun i u v h1 h2 => by
    cases i with
    | zero => simp at h1 h2; subst h1 h2; exact h
    | succ i => simp at h1⟩
  cases h with
  | agg hl h => simpa [AV.flat, Value.cells, VisL] using (⟨hl, h⟩ : VisL X w m _ _)
  | v =>
    cases y with
    | agg cs => simp [AV.flat, AV.one, Value.oneCell'] at hn
    | _ => exact one (.v _)
  | own h => simp [AV.flat, AV.one] at hn
  | ptr o h => exact one (.ptr o h)
  | tup hl h => exact one (.tup hl h)
  | row h => exact one (.row h)
  | elem h => exact one (.elem h)
/-- A variable read, cell by cell. -/
theorem load_run {X : Nat → Prop} {i : TyI} {t : Nat} (hT : TabOk P T) (ht : look T t = some i) {cs : List AV} {ys : List Value} (hv : VisL X w m cs ys) {o : Nat} {x : AV} (hp : part i cs o = some x) {ad : Addr} :
    ∃ y, Vis X w m x y ∧ ∀ w', (∀ (j : Nat) (u : Value), ys[o + j]? = some u → w'.cell? (ad.add j) = some u) → (Instr.loadAt t (.pointer (some ad))).run P w' = .ok y w' := by
  obtain ⟨ti, d, z, h1, h2, h3, h4, h5, h6, h7⟩ := tyI_of hT ht
  unfold part at hp
  cases hg : i.agg with
  | true =>
    rw [hg] at hp
    simp only [cond_true] at hp
    cases hb : Nat.ble (o + i.size) cs.length with
    | false => rw [hb] at hp; cases hp
    | true =>
      rw [hb] at hp
      simp only [cond_true, Option.some.injEq] at hp
      subst hp
      have hle := Nat.le_of_ble_eq_true hb
      have hlen : ((ys.drop o).take i.size).length = ti.size := by rw [List.length_take, List.length_drop, ← hv.1, ← h4]; omega
      have hvt := take_vis hv o i.size
      refine ⟨.agg ((ys.drop o).take i.size).toArray, .agg hvt.1 hvt.2, fun w' hc => ?_⟩
      have hl := run_loadCells_list (P := P) w' ad ((ys.drop o).take i.size) (fun j u hu => by
        rw [List.getElem?_take] at hu
        split at hu
        · rw [List.getElem?_drop] at hu; exact hc j u hu
        · cases hu)
      rw [hlen] at hl
      simp [Instr.loadAt, Instr.sureAddr, loadVar, run_isAgg h2, ← h5, hg, run_sizeOf h1, hl]
  | false =>
    rw [hg] at hp
    simp only [cond_false] at hp
    obtain ⟨y, hy, hvy⟩ := vis_at hv hp
    refine ⟨y, hvy, fun w' hc => ?_⟩
    have h0 := hc 0 y (by simpa using hy)
    have ha : ad.add 0 = ad := by simp [Addr.add]
    rw [ha] at h0
    simp [Instr.loadAt, Instr.sureAddr, loadVar, run_isAgg h2, ← h5, hg, h0]
theorem cells_at (g o : Nat) : ∀ {ys : Array Value} {t : Nat} {w : World}, w.heap[g]? = some (.cells ys t (0, 0)) → ∀ (j : Nat) (u : Value), ys.toList[o + j]? = some u → w.cell? ((⟨g, o, none⟩ : Addr).add j) = some u := by
  intro ys t w h j u hu
  have ha : (⟨g, o, none⟩ : Addr).add j = ⟨g, o + j, none⟩ := by unfold Addr.add; split <;> simp_all
  rw [ha]
  simp [World.cell?, h]
  simpa using hu
theorem enc_vis {X : Nat → Prop} {F : Nat → Prop} (hF : ∀ k, F k → k < w.heap.size ∧ ¬ X k) : ∀ {c : RKc} {x : c.T} {cs : List Value}, Foot c F w x cs → VisL X w m (c.enc x) cs
  | .int k, x, cs, h => by
    simp only [Foot] at h; subst h
    exact ⟨rfl, fun i u v h1 h2 => by
      cases i with
      | zero => simp [RKc.enc] at h1 h2; subst h1 h2; exact .v _
      | succ i => simp [RKc.enc] at h1⟩
  | .bool, x, cs, h => by
    simp only [Foot] at h; subst h
    exact ⟨rfl, fun i u v h1 h2 => by
      cases i with
      | zero => simp [RKc.enc] at h1 h2; subst h1 h2; exact .v _
      | succ i => simp [RKc.enc] at h1⟩
  | .pair a b, x, cs, h => by
    obtain ⟨c0, c1, rfl, h0, h1⟩ := h
    have v0 := enc_vis hF h0
    have v1 := enc_vis hF h1
    refine ⟨by simp [RKc.enc, v0.1, v1.1], fun i u v e1 e2 => ?_⟩
    simp only [RKc.enc] at e1
    rw [List.getElem?_append] at e1 e2
    rw [v0.1] at e1
    split at e1
    · rename_i hi; rw [if_pos hi] at e2; exact v0.2 i u v e1 e2
    · rename_i hi; rw [if_neg hi] at e2; exact v1.2 _ u v e1 e2
  | .list e c, xs, cs, h => by
    obtain ⟨A, cap, rfl, hl, hm, hc⟩ := h
    exact ⟨rfl, fun i u v h1 h2 => by
      cases i with
      | zero => simp [RKc.enc] at h1 h2; subst h1 h2; exact .row ⟨hl, F, hF, hm, hc⟩
      | succ i => simp [RKc.enc] at h1⟩
theorem one_of {X : Nat → Prop} {xs : List AV} {ys : List Value} (h : VisL X w m xs ys) (hn : xs.all AV.one = true) : ∀ u ∈ ys, u.oneCell' = true := by
  intro u hu
  obtain ⟨i, hi⟩ := List.getElem?_of_mem hu
  have hl := (List.getElem?_eq_some_iff.1 hi).1
  rw [← h.1] at hl
  have h1 := all_at hn i _ (List.getElem?_eq_getElem hl)
  have hv := h.2 i _ u (List.getElem?_eq_getElem hl) hi
  revert h1 hv
  generalize xs[i] = x
  intro h1 hv
  cases hv with
  | v => exact h1
  | agg hl h => simp [AV.one] at h1
  | tup hl h => simp [AV.one] at h1
  | own h => simp [AV.one] at h1
  | _ => rfl
/-! ### The operations that only read -/
theorem pure_simple {X : Nat → Prop} {o : Oper} {K : AV → Option ρ} {x : AV} {y : Value} (hk : K x = some r) (hv : Vis X w m x y) (hr : ∀ w', (execOp a.eval o).run P w' = .ok (.value y) w') : PureOk P X w m a o K r :=
  ⟨x, y, hk, hv, fun w' _ => hr w'⟩
theorem move_sound (h : Rel0 X0 gs w0 m s a w) {o : Oper} {x : Operand} {K : AV → Option ρ} (ho : o.op = .move x ∨ o.op = .assign x) (hp : (match s.ev x with | some y => K y | none => none) = some r) :
    PureOk P (XS X0 m) w m a o K r := by
  cases hx : s.ev x with
  | none => rw [hx] at hp; cases hp
  | some y =>
    rw [hx] at hp
    exact pure_simple hp (ev_sound h hx) fun w' => by rcases ho with ho | ho <;> simp [execOp, ho]
theorem field_sound (hT : TabOk P T) (h : Rel0 X0 gs w0 m s a w) {o : Oper} {t f : Nat} {x : Operand} {K : AV → Option ρ} (ho : o.op = .field t x f) (hp : pureOp T s (.field t x f) K = some r) :
    PureOk P (XS X0 m) w m a o K r := by
  simp only [pureOp] at hp
  split at hp
  · rename_i sz ag by_ ze fs co q_ cs ht hx
    obtain ⟨ti, d, z, h1, h2, h3, h4, h5, h6, h7⟩ := tyI_of hT ht
    obtain ⟨fds, rfl, hfs⟩ := struct_of h7.symm
    obtain ⟨ys, hy, hv⟩ := vis_agg (ev_sound h hx)
    split at hp
    · rename_i off n g hf
      obtain ⟨fd, fi, dd, e1, e2, e3, rfl, rfl, rfl⟩ := fields_at hfs f off n g hf
      have e1' : fds[f]? = some fd := by simpa using e1
      split at hp
      · rename_i v hv2
        cases hg : aggD dd with
        | true =>
          rw [hg] at hv2
          simp only [cond_true, Option.some.injEq] at hv2
          subst hv2
          have hvt := take_vis hv fd.offset fi.size
          refine ⟨_, .agg ((ys.drop fd.offset).take fi.size).toArray, hp, .agg hvt.1 hvt.2, fun w' _ => ?_⟩
          have hex : ys.toArray.extract fd.offset (fd.offset + fi.size) = ((ys.drop fd.offset).take fi.size).toArray := by simp
          simp [execOp, ho, Instr.field, run_underlying h2, e1', asAgg, hy, Go.part, run_isAgg e3, hg, run_sizeOf e2, hex]
        | false =>
          rw [hg] at hv2
          simp only [cond_false] at hv2
          obtain ⟨y, hy2, hvy⟩ := vis_at hv hv2
          refine ⟨v, y, hp, hvy, fun w' _ => ?_⟩
          have hy3 : ys.toArray[fd.offset]? = some y := by simpa using hy2
          simp [execOp, ho, Instr.field, run_underlying h2, e1', asAgg, hy, Go.part, run_isAgg e3, hg, hy2]
      · cases hp
    · cases hp
  · cases hp
end
end Go.Proofs.Ytneceomekgophaa.Ev
