import Derived.Test.YtneceomekgophaaEvSound2
set_option linter.unusedVariables false
set_option linter.unusedSimpArgs false
namespace Go.Proofs.Ytneceomekgophaa.Ev
open Go Go.RowKit Go.Proofs Go.Proofs.YtneceomekgophaaW.PrintWords Go.Proofs.YtneceomekgophaaW.PrintLast
section
variable {P : Program} {T : List (Nat × TyI)} {X0 : Nat → Prop} {gs : List Nat} {w0 w : World} {m : Nm} {s : St} {a : Act} {ρ : Type} {r : ρ}
theorem add_add (ad : Addr) (i j : Nat) : (ad.add i).add j = ad.add (i + j) := by
  unfold Addr.add
  by_cases hi : i = 0
  · subst hi; simp
  · by_cases hj : j = 0
    · subst hj; simp [hi]
    · simp [hi, hj, show i + j ≠ 0 by omega, Nat.add_assoc]
theorem vis_ptr {X : Nat → Prop} {b o : Nat} {y : Value} (h : Vis X w m (.ptr b o) y) : ∃ g, m b = some (.blk g) ∧ y = .pointer (some ⟨g, o, none⟩) := by
  cases h with
  | ptr o h => exact ⟨_, h, rfl⟩
theorem vis_own {X : Nat → Prop} {b : Nat} {y : Value} (h : Vis X w m (.own b) y) : ∃ l, m b = some (.row y l) := by
  cases h with
  | own h => exact ⟨_, h⟩
theorem blk_spec {l : List (Nat × List AV × Nat)} {b : Nat} {cs : List AV} {t : Nat} (h : blk l b = some (cs, t)) : look l b = some (cs, t) ∧ cs ≠ [] ∧ ∀ e c xs, cs ≠ [.orow e c xs] := by
  unfold blk at h
  split at h
  · cases h
  · cases h
  · rename_i h1 h2
    refine ⟨h, ?_, ?_⟩
    · rintro rfl; exact h1 _ h
    · rintro e c xs rfl; exact h2 _ _ _ _ h
theorem orow_spec {l : List (Nat × List AV × Nat)} {b e : Nat} {c : RKc} {xs : List c.T} (h : orow l b = some (e, ⟨c, xs⟩)) : ∃ t, look l b = some ([.orow e c xs], t) := by
  unfold orow at h
  split at h
  · rename_i e' c' xs' t' hl
    simp only [Option.some.injEq, Prod.mk.injEq, Sigma.mk.injEq] at h
    obtain ⟨rfl, rfl, h3⟩ := h
    cases h3
    exact ⟨t', hl⟩
  · cases h
theorem Rel0.var (h : Rel0 X0 gs w0 m s a w) {b : Nat} {cs : List AV} {t : Nat} (hb : blk s.blks b = some (cs, t)) : ∃ g ys t', m b = some (.blk g) ∧ w.heap[g]? = some (.cells ys t' (0, 0)) ∧ VisL (XS X0 m) w m cs ys.toList := by
  obtain ⟨h1, h2, h3⟩ := blk_spec hb
  rcases h.blks b cs t h1 with e | ⟨e, c, xs, y, e1, _⟩ | e
  · exact absurd e h2
  · exact absurd e1 (h3 e c xs)
  · exact e
theorem Rel0.row (h : Rel0 X0 gs w0 m s a w) {b e : Nat} {c : RKc} {xs : List c.T} (hb : orow s.blks b = some (e, ⟨c, xs⟩)) : ∃ y, m b = some (.row y true) ∧ OwnR w0.heap.size w e c xs y := by
  obtain ⟨t, h1⟩ := orow_spec hb
  rcases h.blks b _ t h1 with e | ⟨e, c, xs, y, e1, e2, e3⟩ | ⟨g, ys, t', e1, e2, e3⟩
  · cases e
  · injection e1 with e1 _
    injection e1 with q1 q2 q3
    subst q1 q2
    cases q3
    exact ⟨y, e2, e3⟩
  · exfalso
    have hl := e3.1
    cases hy : ys.toList with
    | nil => rw [hy] at hl; simp at hl
    | cons z zs =>
      have := e3.2 0 _ z rfl (by rw [hy]; rfl)
      cases this
theorem OwnR.len {base e : Nat} {c : RKc} {xs : List c.T} {y : Value} (h : OwnR base w e c xs y) : ∃ A cap, y = .slice A xs.length cap ∧ xs.length ≤ cap := by
  obtain ⟨_, inner, h1, _, _⟩ := h
  rcases h1.2 with ⟨h2, h3⟩ | ⟨g, cap, cur, h2, _, _, h3, _⟩
  · exact ⟨none, 0, by rw [h2, h3], by omega⟩
  · exact ⟨_, cap, h2, h3⟩
theorem vis_elem {X : Nat → Prop} {c : RKc} {x : c.T} {o : Nat} {y : Value} (h : Vis X w m (.elem c x o) y) : ∃ ad, y = .pointer (some ad) ∧ ElemOk X w c x o ad := by
  cases h with
  | elem h => exact ⟨_, rfl, h⟩
theorem vis_row {X : Nat → Prop} {c : RKc} {xs : List c.T} {y : Value} (h : Vis X w m (.row c xs) y) : ∃ A cap, y = .slice A xs.length cap ∧ RowOk X w c xs A cap := by
  cases h with
  | row h => exact ⟨_, _, rfl, h⟩
theorem fieldAddr_sound (hT : TabOk P T) (h : Rel0 X0 gs w0 m s a w) {o : Oper} {t f : Nat} {x : Operand} {K : AV → Option ρ} (ho : o.op = .fieldAddr t x f) (hp : pureOp T s (.fieldAddr t x f) K = some r) :
    PureOk P (XS X0 m) w m a o K r := by
  simp only [pureOp] at hp
  split at hp
  · rename_i sz ag by_ ze fs co q_ y ht hx
    obtain ⟨ti, d, z, h1, h2, h3, h4, h5, h6, h7⟩ := tyI_of hT ht
    obtain ⟨fds, rfl, hfs⟩ := struct_of h7.symm
    have hv := ev_sound h hx
    split at hp
    · rename_i off n g b p hf
      obtain ⟨fd, fi, dd, e1, e2, e3, rfl, e4, rfl⟩ := fields_at hfs f off (n + 1) g hf
      have e1' : fds[f]? = some fd := by simpa using e1
      obtain ⟨g', hg, hy⟩ := vis_ptr hv
      refine ⟨_, _, hp, .ptr (p + fd.offset) hg, fun w' _ => ?_⟩
      have hz : fi.size ≠ 0 := by omega
      have ha : (⟨g', p, none⟩ : Addr).add fd.offset = ⟨g', p + fd.offset, none⟩ := by unfold Addr.add; split <;> simp_all
      simp [execOp, ho, Instr.fieldAt, run_underlying h2, e1', hy, Instr.sureAddr, fieldPlace, run_sizeOf e2, hz, ha]
    · rename_i off n g c y' p hf
      obtain ⟨fd, fi, dd, e1, e2, e3, rfl, e4, rfl⟩ := fields_at hfs f off (n + 1) g hf
      have e1' : fds[f]? = some fd := by simpa using e1
      obtain ⟨ad, hy, F, hF, ha, cs, hC, hc⟩ := vis_elem hv
      have hz : fi.size ≠ 0 := by omega
      refine ⟨_, .pointer (some (ad.add fd.offset)), hp, .elem ⟨F, hF, by unfold Addr.add; split <;> exact ha, cs, hC, fun j u hu => ?_⟩, fun w' _ => ?_⟩
      · rw [add_add]; exact hc _ u (by rw [← Nat.add_assoc]; exact hu)
      · simp [execOp, ho, Instr.fieldAt, run_underlying h2, e1', hy, Instr.sureAddr, fieldPlace, run_sizeOf e2, hz]
    · cases hp
  · cases hp
theorem load_sound (hT : TabOk P T) (h : Rel0 X0 gs w0 m s a w) {o : Oper} {t : Nat} {x : Operand} {K : AV → Option ρ} (ho : o.op = .load t x) (hp : pureOp T s (.load t x) K = some r) :
    PureOk P (XS X0 m) w m a o K r := by
  simp only [pureOp] at hp
  split at hp
  · rename_i i b p ht hx
    obtain ⟨g', hg, hy⟩ := vis_ptr (ev_sound h hx)
    split at hp
    · rename_i cs t' hb
      obtain ⟨g, ys, t'', hg2, hh, hv⟩ := h.var hb
      have : g = g' := by rw [hg] at hg2; injection hg2 with e; injection e with e; exact e.symm
      subst this
      split at hp
      · rename_i v hpt
        obtain ⟨y, hvy, hrun⟩ := load_run hT ht hv hpt (ad := ⟨g, p, none⟩)
        refine ⟨v, y, hp, hvy, fun w' hw => ?_⟩
        have hlt : g < w.heap.size := ((h.fresh b _ hg).2 g rfl).1
        have := hrun w' (cells_at g p ((hw g hlt).trans hh))
        simp [execOp, ho, hy, this]
      · cases hp
    · cases hp
  · rename_i i c y' p ht hx
    obtain ⟨ad, hy, F, hF, ha, cs, hC, hc⟩ := vis_elem (ev_sound h hx)
    split at hp
    · rename_i v hpt
      obtain ⟨y, hvy, hrun⟩ := load_run hT ht (enc_vis hF hC) hpt (ad := ad)
      refine ⟨v, y, hp, hvy, fun w' hw => ?_⟩
      have := hrun w' (fun j u hu => (cell_on (F := F) (fun k hk => hw k (hF k hk).1) ha j).trans (hc j u hu))
      simp [execOp, ho, hy, this]
    · cases hp
  · cases hp
theorem nilCheck_sound (h : Rel0 X0 gs w0 m s a w) {o : Oper} {x : Operand} {K : AV → Option ρ} (ho : o.op = .nilCheck x) (hp : pureOp T s (.nilCheck x) K = some r) :
    PureOk P (XS X0 m) w m a o K r := by
  simp only [pureOp] at hp
  split at hp
  · rename_i b p hx
    obtain ⟨g', hg, hy⟩ := vis_ptr (ev_sound h hx)
    exact ⟨_, _, hp, .ptr p hg, fun w' _ => by simp [execOp, ho, hy]⟩
  · rename_i c y p hx
    have hv := ev_sound h hx
    obtain ⟨ad, hy, hE⟩ := vis_elem hv
    exact ⟨_, _, hp, .elem hE, fun w' _ => by simp [execOp, ho, hy]⟩
  · rename_i f c d hx
    have hy := vis_v (ev_sound h hx)
    exact ⟨_, _, hp, .v _, fun w' _ => by simp [execOp, ho, hy]⟩
  · cases hp
theorem pick_sound (h : Rel0 X0 gs w0 m s a w) {o : Oper} {c x y : Operand} {K : AV → Option ρ} (ho : o.op = .pick c x y) (hp : pureOp T s (.pick c x y) K = some r) :
    PureOk P (XS X0 m) w m a o K r := by
  simp only [pureOp] at hp
  split at hp
  · rename_i b u v hc hx hy
    have e := vis_v (ev_sound h hc)
    cases b with
    | true => exact ⟨_, _, hp, ev_sound h hx, fun w' _ => by simp [execOp, ho, e, asBool]⟩
    | false => exact ⟨_, _, hp, ev_sound h hy, fun w' _ => by simp [execOp, ho, e, asBool]⟩
  · cases hp
theorem unOp_sound (h : Rel0 X0 gs w0 m s a w) {o : Oper} {op : UnOp} {t : Nat} {x : Operand} {K : AV → Option ρ} (ho : o.op = .unOp op t x) (hp : pureOp T s (.unOp op t x) K = some r) :
    PureOk P (XS X0 m) w m a o K r := by
  simp only [pureOp] at hp
  split at hp
  · rename_i k n hx
    have e := vis_v (ev_sound h hx)
    exact ⟨_, _, hp, .v _, fun w' _ => by simp [execOp, ho, e, Op.unary, Op.intArith, wr_eq]⟩
  · rename_i b hx
    have e := vis_v (ev_sound h hx)
    exact ⟨_, _, hp, .v _, fun w' _ => by simp [execOp, ho, e, Op.unary]⟩
  · cases hp
theorem convert_sound (hT : TabOk P T) (h : Rel0 X0 gs w0 m s a w) {o : Oper} {t t' : Nat} {x : Operand} {K : AV → Option ρ} (ho : o.op = .convert t t' x) (hp : pureOp T s (.convert t t' x) K = some r) :
    PureOk P (XS X0 m) w m a o K r := by
  simp only [pureOp] at hp
  split at hp
  · rename_i i0 sz ag by_ ze k co q_ k' n hs ht hx
    obtain ⟨ti, d, z, h1, h2, h3, h4, h5, h6, h7⟩ := tyI_of hT ht
    have hd : d = .int k := by
      cases d with
      | struct fs => simp only [kindD] at h7; split at h7 <;> cases h7
      | int k2 => simp only [kindD] at h7; injection h7 with e; rw [e]
      | _ => simp [kindD] at h7
    subst hd
    have e := vis_v (ev_sound h hx)
    obtain ⟨_, d', _, _, hd', _⟩ := tyI_of hT hs
    refine ⟨_, _, hp, .v _, fun w' _ => ?_⟩
    cases d' <;> simp [execOp, ho, e, convert, run_underlying h2, run_underlying hd', Conv.intToInt, wr_eq]
  · cases hp
theorem extract_sound (h : Rel0 X0 gs w0 m s a w) {o : Oper} {x : Operand} {i : Nat} {K : AV → Option ρ} (ho : o.op = .extract x i) (hp : pureOp T s (.extract x i) K = some r) :
    PureOk P (XS X0 m) w m a o K r := by
  simp only [pureOp] at hp
  split at hp
  · rename_i xs hx
    obtain ⟨ys, hy, hv⟩ := vis_tup (ev_sound h hx)
    split at hp
    · rename_i y hi
      obtain ⟨u, hu, hvu⟩ := vis_at hv hi
      have hu' : ys.toArray[i]? = some u := by simpa using hu
      exact ⟨_, _, hp, hvu, fun w' _ => by simp [execOp, ho, hy, Instr.extract, hu]⟩
    · cases hp
  · cases hp
/-- '==' of numbers, one after the other. -/
def eqLs : List Value → List Value → Option Bool
  | [], [] => some true
  | .int k a :: r, .int k' b :: s => cond (decide (k = k')) (match eqLs r s with
    | some z => some (decide (a = b) && z)
    | none => none) none
  | _, _ => none
theorem eqLs_len : ∀ {xs ys : List Value} {z : Bool}, eqLs xs ys = some z → xs.length = ys.length
  | [], [], _, _ => rfl
  | .int k a :: r, .int k' b :: s, z, h => by
    simp only [eqLs] at h
    cases hk : decide (k = k') with
    | false => rw [hk] at h; cases h
    | true =>
      rw [hk] at h
      cases h1 : eqLs r s with
      | none => rw [h1] at h; cases h
      | some u => simp only [List.length_cons, eqLs_len h1]
theorem eqLs_split : ∀ (n : Nat) {xs ys : List Value} {z : Bool}, eqLs xs ys = some z → ∃ z1 z2, eqLs (xs.take n) (ys.take n) = some z1 ∧ eqLs (xs.drop n) (ys.drop n) = some z2 ∧ z = (z1 && z2)
  | 0, xs, ys, z, h => ⟨true, z, rfl, h, by simp⟩
  | n + 1, [], [], z, h => ⟨true, true, rfl, rfl, by simp only [eqLs, Option.some.injEq] at h; rw [← h]; rfl⟩
  | n + 1, .int k a :: r, .int k' b :: s, z, h => by
    simp only [eqLs] at h
    cases hk : decide (k = k') with
    | false => rw [hk] at h; cases h
    | true =>
      rw [hk] at h
      cases h1 : eqLs r s with
      | none => rw [h1] at h; cases h
      | some u =>
        rw [h1] at h
        simp only [cond_true, Option.some.injEq] at h
        obtain ⟨z1, z2, e1, e2, e3⟩ := eqLs_split n h1
        refine ⟨decide (a = b) && z1, z2, ?_, e2, ?_⟩
        · simp only [List.take_succ_cons, eqLs, hk, e1, cond_true]
        · rw [← h, e3, Bool.and_assoc]
theorem eqAVs_vis {X : Nat → Prop} : ∀ {cs ds : List AV} {ys zs : List Value} {z : Bool}, eqAVs cs ds = some z → VisL X w m cs ys → VisL X w m ds zs → eqLs ys zs = some z
  | [], [], ys, zs, z, h, h1, h2 => by
    have e1 : ys = [] := List.length_eq_zero_iff.1 h1.1.symm
    have e2 : zs = [] := List.length_eq_zero_iff.1 h2.1.symm
    subst e1 e2
    simp only [eqAVs, Option.some.injEq] at h
    rw [← h]; rfl
  | .v (.int k a) :: r, .v (.int k' b) :: s, ys, zs, z, h, h1, h2 => by
    match ys, zs, h1, h2 with
    | [], _, h1, _ => have := h1.1; simp at this
    | _ :: _, [], _, h2 => have := h2.1; simp at this
    | y :: ys, u :: zs, h1, h2 =>
      have e1 := vis_v (h1.2 0 _ y rfl rfl)
      have e2 := vis_v (h2.2 0 _ u rfl rfl)
      subst e1 e2
      simp only [eqAVs] at h
      cases hk : decide (k = k') with
      | false => rw [hk] at h; cases h
      | true =>
        rw [hk] at h
        cases h3 : eqAVs r s with
        | none => rw [h3] at h; cases h
        | some q =>
          rw [h3] at h
          have e3 := eqAVs_vis h3 ⟨by simpa using h1.1, fun i x y a b => h1.2 (i + 1) x y (by simpa using a) (by simpa using b)⟩ ⟨by simpa using h2.1, fun i x y a b => h2.2 (i + 1) x y (by simpa using a) (by simpa using b)⟩
          simp only [eqLs, hk, e3]
          exact h
/-- The cells of a value. -/
def CellsOf (P : Program) (t : TypeId) (xs : List Value) (x : Value) : Prop := ∀ d, P.underlying t = some d → (aggD d = true → x = .agg xs.toArray) ∧ (aggD d = false → xs = [x])
theorem eqFs_run {g : TypeId → Option Nat} {D : Nat} (hg : ∀ t n xs ys z x y w, g t = some n → xs.length = n → eqLs xs ys = some z → CellsOf P t xs x → CellsOf P t ys y → (Op.equalIn D t x y).run P w = .ok z w)
    (h1 : ∀ t n d, g t = some n → P.underlying t = some d → aggD d = false → n = 1) {X Y : List Value} {n : Nat} (hX : X.length = n) (hY : Y.length = n) : ∀ {fs : List Field} {k : Nat} {z : Bool}, eqFs P g k fs = some n → eqLs (X.drop k) (Y.drop k) = some z → ∀ w, (Op.eqFields D X.toArray Y.toArray fs).run P w = .ok z w
  | [], k, z, h, hz, w => by
    simp only [eqFs, Option.some.injEq] at h
    subst h
    rw [List.drop_eq_nil_of_le (by omega), List.drop_eq_nil_of_le (by omega)] at hz
    simp only [eqLs, Option.some.injEq] at hz
    rw [← hz]; simp [Op.eqFields]
  | f :: r, k, z, h, hz, w => by
    simp only [eqFs] at h
    cases e1 : P.info? f.type with
    | none => rw [e1] at h; cases h
    | some i =>
      cases e2 : P.underlying f.type with
      | none => rw [e1, e2] at h; cases h
      | some d =>
        cases e3 : g f.type with
        | none => rw [e1, e2, e3] at h; cases h
        | some q =>
          rw [e1, e2, e3] at h
          simp only at h
          cases hb : (f.name == "_" || !(Nat.beq f.offset k && Nat.beq i.size q)) with
          | true => rw [hb] at h; cases h
          | false =>
            rw [hb] at h
            simp only [cond_false] at h
            simp only [Bool.or_eq_false_iff, Bool.not_eq_false', Bool.and_eq_true] at hb
            have hn : f.name ≠ "_" := by simpa using hb.1
            have ho : f.offset = k := Nat.eq_of_beq_eq_true hb.2.1
            have hs : i.size = q := Nat.eq_of_beq_eq_true hb.2.2
            obtain ⟨z1, z2, s1, s2, s3⟩ := eqLs_split q hz
            rw [List.drop_drop, List.drop_drop] at s2
            have kl : k + q ≤ n := by
              have go : ∀ {fs : List Field} {k n : Nat}, eqFs P g k fs = some n → k ≤ n := by
                intro fs
                induction fs with
                | nil => intro k n h; simp only [eqFs, Option.some.injEq] at h; omega
                | cons f r ih =>
                  intro k n h
                  simp only [eqFs] at h
                  split at h
                  · rename_i i d q a1 a2 a3
                    cases hc : (f.name == "_" || !(Nat.beq f.offset k && Nat.beq i.size q)) with
                    | true => rw [hc] at h; cases h
                    | false => rw [hc] at h; have := ih h; omega
                  · cases h
              exact go h
            have rest := eqFs_run hg h1 hX hY h s2 w
            have piece : ∀ {L : List Value}, L.length = n → ∃ x, (Go.part f.type L.toArray f.offset).run P w = .ok x w ∧ CellsOf P f.type ((L.drop k).take q) x := by
              intro L hL
              cases ha : aggD d with
              | true =>
                refine ⟨.agg ((L.drop k).take q).toArray, ?_, fun d' hd => ?_⟩
                · have hex : L.toArray.extract f.offset (f.offset + i.size) = ((L.drop f.offset).take i.size).toArray := by simp
                  rw [← ho, ← hs, ← hex]
                  simp [Go.part, run_isAgg e2, ha, run_sizeOf e1]
                · rw [e2] at hd
                  injection hd with hd
                  subst hd
                  exact ⟨fun _ => rfl, fun h => (by rw [ha] at h; cases h)⟩
              | false =>
                have q1 := h1 _ _ _ e3 e2 ha
                have hk : k < L.length := by omega
                refine ⟨L[k], ?_, fun d' hd => ?_⟩
                · have hg2 : L[f.offset]? = some L[k] := by rw [ho]; exact List.getElem?_eq_getElem hk
                  simp [Go.part, run_isAgg e2, ha, hg2]
                · rw [e2] at hd
                  injection hd with hd
                  subst hd
                  refine ⟨fun h => (by rw [ha] at h; cases h), fun _ => ?_⟩
                  rw [q1, List.drop_eq_getElem_cons hk]; rfl
            obtain ⟨x, x1, x2⟩ := piece hX
            obtain ⟨y, y1, y2⟩ := piece hY
            have he := hg f.type q _ _ z1 x y w e3 (by rw [List.length_take, List.length_drop]; omega) s1 x2 y2
            rw [Op.eqFields]
            simp only [if_pos hn, Sem.run_bind, x1, y1, he, Result.andThen_ok]
            subst s3
            cases z1
            · simp
            · simpa using rest
theorem eqCells_run : ∀ (d : Nat) (D : Nat) (t : TypeId) (n : Nat) (xs ys : List Value) (z : Bool) (x y : Value) (w : World), eqCells P d t = some n → xs.length = n → eqLs xs ys = some z → CellsOf P t xs x → CellsOf P t ys y → (Op.equalIn (D + d) t x y).run P w = .ok z w
  | 0, D, t, n, xs, ys, z, x, y, w, h, _, _, _, _ => by simp [eqCells] at h
  | d + 1, D, t, n, xs, ys, z, x, y, w, h, hl, hz, hx, hy => by
    have hlen := eqLs_len hz
    simp only [eqCells] at h
    split at h
    · rename_i k0 hu
      simp only [Option.some.injEq] at h
      have e1 := (hx _ hu).2 rfl
      have e2 := (hy _ hu).2 rfl
      subst e1 e2
      cases x <;> cases y <;> try (simp [eqLs] at hz; done)
      rename_i k a k' b
      simp only [eqLs] at hz
      have e : (a == b) = decide (a = b) := by by_cases e : a = b <;> simp [e]
      cases hk : decide (k = k') with
      | false => rw [hk] at hz; cases hz
      | true =>
        rw [hk] at hz
        simp only [cond_true, Option.some.injEq, Bool.and_true] at hz
        have := of_decide_eq_true hk
        subst this
        rw [show D + (d + 1) = (D + d) + 1 by omega, run_equalIn_int w (D + d) t k k0 a b hu, e, hz]
    · rename_i fs hu
      cases hs : (P.stoodInHeld t || P.eqGuardType P.depth t) with
      | true => rw [hs] at h; cases h
      | false =>
        rw [hs] at h
        simp only [cond_false] at h
        rw [Bool.or_eq_false_iff] at hs
        have e1 := (hx _ hu).1 rfl
        have e2 := (hy _ hu).1 rfl
        subst e1 e2
        have hf : P.fieldsOf t = fs := by simp [Program.fieldsOf, hu]
        rw [show D + (d + 1) = (D + d) + 1 by omega, run_equalIn_struct (P := P) w (D + d) t _ _ (by rw [hf]; exact hu) hs.1, hf]
        refine eqFs_run (g := eqCells P d) (fun t n xs ys z x y w a b c e f => eqCells_run d D t n xs ys z x y w a b c e f) (fun t n dd a b c => ?_) hl (by omega) h hz w
        cases d with
        | zero => simp [eqCells] at a
        | succ d =>
          simp only [eqCells, b] at a
          cases dd with
          | int k => simp only [Option.some.injEq] at a; exact a.symm
          | struct fs => simp [aggD] at c
          | _ => simp at a
    · cases h
theorem eqn_of (hT : TabOk P T) {t : Nat} {i : TyI} (h : look T t = some i) : i.eqn = (eqCells P 6 t).getD 0 ∧ ∃ d, P.underlying t = some d ∧ i.agg = aggD d := by
  have hq := hT t i h
  obtain ⟨size, agg, bytes, zero, kind, code, eqn⟩ := i
  unfold tyOf at hq
  cases h1 : P.info? t with
  | none => simp [h1] at hq
  | some ti =>
    cases h2 : P.underlying t with
    | none => simp [h1, h2] at hq
    | some d =>
      cases h3 : ti.zero with
      | none => simp [h1, h2, h3] at hq
      | some z =>
        simp only [h1, h2, h3, Option.some.injEq, TyI.mk.injEq] at hq
        exact ⟨hq.2.2.2.2.2.2.symm, d, rfl, hq.2.1.symm⟩
theorem binOp_sound (hT : TabOk P T) (h : Rel0 X0 gs w0 m s a w) {o : Oper} {op : BinOp} {t t' : Nat} {x y : Operand} {K : AV → Option ρ} (ho : o.op = .binOp op t x y t') (hp : pureOp T s (.binOp op t x y t') K = some r) :
    PureOk P (XS X0 m) w m a o K r := by
  simp only [pureOp] at hp
  split at hp
  · rename_i k p k' q hx hy
    exact intOp_sound ho (vis_v (ev_sound h hx)) (vis_v (ev_sound h hy)) hp
  · rename_i p q hx hy
    have e1 := vis_v (ev_sound h hx)
    have e2 := vis_v (ev_sound h hy)
    have bool_of : ∀ {d : TypeDesc}, TK.bool = kindD P d → d = .bool := fun {d} hd => by
      cases d with
      | struct fs => simp only [kindD] at hd; split at hd <;> cases hd
      | bool => rfl
      | _ => simp [kindD] at hd
    split at hp
    · rename_i i0 sz ag by_ ze co q_ ht
      obtain ⟨ti, d, z, h1, h2, h3, h4, h5, h6, h7⟩ := tyI_of hT ht
      have hd := bool_of h7
      subst hd
      refine ⟨_, _, hp, .v _, fun w' _ => ?_⟩
      have hg : (eqGuard .eql t x y (.bool p) (.bool q)).run P w' = .ok () w' := by simp [eqGuard]
      simp [execOp, ho, e1, e2, hg, run_eql_bool w' t p q h2]
    · rename_i i0 sz ag by_ ze co q_ ht
      obtain ⟨ti, d, z, h1, h2, h3, h4, h5, h6, h7⟩ := tyI_of hT ht
      have hd := bool_of h7
      subst hd
      refine ⟨_, _, hp, .v _, fun w' _ => ?_⟩
      have hg : (eqGuard .neq t x y (.bool p) (.bool q)).run P w' = .ok () w' := by simp [eqGuard]
      simp [execOp, ho, e1, e2, hg, run_neq_bool w' t p q h2]
    · cases hp
  · rename_i cs ds hx hy
    obtain ⟨ys, hy1, hv1⟩ := vis_agg (ev_sound h hx)
    obtain ⟨zs, hy2, hv2⟩ := vis_agg (ev_sound h hy)
    split at hp
    · rename_i i ht
      cases hc : (i.agg && (Nat.beq cs.length i.eqn && Nat.ble 1 i.eqn)) with
      | false => rw [hc] at hp; cases hp
      | true =>
        rw [hc] at hp
        simp only [cond_true] at hp
        simp only [Bool.and_eq_true] at hc
        obtain ⟨q1, d, q2, q3⟩ := eqn_of hT ht
        have hle : 1 ≤ i.eqn := Nat.le_of_ble_eq_true hc.2.2
        have hln : cs.length = i.eqn := Nat.eq_of_beq_eq_true hc.2.1
        have hag : aggD d = true := by rw [← q3]; exact hc.1
        cases hE : eqCells P 6 t with
        | none => rw [hE] at q1; simp at q1; omega
        | some n =>
          rw [hE] at q1
          simp only [Option.getD_some] at q1
          cases hz : eqAVs cs ds with
          | none => rw [hz] at hp; cases hp
          | some z =>
            rw [hz] at hp
            have hzl := eqAVs_vis hz hv1 hv2
            have run : ∀ w', (Op.equalIn 10000 t (.agg ys.toArray) (.agg zs.toArray)).run P w' = .ok z w' := fun w' =>
              eqCells_run 6 9994 t n ys zs z _ _ w' hE (by rw [← hv1.1, hln, q1]) hzl (fun d' hd => ⟨fun _ => rfl, fun h => by rw [q2] at hd; injection hd with hd; subst hd; rw [hag] at h; cases h⟩) (fun d' hd => ⟨fun _ => rfl, fun h => by rw [q2] at hd; injection hd with hd; subst hd; rw [hag] at h; cases h⟩)
            have hgd : P.eqGuardType P.depth t = false := by
              simp only [eqCells] at hE
              rw [q2] at hE
              cases d with
              | struct fs =>
                simp only at hE
                cases hs : (P.stoodInHeld t || P.eqGuardType P.depth t) with
                | true => rw [hs] at hE; cases hE
                | false => rw [Bool.or_eq_false_iff] at hs; exact hs.2
              | array n e => simp at hE
              | _ => simp [aggD] at hag
            cases op <;> simp only at hp <;> first | (cases hp; done) | skip
            · refine ⟨_, _, hp, .v _, fun w' _ => ?_⟩
              have hg := run_eqGuard_agg w' .eql t x y ys.toArray zs.toArray hgd
              simp [execOp, ho, hy1, hy2, hg, run_eql_struct, run w']
            · refine ⟨_, _, hp, .v _, fun w' _ => ?_⟩
              have hg := run_eqGuard_agg w' .neq t x y ys.toArray zs.toArray hgd
              simp [execOp, ho, hy1, hy2, hg, run_neq_struct, run w']
    · cases hp
  · cases hp
theorem fillAt_vis {X : Nat → Prop} : ∀ {cs : List AV} {o : Nat} {xs cs' : List AV} {ys zs : List Value}, fillAt cs o xs = some cs' → VisL X w m cs ys → VisL X w m xs zs →
    o + xs.length ≤ cs.length ∧ VisL X w m cs' (ys.take o ++ zs ++ ys.drop (o + zs.length)) := by
  have cons : ∀ {x : AV} {xs : List AV} {y : Value} {ys : List Value}, VisL X w m (x :: xs) (y :: ys) → Vis X w m x y ∧ VisL X w m xs ys := fun {x xs y ys} h =>
    ⟨h.2 0 x y rfl rfl, by simpa using h.1, fun i u v h1 h2 => h.2 (i + 1) u v (by simpa using h1) (by simpa using h2)⟩
  have snoc : ∀ {x : AV} {xs : List AV} {y : Value} {ys : List Value}, Vis X w m x y → VisL X w m xs ys → VisL X w m (x :: xs) (y :: ys) := fun {x xs y ys} h0 h =>
    ⟨by simp [h.1], fun i u v h1 h2 => by
      cases i with
      | zero => simp at h1 h2; subst h1 h2; exact h0
      | succ i => exact h.2 i u v (by simpa using h1) (by simpa using h2)⟩
  intro cs
  induction cs with
  | nil =>
    intro o xs cs' ys zs h h1 h2
    cases o with
    | zero =>
      cases xs with
      | nil =>
        simp only [fillAt, Option.some.injEq] at h
        subst h
        have : ys = [] := by have := h1.1; cases ys with
          | nil => rfl
          | cons u us => simp at this
        have : zs = [] := by have := h2.1; cases zs with
          | nil => rfl
          | cons u us => simp at this
        subst_vars
        exact ⟨by simp, by simpa using h1⟩
      | cons x xs => simp [fillAt] at h
    | succ o => simp [fillAt] at h
  | cons c cs ih =>
    intro o xs cs' ys zs h h1 h2
    cases ys with
    | nil => have := h1.1; simp at this
    | cons y ys =>
      obtain ⟨hc, hcs⟩ := cons h1
      cases o with
      | zero =>
        cases xs with
        | nil =>
          simp only [fillAt, Option.some.injEq] at h
          subst h
          have : zs = [] := by have := h2.1; cases zs with
            | nil => rfl
            | cons u us => simp at this
          subst this
          exact ⟨by simp, by simpa using h1⟩
        | cons x xs =>
          cases zs with
          | nil => have := h2.1; simp at this
          | cons z zs =>
            obtain ⟨hx, hxs⟩ := cons h2
            simp only [fillAt] at h
            cases hr : fillAt cs 0 xs with
            | none => rw [hr] at h; cases h
            | some r' =>
              rw [hr] at h
              simp only [Option.some.injEq] at h
              subst h
              obtain ⟨hl, hv⟩ := ih hr hcs hxs
              refine ⟨by simp at hl ⊢; omega, ?_⟩
              have := snoc hx hv
              simpa using this
      | succ o =>
        simp only [fillAt] at h
        cases hr : fillAt cs o xs with
        | none => rw [hr] at h; cases h
        | some r' =>
          rw [hr] at h
          simp only [Option.some.injEq] at h
          subst h
          obtain ⟨hl, hv⟩ := ih hr hcs h2
          refine ⟨by simp at hl ⊢; omega, ?_⟩
          have := snoc hc hv
          simpa [show o + 1 + zs.length = (o + zs.length) + 1 by omega] using this
theorem fold_set (off : Nat) : ∀ (zs : List Value) (k : Nat) (ys : Array Value), off + k + zs.length ≤ ys.size →
    ((zs.zipIdx k).foldl (fun cs (c, j) => cs.setIfInBounds (off + j) c) ys) = (ys.toList.take (off + k) ++ zs ++ ys.toList.drop (off + k + zs.length)).toArray
  | [], k, ys, h => by simp
  | z :: zs, k, ys, h => by
    simp only [List.zipIdx_cons, List.foldl_cons]
    rw [fold_set off zs (k + 1) _ (by simp at h ⊢; omega)]
    congr 1
    simp only [List.length_cons] at h
    apply List.ext_getElem?
    intro i
    simp only [Array.toList_setIfInBounds, List.getElem?_append, List.length_take, List.length_set, Array.length_toList, List.length_append, List.length_cons]
    by_cases h1 : i < off + k
    · simp [h1, show i < off + (k + 1) by omega, show min (off + (k + 1)) ys.size = off + (k + 1) by omega, show min (off + k) ys.size = off + k by omega, show i < off + (k + 1) + zs.length by omega, show i < off + k + (zs.length + 1) by omega, show off + k ≠ i by omega, List.getElem?_take]
    · by_cases h2 : i = off + k
      · subst h2
        simp [show min (off + (k + 1)) ys.size = off + (k + 1) by omega, show min (off + k) ys.size = off + k by omega, show off + k < off + (k + 1) by omega, show off + k < off + (k + 1) + zs.length by omega, show off + k < ys.size by omega, List.getElem?_take]
      · simp only [show min (off + (k + 1)) ys.size = off + (k + 1) by omega, show min (off + k) ys.size = off + k by omega]
        by_cases h3 : i < off + k + (zs.length + 1)
        · have h4 : i < off + (k + 1) + zs.length := by omega
          have h5 : ¬ i < off + (k + 1) := by omega
          simp only [h1, h3, h4, h5, if_true, if_false]
          rw [show i - (off + k) = (i - (off + (k + 1))) + 1 by omega, List.getElem?_cons_succ]
        · have h4 : ¬ i < off + (k + 1) + zs.length := by omega
          simp only [h3, h4, if_false]
          rw [List.getElem?_drop, List.getElem?_drop, List.getElem?_set_ne (by omega)]
          congr 1
          omega
theorem build_vis (h : Rel0 X0 gs w0 m s a w) {fs : List (Nat × Nat × Bool)} {place : Nat → Option (Nat × Nat)} (hpl : ∀ (i o n : Nat) (g : Bool), fs[i]? = some (o, n, g) → place i = some (o, n)) :
    ∀ {parts : List (Nat × Operand)} {cs cs' : List AV} {ys : List Value}, buildCells s fs cs parts = some cs' → VisL (XS X0 m) w m cs ys →
      ∃ ys' : List Value, Instr.fill place ys.toArray (parts.map fun p => (p.1, a.eval p.2)) = some ys'.toArray ∧ VisL (XS X0 m) w m cs' ys'
  | [], cs, cs', ys, hb, hv => by
    simp only [buildCells, Option.some.injEq] at hb
    subst hb
    exact ⟨ys, rfl, hv⟩
  | (i, x) :: rest, cs, cs', ys, hb, hv => by
    simp only [buildCells] at hb
    split at hb
    · rename_i o n g y hf hx
      cases hc : (Nat.beq y.flat.length n && y.flat.all AV.one) with
      | false => rw [hc] at hb; cases hb
      | true =>
        rw [hc] at hb
        simp only [cond_true] at hb
        simp only [Bool.and_eq_true] at hc
        split at hb
        · rename_i cs1 hfill
          have hvx := flat_vis (ev_sound h hx) hc.2
          obtain ⟨hl, hv1⟩ := fillAt_vis hfill hv hvx
          obtain ⟨ys', hf', hv'⟩ := build_vis h hpl hb hv1
          refine ⟨ys', ?_, hv'⟩
          have hn : (a.eval x).cells.size = n := by
            have h1 := hvx.1
            have h2 := Nat.eq_of_beq_eq_true hc.1
            simp only [Array.length_toList] at h1
            omega
          have hsz : o + (a.eval x).cells.size ≤ ys.length := by have := hv.1; have := hvx.1; simp only [Array.length_toList] at this; omega
          simp only [List.map_cons, Instr.fill, hpl i o n g hf, hn, ne_eq, not_true_eq_false, false_or]
          rw [if_neg (by simp; omega)]
          rw [← hf']
          congr 1
          have := fold_set o (a.eval x).cells.toList 0 ys.toArray (by simp; omega)
          simp only [Nat.add_zero] at this
          rw [← this, ← Array.foldl_toList, Array.toList_zipIdx]
        · cases hb
    · cases hb
theorem places_of : ∀ {fs : List Field} {l : List (Nat × Nat × Bool)}, fieldsD P fs = some l → fs.mapM (fun f => (P.info? f.type).map fun i => (f.offset, i.size)) = some (l.map fun p => (p.1, p.2.1))
  | [], l, h => by simp [fieldsD] at h; subst h; rfl
  | f :: r, l, h => by
    simp only [fieldsD] at h
    cases h1 : P.info? f.type with
    | none => simp [h1] at h
    | some fi =>
      cases h2 : P.underlying f.type with
      | none => simp [h1, h2] at h
      | some fd =>
        cases h3 : fieldsD P r with
        | none => simp [h1, h2, h3] at h
        | some l' =>
          simp only [h1, h2, h3, Option.some.injEq] at h
          subst h
          simp [List.mapM_cons, h1, places_of h3]
theorem plain_vis {X : Nat → Prop} (z : List Value) : VisL X w m (z.map .v) z := ⟨by simp, fun i x y h1 h2 => by
  simp only [List.getElem?_map, h2, Option.map_some, Option.some.injEq] at h1
  subst h1
  exact .v y⟩
theorem arr_of {d : TypeDesc} {n e : Nat} (h : TK.arr n e = kindD P d) : d = .array n e := by
  cases d with
  | struct fs => simp only [kindD] at h; split at h <;> cases h
  | array n' e' => simp only [kindD] at h; injection h with e1 e2; rw [e1, e2]
  | _ => simp [kindD] at h
theorem build_sound (hT : TabOk P T) (h : Rel0 X0 gs w0 m s a w) {o : Oper} {t : Nat} {parts : Array (Nat × Operand)} {K : AV → Option ρ} (ho : o.op = .build t parts) (hp : pureOp T s (.build t parts) K = some r) :
    PureOk P (XS X0 m) w m a o K r := by
  simp only [pureOp] at hp
  split at hp
  · rename_i sz ag by_ z fs co q_ ht
    obtain ⟨ti, d, zv, h1, h2, h3, h4, h5, h6, h7⟩ := tyI_of hT ht
    obtain ⟨fds, rfl, hfs⟩ := struct_of h7.symm
    simp only at h6
    split at hp
    · rename_i cs hb
      have hpl := places_of hfs
      obtain ⟨ys, hf, hv⟩ := build_vis (place := ((fs.map fun p => (p.1, p.2.1)).toArray[·]?)) h (fun i o n g hi => by simp [hi]) hb (plain_vis z)
      refine ⟨_, .agg ys.toArray, hp, .agg hv.1 hv.2, fun w' _ => ?_⟩
      have hbuilt : P.built t (parts.map fun (i, x) => (i, a.eval x)).toList = some ys.toArray := by
        simp only [Program.built, h1, h2, h3, hpl]
        rw [h6] at hf
        simpa using hf
      have := run_build (P := P) w' t (parts.map fun (i, x) => (i, a.eval x)) ys.toArray hbuilt
      simp [execOp, ho, this]
    · cases hp
  · rename_i sz ag by_ z n e co q_ ht
    obtain ⟨ti, d, zv, h1, h2, h3, h4, h5, h6, h7⟩ := tyI_of hT ht
    have hd : d = .array n e := arr_of h7
    subst hd
    simp only at h6
    split at hp
    · rename_i ie hie
      obtain ⟨te, de, ze', g1, g2, g3, g4, g5, g6, g7⟩ := tyI_of hT hie
      split at hp
      · rename_i cs hb
        obtain ⟨ys, hf, hv⟩ := build_vis (place := fun i => some (i * ie.size, ie.size)) h (fun i o n' g hi => by
          unfold arrPlaces at hi
          rw [List.getElem?_map] at hi
          obtain ⟨j, hj, hj2⟩ := Option.map_eq_some_iff.1 hi
          simp only [Prod.mk.injEq] at hj2
          have : j = i := by
            obtain ⟨q1, q2⟩ := List.getElem?_eq_some_iff.1 hj
            rw [List.getElem_range] at q2
            exact q2.symm
          rw [← hj2.1, ← hj2.2.1, this]) hb (plain_vis z)
        refine ⟨_, .agg ys.toArray, hp, .agg hv.1 hv.2, fun w' _ => ?_⟩
        have hbuilt : P.built t (parts.map fun (i, x) => (i, a.eval x)).toList = some ys.toArray := by
          simp only [Program.built, h1, h2, h3, g1]
          rw [h6, g4] at hf
          simpa using hf
        have := run_build (P := P) w' t (parts.map fun (i, x) => (i, a.eval x)) ys.toArray hbuilt
        simp [execOp, ho, this]
      · cases hp
    · cases hp
  · cases hp
theorem intsOf_vis {X : Nat → Prop} {k : IntKind} : ∀ {cs : List AV} {xs : List Int} {ys : List Value}, intsOf k cs = some xs → VisL X w m cs ys → xs.length = ys.length ∧ ∀ (i : Nat) (x : Int), xs[i]? = some x → ys[i]? = some (.int k x)
  | [], xs, ys, h, hv => by
    simp only [intsOf, Option.some.injEq] at h
    subst h
    exact ⟨hv.1, fun i x hx => by simp at hx⟩
  | c :: cs, xs, ys, h, hv => by
    unfold intsOf at h
    split at h
    · rename_i e; cases e
    · rename_i k' x r' e
      injection e with e1 e2
      subst e1 e2
      cases hk : decide (k' = k) with
      | false => rw [hk] at h; cases h
      | true =>
        rw [hk] at h
        have hk' := of_decide_eq_true hk
        subst hk'
        simp only [cond_true] at h
        split at h
        · rename_i xs' hr
          simp only [Option.some.injEq] at h
          subst h
          cases ys with
          | nil => simp [VisL] at hv
          | cons y ys =>
            have h0 := vis_v (hv.2 0 _ _ rfl rfl)
            subst h0
            have ih := intsOf_vis hr (ys := ys) ⟨by simpa using hv.1, fun i a b h1 h2 => hv.2 (i + 1) a b (by simpa using h1) (by simpa using h2)⟩
            refine ⟨by simp [ih.1], fun i z hz => ?_⟩
            cases i with
            | zero => simp at hz ⊢; exact hz
            | succ i => simp at hz ⊢; exact ih.2 i z hz
        · cases h
    · cases h
theorem indexAddr_sound (hT : TabOk P T) (h : Rel0 X0 gs w0 m s a w) {o : Oper} {t : Nat} {x i : Operand} {K : AV → Option ρ} (ho : o.op = .indexAddr t x i) (hp : pureOp T s (.indexAddr t x i) K = some r) :
    PureOk P (XS X0 m) w m a o K r := by
  simp only [pureOp] at hp
  split at hp
  · rename_i sz ag by_ ze n e co q_ b p k j ht hx hi
    obtain ⟨g, hg, hy⟩ := vis_ptr (ev_sound h hx)
    have hi' := vis_v (ev_sound h hi)
    obtain ⟨ti, d, z, h1, h2, h3, h4, h5, h6, h7⟩ := tyI_of hT ht
    have hd : d = .array n e := arr_of h7
    subst hd
    split at hp
    · rename_i ie hie
      obtain ⟨te, de, ze', g1, g2, g3, g4, g5, g6, g7⟩ := tyI_of hT hie
      cases hn0 : decide (0 ≤ j) with
      | false => rw [hn0] at hp; cases hp
      | true =>
        cases hn1 : decide (j < (n : Int)) with
        | false => rw [hn0, hn1] at hp; cases hp
        | true =>
          rw [hn0, hn1] at hp
          simp only [cond_true] at hp
          have q0 : 0 ≤ j := of_decide_eq_true hn0
          have q1 : j < (n : Int) := of_decide_eq_true hn1
          refine ⟨_, .pointer (some ⟨g, p + j.toNat * ie.size, none⟩), hp, .ptr _ hg, fun w' _ => ?_⟩
          have hadd : (⟨g, p, none⟩ : Addr).add (j.toNat * te.size) = ⟨g, p + j.toNat * ie.size, none⟩ := by
            rw [g4]; unfold Addr.add; split <;> simp_all
          simp [execOp, ho, Instr.indexAt, hi', hy, run_underlying h2, asIntOf, q0, q1, run_sizeOf g1, Instr.sureAddr, hadd]
    · cases hp
  · rename_i sz ag by_ ze e co q_ c xs k n ht hx hi
    obtain ⟨A, cap, hy, hl, F, hF, hR⟩ := vis_row (ev_sound h hx)
    have hi' := vis_v (ev_sound h hi)
    obtain ⟨ti, d, z, h1, h2, h3, h4, h5, h6, h7⟩ := tyI_of hT ht
    have hd : d = .slice e := by
      cases d with
      | struct fs => simp only [kindD] at h7; split at h7 <;> cases h7
      | slice k2 => simp only [kindD] at h7; injection h7 with e; rw [e]
      | _ => simp [kindD] at h7
    subst hd
    split at hp
    · rename_i ie hie
      obtain ⟨te, de, ze', g1, g2, g3, g4, g5, g6, g7⟩ := tyI_of hT hie
      cases hsz : Nat.beq ie.size c.sz with
      | false => rw [hsz] at hp; cases hp
      | true =>
        rw [hsz] at hp
        have hsz' : te.size = c.sz := by rw [← g4]; exact Nat.eq_of_beq_eq_true hsz
        simp only [cond_true] at hp
        cases hn0 : decide (0 ≤ n) with
        | false => rw [hn0] at hp; cases hp
        | true =>
          cases hn1 : decide (n < (xs.length : Int)) with
          | false => rw [hn0, hn1] at hp; cases hp
          | true =>
            rw [hn0, hn1] at hp
            simp only [cond_true] at hp
            have q0 : 0 ≤ n := of_decide_eq_true hn0
            have q1 : n < (xs.length : Int) := of_decide_eq_true hn1
            obtain ⟨ad, rfl, hFa, hcs⟩ := hR.2 (by omega)
            have hlt : n.toNat < xs.length := by omega
            obtain ⟨q, hq1, hq2, hq3⟩ := hcs n.toNat _ (List.getElem?_eq_getElem hlt)
            have hget : xs.getD n.toNat c.dflt = xs[n.toNat] := by simp [List.getD, List.getElem?_eq_getElem hlt]
            refine ⟨_, .pointer (some (ad.add (n.toNat * c.sz))), hp, .elem ⟨F, hF, by unfold Addr.add; split <;> exact hFa, q, by rw [hget]; exact hq2, fun j u hu => ?_⟩, fun w' _ => ?_⟩
            · rw [add_add]; exact hq3 j u (by simpa using hu)
            · simp [execOp, ho, Instr.indexAt, hi', hy, run_underlying h2, asIntOf, q0, q1, run_sizeOf g1, hsz']
    · cases hp
  · cases hp
theorem index_sound (hT : TabOk P T) (h : Rel0 X0 gs w0 m s a w) {o : Oper} {t : Nat} {x i : Operand} {K : AV → Option ρ} (ho : o.op = .index t x i) (hp : pureOp T s (.index t x i) K = some r) :
    PureOk P (XS X0 m) w m a o K r := by
  simp only [pureOp] at hp
  split at hp
  · rename_i sz ag by_ ze n e co q_ cs k j ht hx hi
    obtain ⟨ys, hy, hv⟩ := vis_agg (ev_sound h hx)
    have hi' := vis_v (ev_sound h hi)
    obtain ⟨ti, d, z, h1, h2, h3, h4, h5, h6, h7⟩ := tyI_of hT ht
    have hd : d = .array n e := arr_of h7
    subst hd
    split at hp
    · rename_i ag2 by2 ze2 k2 co2 q2_ hie
      obtain ⟨te, de, ze', g1, g2, g3, g4, g5, g6, g7⟩ := tyI_of hT hie
      simp only at g4 g5 g7
      have hde : de = .int k2 := by
        cases de with
        | struct fs => simp only [kindD] at g7; split at g7 <;> cases g7
        | int k3 => simp only [kindD] at g7; injection g7 with e; rw [e]
        | _ => simp [kindD] at g7
      subst hde
      split at hp
      · rename_i xs hxs
        cases hn : Nat.beq xs.length n with
        | false => rw [hn] at hp; cases hp
        | true =>
          rw [hn] at hp
          simp only [cond_true] at hp
          cases hn0 : decide (0 ≤ j) with
          | false => rw [hn0] at hp; cases hp
          | true =>
            cases hn1 : decide (j < (n : Int)) with
            | false => rw [hn0, hn1] at hp; cases hp
            | true =>
              rw [hn0, hn1] at hp
              simp only [cond_true] at hp
              have q0 : 0 ≤ j := of_decide_eq_true hn0
              have q1 : j < (n : Int) := of_decide_eq_true hn1
              have q2 := Nat.eq_of_beq_eq_true hn
              obtain ⟨r1, r2⟩ := intsOf_vis hxs hv
              have hlt : j.toNat < xs.length := by omega
              have hget : xs.getD j.toNat 0 = xs[j.toNat] := by simp [List.getD, List.getElem?_eq_getElem hlt]
              have hys := r2 j.toNat _ (List.getElem?_eq_getElem hlt)
              refine pure_simple hp (.v _) fun w' => ?_
              rw [hget]
              have hagg := run_isAgg g2 w'
              simp [execOp, ho, Instr.index, hi', hy, run_underlying h2, asIntOf, q0, q1, run_sizeOf g1, ← g4, Go.part, hagg, aggD, hys]
      · cases hp
    · cases hp
  · cases hp
theorem evs_at (h : Rel0 X0 gs w0 m s a w) : ∀ {xs : List Operand} {k : IntKind} {p : Int} {r : List (Option AV)}, xs.map s.ev = some (.v (.int k p)) :: r → ∃ x xs', xs = x :: xs' ∧ a.eval x = .int k p ∧ xs'.map s.ev = r
  | [], _, _, _, hx => by simp at hx
  | x :: xs', k, p, r, hx => by
    simp only [List.map_cons, List.cons.injEq] at hx
    exact ⟨x, xs', rfl, vis_v (ev_sound h hx.1), hx.2⟩
theorem mxI_sound (h : Rel0 X0 gs w0 m s a w) {f : Int → Int → Int} {g : Value → Value → Sem Value} (hg : ∀ k p q w', (g (.int k p) (.int k q)).run P w' = .ok (.int k (f p q)) w') {K : AV → Option ρ} :
    ∀ {l : List (Option AV)} {xs : List Operand} {k : IntKind} {p : Int}, mxI k K f p l = some r → xs.map s.ev = l → ∃ q, K (.v (.int k q)) = some r ∧ ∀ w', ((xs.map a.eval).foldlM g (.int k p)).run P w' = .ok (.int k q) w'
  | [], xs, k, p, hp, hx => by
    have : xs = [] := by simpa using hx
    subst this
    exact ⟨p, hp, fun w' => by simp⟩
  | o :: l, xs, k, p, hp, hx => by
    cases xs with
    | nil => simp at hx
    | cons x xs =>
      simp only [List.map_cons, List.cons.injEq] at hx
      unfold mxI at hp
      split at hp
      · rename_i h0; cases h0
      · rename_i k' q r' h0
        injection h0 with h1 h2
        subst h1 h2
        cases hk : decide (k = k') with
        | false => rw [hk] at hp; cases hp
        | true =>
          rw [hk] at hp
          have hkk : k = k' := of_decide_eq_true hk
          subst hkk
          obtain ⟨z, h3, h4⟩ := mxI_sound h hg hp hx.2
          have hx1 := vis_v (ev_sound h hx.1)
          exact ⟨z, h3, fun w' => by simp [hx1, hg, h4]⟩
      · cases hp
theorem call_len_sound (hT : TabOk P T) (h : Rel0 X0 gs w0 m s a w) {o : Oper} {c : Call} {K : AV → Option ρ} (ho : o.op = .call c) (hp : pureOp T s (.call c) K = some r) :
    PureOk P (XS X0 m) w m a o K r := by
  obtain ⟨callee, args, tys⟩ := c
  cases callee with
  | value f => simp [pureOp] at hp
  | invoke f n => simp [pureOp] at hp
  | builtin b =>
    cases b <;> try (simp [pureOp] at hp; done)
    case len =>
      simp only [pureOp] at hp
      split at hp
      · rename_i x ty ha hty
        split at hp
        · rename_i sz ag by_ ze e co q_ c xs ht hx
          obtain ⟨A, cap, hy, hR⟩ := vis_row (ev_sound h hx)
          obtain ⟨ti, d, z, h1, h2, h3, h4, h5, h6, h7⟩ := tyI_of hT ht
          have hd : d = .slice e := by
            cases d with
            | struct fs => simp only [kindD] at h7; split at h7 <;> cases h7
            | slice k2 => simp only [kindD] at h7; injection h7 with e; rw [e]
            | _ => simp [kindD] at h7
          subst hd
          have ea : args = #[x] := by
            obtain ⟨l⟩ := args; simpa using ha
          have et : tys = #[ty] := by
            obtain ⟨l⟩ := tys; simpa using hty
          subst ea et
          exact ⟨_, _, hp, .v _, fun w' _ => by simp [execOp, ho, resolve, invoke, builtin, Builtin.len_, run_underlying h2, hy, goInt]⟩
        · rename_i sz ag by_ ze e co q_ b ht hx
          split at hp
          · rename_i e0 c xs hb
            obtain ⟨l, hl⟩ := vis_own (ev_sound h hx)
            obtain ⟨y, hy0, hO⟩ := h.row hb
            rw [hl] at hy0
            injection hy0 with hy0
            injection hy0 with hy0 _
            obtain ⟨A, cap, hy, _⟩ := hO.len
            rw [← hy0] at hy
            obtain ⟨ti, d, z, h1, h2, h3, h4, h5, h6, h7⟩ := tyI_of hT ht
            have hd : d = .slice e := by
              cases d with
              | struct fs => simp only [kindD] at h7; split at h7 <;> cases h7
              | slice k2 => simp only [kindD] at h7; injection h7 with e; rw [e]
              | _ => simp [kindD] at h7
            subst hd
            have ea : args = #[x] := by
              obtain ⟨l⟩ := args; simpa using ha
            have et : tys = #[ty] := by
              obtain ⟨l⟩ := tys; simpa using hty
            subst ea et
            exact ⟨_, _, hp, .v _, fun w' _ => by simp [execOp, ho, resolve, invoke, builtin, Builtin.len_, run_underlying h2, hy, goInt]⟩
          · cases hp
        · cases hp
      · cases hp
    case max =>
      simp only [pureOp] at hp
      split at hp
      · rename_i k p l hl
        obtain ⟨x, xs, hxs, hx, hr⟩ := evs_at h hl
        obtain ⟨q, h3, h4⟩ := mxI_sound (P := P) (f := maxI) (g := Builtin.max2) h (fun k p q w' => by
          unfold maxI Builtin.max2
          by_cases e : q > p <;> simp [e, show decide (p < q) = decide (q > p) from rfl]) hp hr
        refine ⟨_, _, h3, .v _, fun w' _ => ?_⟩
        have : (args.map a.eval).toList = .int k p :: xs.map a.eval := by rw [Array.toList_map, hxs, List.map_cons, hx]
        simp [execOp, ho, resolve, invoke, builtin, Builtin.max_, hxs, hx, h4]
      · cases hp
    case min =>
      simp only [pureOp] at hp
      split at hp
      · rename_i k p l hl
        obtain ⟨x, xs, hxs, hx, hr⟩ := evs_at h hl
        obtain ⟨q, h3, h4⟩ := mxI_sound (P := P) (f := minI) (g := Builtin.min2) h (fun k p q w' => by
          unfold minI Builtin.min2
          by_cases e : q < p <;> simp [e]) hp hr
        refine ⟨_, _, h3, .v _, fun w' _ => ?_⟩
        simp [execOp, ho, resolve, invoke, builtin, Builtin.min_, hxs, hx, h4]
      · cases hp
theorem pureOp_sound (hT : TabOk P T) (h : Rel0 X0 gs w0 m s a w) {o : Oper} {K : AV → Option ρ} (hp : pureOp T s o.op K = some r) : PureOk P (XS X0 m) w m a o K r := by
  cases ho : o.op <;> rw [ho] at hp <;> try (simp [pureOp] at hp; done)
  case move x => exact move_sound h (.inl ho) hp
  case assign x => exact move_sound h (.inr ho) hp
  case pick => exact pick_sound h ho hp
  case build => exact build_sound hT h ho hp
  case load => exact load_sound hT h ho hp
  case nilCheck => exact nilCheck_sound h ho hp
  case binOp => exact binOp_sound hT h ho hp
  case unOp => exact unOp_sound h ho hp
  case convert => exact convert_sound hT h ho hp
  case fieldAddr => exact fieldAddr_sound hT h ho hp
  case field => exact field_sound hT h ho hp
  case indexAddr => exact indexAddr_sound hT h ho hp
  case index => exact index_sound hT h ho hp
  case extract => exact extract_sound h ho hp
  case call => exact call_len_sound hT h ho hp
end
end Go.Proofs.Ytneceomekgophaa.Ev
