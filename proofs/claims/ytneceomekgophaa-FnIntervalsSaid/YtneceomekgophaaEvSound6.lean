import Derived.Test.YtneceomekgophaaEvSound5
set_option linter.unusedVariables false
set_option linter.unusedSimpArgs false
namespace Go.Proofs.Ytneceomekgophaa.Ev
open Go Go.RowKit Go.Proofs Go.Proofs.YtneceomekgophaaW.PrintWords Go.Proofs.YtneceomekgophaaW.PrintLast
section
variable {P : Program} {T : List (Nat × TyI)} {X0 : Nat → Prop} {gs : List Nat} {w0 w : World} {m : Nm} {s : St} {a : Act} {ρ : Type} {r : ρ}
theorem decRow_sound (h : Rel0 X0 gs w0 m s a w) {c : RKc} (hn : c.noList = true) {sz : Nat} {F : Nat → Prop} {w' : World} : ∀ {parts : List (Nat × Operand)} {i : Nat} {xs : List c.T}, decRow s c sz i parts = some xs →
    xs.length = parts.length ∧ ∀ (k : Nat) (p : Nat × Operand), parts[k]? = some p → p.1 = i + k ∧ (a.eval p.2).cells.size = sz ∧ (∀ u ∈ (a.eval p.2).cells.toList, u.oneCell' = true) ∧ ∀ z, xs[k]? = some z → Foot c F w' z (a.eval p.2).cells.toList
  | [], i, xs, hd => by
    simp only [decRow, Option.some.injEq] at hd
    subst hd
    exact ⟨rfl, fun k p hk => by simp at hk⟩
  | (j, x) :: rest, i, xs, hd => by
    simp only [decRow] at hd
    split at hd
    · rename_i y hx
      split at hd
      · rename_i z zs hz hzs
        cases hc : (Nat.beq i j && Nat.beq y.flat.length sz && y.flat.all AV.one) with
        | false => rw [hc] at hd; cases hd
        | true =>
          rw [hc] at hd
          simp only [cond_true, Option.some.injEq] at hd
          subst hd
          simp only [Bool.and_eq_true] at hc
          obtain ⟨⟨c1, c2⟩, c3⟩ := hc
          obtain ⟨hl, hr⟩ := decRow_sound h hn (F := F) (w' := w') hzs
          have hv := flat_vis (ev_sound h hx) c3
          obtain ⟨cs, ys', e, f, v⟩ := dec_foot (F := F) (w' := w') hn hz hv
          have : ys' = [] := List.eq_nil_of_length_eq_zero v.1.symm
          subst this
          refine ⟨by simp [hl], fun k p hk => ?_⟩
          cases k with
          | zero =>
            simp only [List.getElem?_cons_zero, Option.some.injEq] at hk
            subst hk
            refine ⟨by rw [← Nat.eq_of_beq_eq_true c1]; rfl, ?_, one_of hv c3, fun z' hz' => ?_⟩
            · have := hv.1; rw [Nat.eq_of_beq_eq_true c2] at this; simpa using this.symm
            · simp only [List.getElem?_cons_zero, Option.some.injEq] at hz'
              subst hz'
              rw [e, List.append_nil]
              exact f
          | succ k =>
            obtain ⟨q1, q2⟩ := hr k p (by simpa using hk)
            exact ⟨by omega, q2.1, q2.2.1, fun z' hz' => q2.2.2 z' (by simpa using hz')⟩
      · cases hd
    · cases hd
theorem fill_seq (sz : Nat) : ∀ (parts : List (Nat × Value)) (i : Nat) (ys : List Value), (∀ (k : Nat) (p : Nat × Value), parts[k]? = some p → p.1 = i + k ∧ p.2.cells.size = sz) → (i + parts.length) * sz ≤ ys.length →
    Instr.fill (fun i => some (i * sz, sz)) ys.toArray parts = some (ys.take (i * sz) ++ (parts.map fun p => p.2.cells.toList).flatten ++ ys.drop ((i + parts.length) * sz)).toArray
  | [], i, ys, hp, hl => by simp [Instr.fill]
  | (j, v) :: rest, i, ys, hp, hl => by
    obtain ⟨e1, e2⟩ := hp 0 (j, v) rfl
    replace e2 : v.cells.size = sz := e2
    simp only [Nat.add_zero] at e1
    subst e1
    simp only [List.length_cons] at hl
    have m1 : (j + 1) * sz = j * sz + sz := by rw [Nat.add_mul, Nat.one_mul]
    have m2 : (j + (rest.length + 1)) * sz = j * sz + sz + rest.length * sz := by rw [← Nat.add_assoc, Nat.add_right_comm, Nat.add_mul, m1]
    have m3 : (j + 1 + rest.length) * sz = j * sz + sz + rest.length * sz := by rw [Nat.add_mul, m1]
    rw [m2] at hl
    have ih := fill_seq sz rest (j + 1) (ys.take (j * sz) ++ v.cells.toList ++ ys.drop (j * sz + sz)) (fun k p hk => by
      obtain ⟨q1, q2⟩ := hp (k + 1) p (by simpa using hk)
      exact ⟨by omega, q2⟩) (by
        rw [m3]
        simp only [List.length_append, List.length_take, List.length_drop, Array.length_toList, e2]
        omega)
    rw [m1, m3] at ih
    simp only [Instr.fill, e2, ne_eq, not_true_eq_false, false_or]
    rw [if_neg (by simp; omega)]
    rw [List.length_cons, m2, List.map_cons, List.flatten_cons]
    generalize j * sz = A at *
    generalize rest.length * sz = B at *
    have hf := fold_set A v.cells.toList 0 ys.toArray (by simp only [List.size_toArray, Array.length_toList, e2]; omega)
    simp only [Nat.add_zero, Array.length_toList, e2] at hf
    have hf2 : (v.cells.zipIdx.foldl (fun cs (c, k) => cs.setIfInBounds (A + k) c) ys.toArray) = (ys.take A ++ v.cells.toList ++ ys.drop (A + sz)).toArray := by
      rw [← Array.foldl_toList, Array.toList_zipIdx, hf]
    rw [hf2, ih]
    congr 2
    have hlen : (ys.take A ++ v.cells.toList).length = A + sz := by simp only [List.length_append, List.length_take, Array.length_toList, e2]; omega
    have htk : (ys.take A ++ v.cells.toList ++ ys.drop (A + sz)).take (A + sz) = ys.take A ++ v.cells.toList := by
      rw [← hlen, List.take_left]
    have hd0 : (ys.take A ++ v.cells.toList ++ ys.drop (A + sz)).drop (A + sz) = ys.drop (A + sz) := List.drop_left' hlen
    have hdk : (ys.take A ++ v.cells.toList ++ ys.drop (A + sz)).drop (A + sz + B) = ys.drop (A + sz + B) := by
      have f1 : ∀ X : List Value, X.drop (A + sz + B) = (X.drop (A + sz)).drop B := fun X => by rw [List.drop_drop]
      rw [f1, f1, hd0]
    rw [htk, hdk]
    simp only [List.append_assoc]
theorem flat_at {sz : Nat} : ∀ (qs : List (List Value)) (k j : Nat) (q : List Value) (u : Value), (∀ q ∈ qs, q.length = sz) → qs[k]? = some q → q[j]? = some u → qs.flatten[k * sz + j]? = some u
  | [], k, j, q, u, hq, hk, hj => by simp at hk
  | q0 :: qs, k, j, q, u, hq, hk, hj => by
    have h0 := hq q0 List.mem_cons_self
    cases k with
    | zero =>
      simp only [List.getElem?_cons_zero, Option.some.injEq] at hk
      subst hk
      rw [List.flatten_cons, Nat.zero_mul, Nat.zero_add, List.getElem?_append_left (List.getElem?_eq_some_iff.1 hj).1]
      exact hj
    | succ k =>
      rw [List.flatten_cons, List.getElem?_append_right (by rw [h0, Nat.add_mul]; omega), h0, Nat.add_mul, show k * sz + 1 * sz + j - sz = k * sz + j by omega]
      exact flat_at qs k j q u (fun q hm => hq q (List.mem_cons_of_mem _ hm)) (by simpa using hk) hj
theorem flat_len {sz : Nat} : ∀ (qs : List (List Value)), (∀ q ∈ qs, q.length = sz) → qs.flatten.length = qs.length * sz
  | [], _ => by simp
  | q :: qs, h => by
    rw [List.flatten_cons, List.length_append, h q List.mem_cons_self, flat_len qs fun q hq => h q (List.mem_cons_of_mem _ hq), List.length_cons, Nat.add_mul, Nat.one_mul, Nat.add_comm]
theorem flat_part {sz : Nat} {qs : List (List Value)} (h : ∀ q ∈ qs, q.length = sz) {k : Nat} {q : List Value} (hk : qs[k]? = some q) : (qs.flatten.drop (k * sz)).take sz = q := by
  have hq := h q (List.mem_of_getElem? hk)
  apply List.ext_getElem?
  intro j
  rw [List.getElem?_take, List.getElem?_drop]
  split
  · rename_i hj
    rw [← hq] at hj
    rw [List.getElem?_eq_getElem hj]
    exact flat_at qs k j q _ h hk (List.getElem?_eq_getElem hj)
  · rename_i hj
    rw [List.getElem?_eq_none]
    omega
theorem Reps.app {α : Type} {R : α → List Value → Prop} {sz : Nat} {xs ys : List α} {A B : List Value} (h : Reps R sz xs A) (k : Reps R sz ys B) : Reps R sz (xs ++ ys) (A ++ B) := by
  refine ⟨by rw [List.length_append, h.1, k.1, List.length_append, Nat.add_mul], fun j p hj => ?_⟩
  rcases Nat.lt_or_ge j xs.length with hlt | hge
  · rw [List.getElem?_append_left hlt] at hj
    have hle : (j + 1) * sz ≤ A.length := by rw [h.1]; exact Nat.mul_le_mul_right _ hlt
    rw [Nat.add_mul, Nat.one_mul] at hle
    rw [List.drop_append_of_le_length (by omega), List.take_append_of_le_length (by rw [List.length_drop]; omega)]
    exact h.2 j p hj
  · rw [List.getElem?_append_right hge] at hj
    have hA : A.length ≤ j * sz := by rw [h.1]; exact Nat.mul_le_mul_right _ hge
    rw [List.drop_append, List.drop_of_length_le hA, List.nil_append, h.1, ← Nat.sub_mul]
    exact k.2 _ p hj
theorem slice_op {nb : Nat} (hfree : m nb = none) (hin : ∀ p ∈ s.blks, p.1 ≠ nb) (hgs : gs.length ≤ nb) (hT : TabOk P T) (h : Rel0 X0 gs w0 m s a w) {o : Oper} {t len e : Nat} {parts : Array (Nat × Operand)} {ty te0 : TyI} {c : RKc} {xs : List c.T}
    (ho : o.op = .buildSlice t len parts) (ht : look T t = some ty) (hk : ty.kind = .slice e) (hte : look T e = some te0) (hcd : te0.code = some c) (hd : decRow s c te0.size 0 parts.toList = some xs)
    (hc : (Nat.beq len parts.toList.length && Nat.blt 0 len && Nat.ble (len * te0.size) 1000 && Nat.beq te0.size c.sz && c.noList) = true) :
    OpWp P X0 gs w0 w m a o nb ({ s with blks := (nb, [.orow e c xs], 0) :: s.blks, next := max s.next (nb + 1) }.put o.dst (.own nb)) := by
  obtain ⟨sz, ag, by_, ze, ki, co⟩ := te0
  simp only at hd hc hcd
  simp only [Bool.and_eq_true] at hc
  obtain ⟨⟨⟨⟨c1, c2⟩, c3⟩, c4⟩, c5⟩ := hc
  have d1 := Nat.eq_of_beq_eq_true c1
  have d2 : 0 < len := Nat.lt_of_lt_of_le Nat.zero_lt_one (by simpa [Nat.blt] using c2)
  have d3 := Nat.le_of_ble_eq_true c3
  have d4 := Nat.eq_of_beq_eq_true c4
  obtain ⟨ti, d, z, h1, h2, h3, h4, h5, h6, h7⟩ := tyI_of hT ht
  have hd' : d = .slice e := by
    rw [hk] at h7
    cases d with
    | struct fs => simp only [kindD] at h7; split at h7 <;> cases h7
    | slice k2 => simp only [kindD] at h7; injection h7 with e; rw [e]
    | _ => simp [kindD] at h7
  subst hd'
  obtain ⟨te, de, ze', g1, g2, g3, g4, g5, g6, g7⟩ := tyI_of hT hte
  simp only at g4
  have hszp : 0 < sz := by rw [d4]; exact Foot.sz_pos c
  obtain ⟨hl, hr⟩ := decRow_sound h c5 (F := fun _ => False) (w' := w) hd
  have hpl : (parts.map fun (i, x) => (i, a.eval x)).toList = parts.toList.map fun p => (p.1, a.eval p.2) := by simp
  obtain ⟨zl, hzl⟩ : ∃ zl : List Value, ((Array.range (len * te.size)).map (ze'.cells[· % ze'.cells.size]!)) = zl.toArray := ⟨_, (Array.toArray_toList).symm⟩
  have hzlen : zl.length = len * te.size := by
    have := congrArg Array.size hzl
    simpa using this.symm
  have hfs := fill_seq te.size (parts.toList.map fun p => (p.1, a.eval p.2)) 0 zl (fun k p hk => by
    rw [List.getElem?_map] at hk
    cases hq : parts.toList[k]? with
    | none => rw [hq] at hk; cases hk
    | some q =>
      rw [hq] at hk
      simp only [Option.map_some, Option.some.injEq] at hk
      subst hk
      obtain ⟨q1, q2, _⟩ := hr k q hq
      exact ⟨q1, by rw [q2, g4]⟩) (by rw [hzlen, List.length_map, ← d1, Nat.zero_add]; exact Nat.le_refl _)
  simp only [Nat.zero_mul, List.take_zero, List.nil_append, Nat.zero_add, List.length_map, ← d1] at hfs
  rw [List.drop_of_length_le (by rw [hzlen]; exact Nat.le_refl _), List.append_nil, ← hzl, ← hpl] at hfs
  have hrun := run_buildSlice (P := P) w t e len (parts.map fun (i, x) => (i, a.eval x)) _ te ze' h2 g1 g3 (by rw [← g4]; omega) (by rw [← g4]; exact Nat.ne_of_gt (Nat.mul_pos d2 hszp)) hfs
  intro Next Q hn
  unfold Oper.wp
  have hrun2 : (execOp a.eval o).run P w = .ok (.value (.slice (some ⟨w.heap.size, 0, none⟩) len len)) (w.alloc (.cells ((parts.map fun (i, x) => (i, a.eval x)).toList.map fun p => p.2.cells.toList).flatten.toArray e)) := by
    simp only [execOp, ho, Sem.run_bind, hrun, Result.andThen_ok, Sem.run_pure]
  rw [hrun2]
  have hlx : xs.length = len := by rw [hl, ← d1]
  have hall : ∀ q ∈ (parts.map fun (i, x) => (i, a.eval x)).toList.map fun p => p.2.cells.toList, q.length = c.sz := fun q hq => by
    rw [hpl, List.map_map] at hq
    obtain ⟨pp, hp1, rfl⟩ := List.mem_map.1 hq
    obtain ⟨k, hk⟩ := List.getElem?_of_mem hp1
    obtain ⟨_, z2, _⟩ := hr k pp hk
    simp only [Function.comp, Array.length_toList]
    rw [z2, d4]
  have hlen : ((parts.map fun (i, x) => (i, a.eval x)).toList.map fun p => p.2.cells.toList).length = len := by rw [hpl]; simp [d1]
  have hfl := flat_len _ hall
  rw [hlen] at hfl
  refine hn _ _ _ name_none (Rel0.put (Rel0.name (nv := .row (.slice (some ⟨w.heap.size, 0, none⟩) len len) true) [] [] hfree hin hgs h (Upd.alloc w _) (fun g hg => by cases hg) (fun k hk => ?_) (fun m' hm hmn mv => ?_)) o.dst (.own (l := true) (by simp)))
  · obtain ⟨_, hk⟩ := hk
    simp only [Value.ownBlock, Option.some.injEq] at hk
    subst hk
    exact ⟨by simp, .inl (Nat.le_refl _)⟩
  · have hlen1 : len ≤ len * sz := Nat.le_mul_of_pos_right _ hszp
    refine .inr (.inl ⟨e, c, xs, _, rfl, hmn, c5, ((parts.map fun (i, x) => (i, a.eval x)).toList.map fun p => p.2.cells.toList).flatten, ⟨by rw [hfl, hlx], .inr ⟨w.heap.size, len, _, by rw [hlx], h.world.size, blk_new w _, by omega, by simp only [maxLen]; omega, by simpa using hfl, ?_⟩⟩, by omega, by rw [hfl, hlx], fun j p hj => ?_⟩)
    · show List.take (xs.length * c.sz) (List.flatten _) = _
      exact List.take_of_length_le (by rw [hfl, hlx]; exact Nat.le_refl _)
    · have hjl : j < parts.toList.length := by rw [← d1, ← hlx]; exact (List.getElem?_eq_some_iff.1 hj).1
      obtain ⟨q1, q2, q3, q4⟩ := hr j _ (List.getElem?_eq_getElem hjl)
      rw [flat_part hall (q := (a.eval (parts.toList[j]).2).cells.toList) (by rw [hpl, List.map_map, List.getElem?_map, List.getElem?_eq_getElem hjl]; rfl)]
      exact dec_any c5 (q4 p hj)
theorem tyI_bytes (hT : TabOk P T) {t : Nat} {i : TyI} (h : look T t = some i) {ti : TypeInfo} (hi : P.info? t = some ti) : i.bytes = ti.bytes := by
  have hq := hT t i h
  obtain ⟨size, agg, bytes, zero, kind, code⟩ := i
  unfold tyOf at hq
  rw [hi] at hq
  cases h2 : P.underlying t with
  | none => simp [h2] at hq
  | some d =>
    cases h3 : ti.zero with
    | none => simp [h2, h3] at hq
    | some z =>
      simp only [h2, h3, Option.some.injEq, TyI.mk.injEq] at hq
      exact hq.2.2.1.symm
theorem Reps.one {F : Nat → Prop} {w : World} {c : RKc} {xs : List c.T} {A : List Value} (h : Reps (Foot c F w) c.sz xs A) : ∀ u ∈ A, u.oneCell' = true := by
  intro u hu
  obtain ⟨k, hk⟩ := List.getElem?_of_mem hu
  have hkl := (List.getElem?_eq_some_iff.1 hk).1
  have hsz := Foot.sz_pos c
  have hj : k / c.sz < xs.length := by rw [Nat.div_lt_iff_lt_mul hsz, ← h.1]; exact hkl
  have hf := h.2 _ _ (List.getElem?_eq_getElem hj)
  refine hf.one u (List.mem_of_getElem? (i := k % c.sz) ?_)
  rw [List.getElem?_take, if_pos (Nat.mod_lt _ hsz), List.getElem?_drop, show k / c.sz * c.sz + k % c.sz = k by rw [Nat.mul_comm]; exact Nat.div_add_mod k c.sz]
  exact hk
theorem append_op {nb : Nat} (hfree : m nb = none) (hin : ∀ p ∈ s.blks, p.1 ≠ nb) (hgs : gs.length ≤ nb) (hT : TabOk P T) (h : Rel0 X0 gs w0 m s a w) {o : Oper} {t e e1 b b' : Nat} {x y : Operand} {ty ie : TyI} {c : RKc} {xs ys : List c.T}
    (ho : o.op = .call { callee := .builtin .append, args := #[x, y], argTypes := #[t, t] }) (hx : s.ev x = some (.own b)) (hy : s.ev y = some (.own b')) (ht : look T t = some ty) (hk : ty.kind = .slice e) (hie : look T e = some ie)
    (hb : orow s.blks b = some (e, ⟨c, xs⟩)) (hb' : orow s.blks b' = some (e1, ⟨c, ys⟩)) (hys : 0 < ys.length) (hsz : ie.size = c.sz) (hzs : ie.zero.length = c.sz) (hby : 0 < ie.bytes) (hroom : (xs ++ ys).length * ie.bytes ≤ 140737488355328) :
    OpWp P X0 gs w0 w m a o nb ({ s with blks := (nb, [.orow e c (xs ++ ys)], 0) :: setBlk s.blks b [], next := max s.next (nb + 1) }.put o.dst (.own nb)) := by
  obtain ⟨ti, d, z, h1, h2, h3, h4, h5, h6, h7⟩ := tyI_of hT ht
  have hd' : d = .slice e := by
    rw [hk] at h7
    cases d with
    | struct fs => simp only [kindD] at h7; split at h7 <;> cases h7
    | slice k2 => simp only [kindD] at h7; injection h7 with e; rw [e]
    | _ => simp [kindD] at h7
  subst hd'
  obtain ⟨te, de, ze', g1, g2, g3, g4, g5, g6, g7⟩ := tyI_of hT hie
  have g8 := tyI_bytes hT hie g1
  obtain ⟨l, hl⟩ := vis_own (ev_sound h hx)
  obtain ⟨v, hv0, hc, inner, hO, hlen, hR⟩ := h.row hb
  rw [hl] at hv0
  injection hv0 with hv0
  injection hv0 with hv1 hv2
  subst hv2
  obtain ⟨l', hl'⟩ := vis_own (ev_sound h hy)
  obtain ⟨v', hv0', _, inner', hO', hlen', hR'⟩ := h.row hb'
  rw [hl'] at hv0'
  injection hv0' with hv0'
  injection hv0' with hv1' hv2'
  rcases hO'.2 with ⟨_, q⟩ | ⟨g', cap', cur', q1, q2, q3, q4, q5, q6, q7⟩
  · omega
  have hzc : ze'.cells.size = c.sz := by rw [← hzs, g6]; simp
  obtain ⟨v1, w1, hrun, hown, hg, _, hat⟩ := run_append_own_at (P := P) w w0.heap.size t o.type e te ze' c.sz te.bytes h2 g1 g3 (by rw [← g4, hsz]) rfl hzc (Foot.sz_pos c) v xs.length inner hO ⟨g', 0, none⟩ ys.length cap' inner' hR'.1
    (fun j u hj => by
      refine World.news_of_block q3 j u ?_
      rw [← q7, List.getElem?_take] at hj
      split at hj
      · exact hj
      · cases hj) (Reps.one hR') (by rw [List.length_append] at hroom; have : xs.length + ys.length ≤ (xs.length + ys.length) * ie.bytes := Nat.le_mul_of_pos_right _ hby; simp only [maxLen]; omega)
    (by rw [← g8, ← List.length_append]; exact hroom) h.world.size
  have hev : a.eval x = v := hv1
  have hev' : a.eval y = .slice (some ⟨g', 0, none⟩) ys.length cap' := by rw [hv1', q1]
  intro Next Q hn
  unfold Oper.wp
  have hrun2 : (execOp a.eval o).run P w = .ok (.value v1) w1 := by
    simp only [execOp, ho, resolve, invoke, builtin, Sem.run_bind, Sem.run_pure, Result.andThen_ok, List.map_toArray, List.map_cons, List.map_nil, hev, hev', hrun]
  rw [hrun2]
  have hu : Upd (v.ownBlock.toList) w w1 := ⟨hg.os, hg.tape, hg.output, hg.size, fun k hk hne => hg.block k hk fun e => hne (by rw [← e]; simp)⟩
  refine hn _ _ _ name_none (Rel0.put (Rel0.name (nv := .row v1 true) [b] v.ownBlock.toList hfree hin hgs h hu (fun g hg => ⟨b, List.mem_cons_self, v, by rw [← hev]; exact hl, by simpa using hg⟩) (fun k hk => ?_) (fun m' hm hmn mv => ?_)) o.dst (.own (l := true) (by simp)))
  · obtain ⟨_, hk⟩ := hk
    have hO1 : OwnR w0.heap.size w1 e c (xs ++ ys) v1 := ⟨hc, inner ++ inner', by rw [List.length_append]; exact hown, by rw [List.length_append] at hroom ⊢; have : xs.length + ys.length ≤ (xs.length + ys.length) * ie.bytes := Nat.le_mul_of_pos_right _ hby; omega, ⟨(Reps.app hR hR').1, fun j p hj => dec_any hc ((Reps.app hR hR').2 j p hj)⟩⟩
    refine ⟨(hO1.at hk).2, ?_⟩
    rcases hat with h8 | h8
    · exact .inr ⟨b, List.mem_cons_self, v, by rw [← hev]; exact hl, by rw [← h8]; exact hk⟩
    · rw [h8] at hk
      injection hk with hk
      exact .inl (Nat.le_of_eq hk)
  · exact .inr (.inl ⟨e, c, _, v1, rfl, hmn, hc, inner ++ inner', by rw [List.length_append]; exact hown, by rw [List.length_append] at hroom ⊢; have : xs.length + ys.length ≤ (xs.length + ys.length) * ie.bytes := Nat.le_mul_of_pos_right _ hby; omega, ⟨(Reps.app hR hR').1, fun j p hj => dec_any hc ((Reps.app hR hR').2 j p hj)⟩⟩)
end
end Go.Proofs.Ytneceomekgophaa.Ev
