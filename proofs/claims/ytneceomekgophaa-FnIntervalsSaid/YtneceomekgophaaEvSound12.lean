import Derived.Test.YtneceomekgophaaEvSound11
set_option linter.unusedVariables false
set_option linter.unusedSimpArgs false
namespace Go.Proofs.Ytneceomekgophaa.Ev
open Go Go.RowKit Go.Proofs Go.Proofs.YtneceomekgophaaW.PrintWords Go.Proofs.YtneceomekgophaaW.PrintLast
section
variable {P : Program} {T : List (Nat × TyI)} {w : World} {ρ : Type} {r : ρ}
theorem start_tmps {X : Nat → Prop} {m : Nm} : ∀ {xs : List Arg} {vals : List Value} {gs : List Nat} {n : Nat}, ArgsOk X w xs vals gs → (∀ i g, gs[i]? = some g → m (n + i) = some (.blk g)) →
    (startT n xs).length = vals.length ∧ ∀ i x, at_ (startT n xs) i = some x → ∃ y, vals[i]? = some y ∧ Vis X w m x y
  | [], [], [], n, h, hm => ⟨rfl, fun i x hx => by simp [startT, at_] at hx⟩
  | [], [], _ :: _, n, h, hm => by simp [ArgsOk] at h
  | [], _ :: _, _, n, h, hm => by simp [ArgsOk] at h
  | .val x :: xs, [], gs, n, h, hm => by simp [ArgsOk] at h
  | .blk cs :: xs, [], gs, n, h, hm => by simp [ArgsOk] at h
  | .blk cs :: xs, _ :: _, [], n, h, hm => by simp [ArgsOk] at h
  | .val x :: xs, y :: vals, gs, n, h, hm => by
    obtain ⟨⟨h1, h2⟩, h3⟩ := h
    obtain ⟨q1, q2⟩ := start_tmps (n := n) h3 hm
    refine ⟨by simp [startT, q1], fun i z hz => ?_⟩
    cases i with
    | zero => simp only [startT, at_, Option.some.injEq] at hz; subst hz; exact ⟨y, rfl, h2.name⟩
    | succ i => obtain ⟨y', e1, e2⟩ := q2 i z (by simpa [startT, at_] using hz); exact ⟨y', by simpa using e1, e2⟩
  | .blk cs :: xs, y :: vals, g :: gs, n, h, hm => by
    obtain ⟨⟨h1, h2, h4, h5⟩, h3⟩ := h
    obtain ⟨q1, q2⟩ := start_tmps (n := n + 1) h3 (fun i g' hg => by have := hm (i + 1) g' (by simpa using hg); rwa [show n + 1 + i = n + (i + 1) by omega])
    refine ⟨by simp [startT, q1], fun i z hz => ?_⟩
    cases i with
    | zero => simp only [startT, at_, Option.some.injEq] at hz; subst hz; exact ⟨y, rfl, by rw [h1]; exact .ptr 0 (hm 0 g rfl)⟩
    | succ i => obtain ⟨y', e1, e2⟩ := q2 i z (by simpa [startT, at_] using hz); exact ⟨y', by simpa using e1, e2⟩
theorem start_blks {X : Nat → Prop} {m : Nm} : ∀ {xs : List Arg} {vals : List Value} {gs : List Nat} {n : Nat}, ArgsOk X w xs vals gs → (∀ i g, gs[i]? = some g → m (n + i) = some (.blk g)) →
    (startB n xs).length = gs.length ∧ (∀ g ∈ gs, X g) ∧ (∀ p ∈ startB n xs, n ≤ p.1) ∧ ((startB n xs).map (·.1)).Nodup ∧ ∀ b cs t, (b, cs, t) ∈ startB n xs → ∃ g ys t', m b = some (.blk g) ∧ w.heap[g]? = some (.cells ys t' (0, 0)) ∧ VisL X w m cs ys.toList
  | [], [], [], n, h, hm => ⟨rfl, by simp, by simp [startB], by simp [startB], by simp [startB]⟩
  | [], [], _ :: _, n, h, hm => by simp [ArgsOk] at h
  | [], _ :: _, _, n, h, hm => by simp [ArgsOk] at h
  | .val x :: xs, [], gs, n, h, hm => by simp [ArgsOk] at h
  | .blk cs :: xs, [], gs, n, h, hm => by simp [ArgsOk] at h
  | .blk cs :: xs, _ :: _, [], n, h, hm => by simp [ArgsOk] at h
  | .val x :: xs, y :: vals, gs, n, h, hm => by simpa only [startB] using start_blks (xs := xs) (n := n) h.2 hm
  | .blk cs :: xs, y :: vals, g :: gs, n, h, hm => by
    obtain ⟨⟨h1, h2, h4, zs, t, h5, h6⟩, h3⟩ := h
    obtain ⟨q1, q2, q3, q4, q5⟩ := start_blks (n := n + 1) h3 (fun i g' hg => by have := hm (i + 1) g' (by simpa using hg); rwa [show n + 1 + i = n + (i + 1) by omega])
    refine ⟨by simp [startB, q1], fun g' hg => ?_, fun p hp => ?_, ?_, fun b cs' t' hb => ?_⟩
    · rcases List.mem_cons.1 hg with e | e
      · rw [e]; exact h2
      · exact q2 g' e
    · rcases List.mem_cons.1 hp with e | e
      · rw [e]; exact Nat.le_refl _
      · have := q3 p e; omega
    · simp only [startB, List.map_cons, List.nodup_cons]
      refine ⟨fun hmem => ?_, q4⟩
      obtain ⟨p, hp, e⟩ := List.mem_map.1 hmem
      have := q3 p hp
      omega
    · rcases List.mem_cons.1 hb with e | e
      · injection e with e1 e2
        injection e2 with e2 e3
        subst e1 e2
        exact ⟨g, zs, t, hm 0 g rfl, h5, h6.1, fun i x y u1 u2 => (h6.2 i x y u1 u2).name⟩
      · exact q5 b cs' t' e
theorem at_append : ∀ (l l' : List (Option AV)) (i : Nat), at_ (l ++ l') i = if i < l.length then at_ l i else at_ l' (i - l.length)
  | [], l', i => by simp
  | x :: l, l', 0 => by simp [at_]
  | x :: l, l', i + 1 => by
    simp only [List.cons_append, at_, List.length_cons]
    rw [at_append l l' i]
    by_cases h : i < l.length
    · simp [h]
    · simp [h, show i + 1 - (l.length + 1) = i - l.length by omega]
theorem at_repl : ∀ (n : Nat) (z : Option AV) (i : Nat) (x : AV), at_ (List.replicate n z) i = some x → z = some x ∧ i < n
  | 0, z, i, x, h => by simp [at_] at h
  | n + 1, z, 0, x, h => by simp only [List.replicate_succ, at_] at h; exact ⟨h, by omega⟩
  | n + 1, z, i + 1, x, h => by
    simp only [List.replicate_succ, at_] at h
    have := at_repl n z i x h
    exact ⟨this.1, by omega⟩
theorem start_rel {X : Nat → Prop} {xs : List Arg} {vals : List Value} {gs : List Nat} (h : ArgsOk X w xs vals gs) (hnd : gs.Nodup) (hX : ∀ k, X k → k < w.heap.size) (fn : Func) :
    Rel0 X gs w (fun b => (gs[b]?).map NV.blk) (start fn xs) { tmps := vals.toArray ++ Array.replicate (fn.ntmps - vals.toArray.size) undef, defers := [] } w := by
  have hm : ∀ i g, gs[i]? = some g → (fun b => (gs[b]?).map NV.blk) (0 + i) = some (.blk g) := fun i g hg => by simp [hg]
  have un : ∀ (b : Nat) (n : NV), (fun b : Nat => (gs[b]?).map NV.blk) b = some n → ∃ g : Nat, gs[b]? = some g ∧ n = .blk g := fun b n hb => by
    obtain ⟨g, h1, h2⟩ := Option.map_eq_some_iff.1 hb
    exact ⟨g, h1, h2.symm⟩
  obtain ⟨t1, t2⟩ := start_tmps (n := 0) (m := fun b => (gs[b]?).map NV.blk) h hm
  obtain ⟨b1, b2, b3, b4, b5⟩ := start_blks (n := 0) (m := fun b => (gs[b]?).map NV.blk) h hm
  have hXn : ∀ k, k < w.heap.size → XS X (fun b => (gs[b]?).map NV.blk) k → X k := fun k _ hk => by
    rcases hk with hk | ⟨b, n, hb, hn⟩
    · exact hk
    · obtain ⟨g, h1, rfl⟩ := un b n hb
      simp only [NV.holds] at hn
      subst hn
      exact b2 g (List.mem_of_getElem? h1)
  have mv : ∀ {x : AV} {y : Value}, Vis X w (fun b => (gs[b]?).map NV.blk) x y → Vis (XS X (fun b => (gs[b]?).map NV.blk)) w (fun b => (gs[b]?).map NV.blk) x y := fun hv => hv.move' (fun _ _ _ => rfl) hXn (Nat.le_refl _) (NLe.refl _)
  have hlx : xs.length = vals.length := by
    have : ∀ (xs : List Arg) n, (startT n xs).length = xs.length := by
      intro xs
      induction xs with
      | nil => intro n; rfl
      | cons x xs ih => intro n; cases x <;> simp [startT, ih]
    rw [← t1, this]
  refine ⟨rfl, ?_, fun i x hi => ?_, fun b cs t hb => ?_, fun b b' n n' g hb hb' hn hn' => ?_, fun b n hb => ?_, Upd.refl _ _, hX, b4, fun p hp => ?_, fun b n g' h1 h2 => by simpa [h2] using h1.symm, by simp only [start, b1], Nat.le_refl _⟩
  · simp only [start, Array.size_append, List.size_toArray, Array.size_replicate, List.length_append, List.length_replicate, t1, hlx]
  · simp only [start] at hi
    rw [at_append, t1] at hi
    by_cases e : i < vals.length
    · rw [if_pos e] at hi
      obtain ⟨y, q1, q2⟩ := t2 i x hi
      exact ⟨y, by simp [Array.getElem?_append, e]; simpa [e] using q1, mv q2⟩
    · rw [if_neg e] at hi
      obtain ⟨q1, q2⟩ := at_repl _ _ _ _ hi
      simp only [Option.some.injEq] at q1
      subst q1
      rw [hlx] at q2
      exact ⟨undef, by simp [Array.getElem?_append, e, Array.getElem?_replicate, q2], .v _⟩
  · obtain ⟨g, ys, t', q1, q2, q3⟩ := b5 b cs t (mem_look hb)
    exact .inr (.inr ⟨g, ys, t', q1, q2, q3.1, fun i x y e1 e2 => mv (q3.2 i x y e1 e2)⟩)
  · obtain ⟨g1, h1, rfl⟩ := un b n hb
    obtain ⟨g2, h2, rfl⟩ := un b' n' hb'
    simp only [NV.holds] at hn hn'
    subst hn hn'
    exact (List.getElem?_inj (List.getElem?_eq_some_iff.1 h1).1 hnd).1 (h1.trans h2.symm)
  · obtain ⟨g1, h1, rfl⟩ := un b n hb
    have e1 := List.mem_of_getElem? h1
    refine ⟨by simp only [start, b1]; exact (List.getElem?_eq_some_iff.1 h1).1, fun k hk => ?_⟩
    simp only [NV.holds] at hk
    subst hk
    exact ⟨hX _ (b2 _ e1), .inl e1⟩
  · obtain ⟨p0, p1, p2⟩ := p
    obtain ⟨g, ys, t', q1, _⟩ := b5 p0 p1 p2 hp
    obtain ⟨g', h1, _⟩ := un p0 _ q1
    simp only [start, b1]
    exact (List.getElem?_eq_some_iff.1 h1).1
def resF (tmps : Array Value) : ResultVar → Sem Value
  | .tmp t => pure (tmps.getD t undef)
  | .cell c t => do loadVar t (← asAddr (tmps.getD c undef))
theorem results_sound (hT : TabOk P T) {X0 : Nat → Prop} {gs : List Nat} {w0 : World} {m : Nm} {s : St} {a : Act} (h : Rel0 X0 gs w0 m s a w) : ∀ {l : List ResultVar} {xs : List AV}, resultsOf T s l = some xs →
    ∃ ys : List Value, (l.mapM (resF a.tmps)).run P w = .ok ys w ∧ VisL X0 w m xs ys
  | [], xs, hp => by
    simp only [resultsOf, Option.some.injEq] at hp
    subst hp
    exact ⟨[], by simp, rfl, fun i x y h1 h2 => by simp at h1⟩
  | .tmp t :: l, xs, hp => by
    simp only [resultsOf] at hp
    split at hp
    · rename_i b xs' hx hr
      split at hp
      · rename_i e c zs ho
        simp only [Option.some.injEq] at hp
        subst hp
        obtain ⟨ys, h1, h2⟩ := results_sound hT h hr
        obtain ⟨y, q1, q2⟩ := h.tmps t _ hx
        obtain ⟨l0, hl⟩ := vis_own q2
        obtain ⟨y', hy', hO⟩ := h.row ho
        rw [hl] at hy'
        injection hy' with hy'
        injection hy' with e1 e2
        subst e1
        refine ⟨y :: ys, by simp [List.mapM_cons, resF, h1, q1], by simp [h2.1], fun i u v e1 e2 => ?_⟩
        cases i with
        | zero =>
          simp at e1 e2
          subst e1 e2
          refine hO.row fun g hg hx0 => ?_
          have := (hO.at hg).1
          have := h.out g hx0
          omega
        | succ i => exact h2.2 i u v (by simpa using e1) (by simpa using e2)
      · cases hp
    · rename_i x xs' hno hx hr
      simp only [Option.some.injEq] at hp
      subst hp
      obtain ⟨ys, h1, h2⟩ := results_sound hT h hr
      obtain ⟨y, q1, q2⟩ := h.tmps t _ hx
      refine ⟨y :: ys, by simp [List.mapM_cons, resF, h1, q1], by simp [h2.1], fun i u v e1 e2 => ?_⟩
      cases i with
      | zero => simp at e1 e2; subst e1 e2; exact q2.move' (fun _ _ _ => rfl) (fun _ _ h => .inl h) (Nat.le_refl _) (NLe.refl m)
      | succ i => exact h2.2 i u v (by simpa using e1) (by simpa using e2)
    · cases hp
  | .cell c t :: l, xs, hp => by
    simp only [resultsOf] at hp
    split at hp
    · rename_i b o i xs' hx ht hr
      split at hp
      · rename_i cs t' hb
        split at hp
        · rename_i x hpt
          simp only [Option.some.injEq] at hp
          subst hp
          obtain ⟨ys, h1, h2⟩ := results_sound hT h hr
          obtain ⟨yp, q1, q2⟩ := h.tmps c _ hx
          obtain ⟨g', hg, hy⟩ := vis_ptr q2
          obtain ⟨g, zs, t'', hg2, hh, hv⟩ := h.var hb
          have : g = g' := by rw [hg] at hg2; injection hg2 with e; injection e with e; exact e.symm
          subst this
          obtain ⟨y, hvy, hrun⟩ := load_run hT ht hv hpt (ad := ⟨g, o, none⟩)
          have hl := hrun w (cells_at g o hh)
          simp only [Instr.loadAt, Instr.sureAddr, Sem.run_bind, Sem.run_pure, Result.andThen_ok] at hl
          refine ⟨y :: ys, by simp [List.mapM_cons, resF, h1, q1, hy, asAddr, hl], by simp [h2.1], fun i u v e1 e2 => ?_⟩
          cases i with
          | zero => simp at e1 e2; subst e1 e2; exact hvy.move' (fun _ _ _ => rfl) (fun _ _ h => .inl h) (Nat.le_refl _) (NLe.refl m)
          | succ i => exact h2.2 i u v (by simpa using e1) (by simpa using e2)
        · cases hp
      · cases hp
    · cases hp
theorem outs_sound {X0 : Nat → Prop} {gs : List Nat} {w0 : World} {m : Nm} {s : St} {a : Act} (h : Rel0 X0 gs w0 m s a w) (gs' : List Nat) (hm : ∀ b n g', m b = some n → gs'[b]? = some g' → n = .blk g') : ∀ (n i : Nat) (outs : List (List AV)), outsFrom s.blks n i = some outs → i + n = gs'.length → OutsOk X0 w outs (gs'.drop i)
  | 0, i, outs, ho, hn => by
    simp only [outsFrom, Option.some.injEq] at ho
    subst ho
    rw [List.drop_of_length_le (by omega)]
    trivial
  | n + 1, i, outs, ho, hn => by
    simp only [outsFrom] at ho
    split at ho
    · rename_i cs t r hl hr
      cases hc : cs.all (AV.b1 0) with
      | false => rw [hc] at ho; cases ho
      | true =>
        rw [hc] at ho
        simp only [cond_true, Option.some.injEq] at ho
        subst ho
        have hi : i < gs'.length := by omega
        rw [List.drop_eq_getElem_cons hi]
        obtain ⟨g, ys, t', q1, q2, q3⟩ := h.var hl
        have : g = gs'[i] := by have := hm i _ _ q1 (List.getElem?_eq_getElem hi); injection this
        refine ⟨⟨hc, ys, t', by rw [← this]; exact q2, ?_⟩, outs_sound h gs' hm n (i + 1) r hr (by omega)⟩
        have hv : VisL X0 w m cs ys.toList := ⟨q3.1, fun i x y e1 e2 => (q3.2 i x y e1 e2).move' (fun _ _ _ => rfl) (fun _ _ h => .inl h) (Nat.le_refl _) (NLe.refl m)⟩
        exact hv.bare hc
    · cases ho
theorem results_run (fn : Func) (tmps : Array Value) (w : World) (ys : List Value) (h : (fn.results.toList.mapM (resF tmps)).run P w = .ok ys w) :
    (results fn tmps).run P w = .ok (if h : ys.toArray.size = 1 then ys.toArray[0] else .tuple ys.toArray) w := by
  have e : results fn tmps = (do let vs ← fn.results.mapM (resF tmps); pure (if h : vs.size = 1 then vs[0] else .tuple vs)) := by
    unfold results resF
    congr 2
  rw [e, Array.mapM_eq_mapM_toList]
  simp only [Sem.run_bind, Sem.run_map, h, Result.andThen_ok, Sem.run_pure]
theorem end_sound (hT : TabOk P T) {X0 : Nat → Prop} {gs : List Nat} {w0 : World} {s : St} {a : Act} {fn : Func} {np : Nat} (hnp : np = gs.length) {K : AV → List (List AV) → Option ρ}
    {m : Nm} (h : Rel0 X0 gs w0 m s a w) {e : Out} (hp : endOf T fn np K e s = some r) :
    (∀ i, e ≠ .exit i) ∧ a.defers = [] ∧ ∃ v ret outs, (results fn a.tmps).run P w = .ok v w ∧ K ret outs = some r ∧ Vis X0 w Nm.none ret v ∧ Upd gs w0 w ∧ OutsOk X0 w outs gs := by
  have main : (match resultsOf T s fn.results.toList, outsFrom s.blks np 0 with
    | some xs, some outs => cond ((one_ xs).bound 0) (K (one_ xs) outs) none
    | _, _ => none) = some r → ∃ v ret outs, (results fn a.tmps).run P w = .ok v w ∧ K ret outs = some r ∧ Vis X0 w Nm.none ret v ∧ Upd gs w0 w ∧ OutsOk X0 w outs gs := fun hp => by
    split at hp
    · rename_i xs outs hx ho
      cases hb : (one_ xs).bound 0 with
      | false => rw [hb] at hp; cases hp
      | true =>
        rw [hb] at hp
        simp only [cond_true] at hp
        obtain ⟨ys, h1, h2⟩ := results_sound hT h hx
        have hrun := results_run fn a.tmps w ys h1
        have hvis : Vis X0 w m (one_ xs) (if h : ys.toArray.size = 1 then ys.toArray[0] else .tuple ys.toArray) := by
          cases xs with
          | nil =>
            have : ys = [] := List.eq_nil_of_length_eq_zero h2.1.symm
            subst this
            exact .tup h2.1 h2.2
          | cons x xs =>
            cases xs with
            | nil =>
              cases ys with
              | nil => have := h2.1; simp at this
              | cons y ys =>
                cases ys with
                | nil => exact h2.2 0 x y rfl rfl
                | cons y' ys => have := h2.1; simp at this
            | cons x' xs =>
              have hne : ¬ ys.toArray.size = 1 := by have := h2.1; simp at this ⊢; omega
              rw [dif_neg hne]
              exact .tup h2.1 h2.2
        refine ⟨_, _, _, hrun, hp, ?_, h.world, ?_⟩
        · exact hvis.bare hb
        · have := outs_sound h gs h.par np 0 outs ho (by omega)
          simpa using this
    · cases hp
  cases e with
  | exit i => simp [endOf] at hp
  | normal => exact ⟨fun i => by simp, h.defers, main hp⟩
  | ret => exact ⟨fun i => by simp, h.defers, main hp⟩
end
end Go.Proofs.Ytneceomekgophaa.Ev
