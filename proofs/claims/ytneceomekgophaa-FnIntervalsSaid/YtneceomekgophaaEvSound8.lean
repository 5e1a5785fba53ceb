import Derived.Test.YtneceomekgophaaEvSound7
set_option linter.unusedVariables false
set_option linter.unusedSimpArgs false
namespace Go.Proofs.Ytneceomekgophaa.Ev
open Go Go.RowKit Go.Proofs Go.Proofs.YtneceomekgophaaW.PrintWords Go.Proofs.YtneceomekgophaaW.PrintLast
section
variable {P : Program} {T : List (Nat × TyI)} {X0 : Nat → Prop} {gs : List Nat} {w0 w : World} {m : Nm} {s s' : St} {a : Act} {ρ : Type} {r : ρ} {C : List (Nat × CallW ρ)}
/-! ### States that agree -/
def Agree (ops : Array Oper) (o : Oper) (s s' : St) : Prop := ∀ t ∈ o.looksAt ops, at_ s.tmps t = at_ s'.tmps t
theorem Agree.ev {ops : Array Oper} {o : Oper} (h : Agree ops o s s') : ∀ x ∈ o.op.operands, s.ev x = s'.ev x := by
  intro x hx
  cases x with
  | tmp t =>
    refine h t ?_
    unfold Oper.looksAt
    exact List.mem_append_left _ (List.mem_filterMap.2 ⟨.tmp t, Array.mem_def.1 hx, rfl⟩)
  | _ => rfl
theorem ptrOf_congr {x : Operand} (h : s.ev x = s'.ev x) : ptrOf s x = ptrOf s' x := by unfold ptrOf; rw [h]
theorem call_args {c : Call} {x : Operand} (hx : x ∈ c.args.toList) : x ∈ (Op.call c).operands := by
  simp only [Op.operands, Call.operands]
  exact Array.mem_append.2 (.inr (Array.mem_def.2 hx))
theorem wrOf_congr : ∀ {l : List Operand} {ts : List Nat}, (∀ x ∈ l, s.ev x = s'.ev x) → wrOf T s l ts = wrOf T s' l ts
  | [], _, _ => rfl
  | x :: r, ts, h => by
    unfold wrOf
    rw [ptrOf_congr (h x List.mem_cons_self), wrOf_congr fun y hy => h y (List.mem_cons_of_mem _ hy)]
theorem wrOf_ptrs : ∀ {l : List Operand} {ts : List Nat}, ∀ b ∈ wrOf T s l ts, b ∈ l.flatMap (ptrOf s)
  | [], _, b, hb => by cases hb
  | x :: r, ts, b, hb => by
    unfold wrOf at hb
    rw [List.flatMap_cons]
    rcases List.mem_append.1 hb with hb | hb
    · split at hb
      · cases hb
      · exact List.mem_append_left _ hb
    · exact List.mem_append_right _ (wrOf_ptrs b hb)
theorem touch_congr {o : Op} (hev : ∀ x ∈ o.operands, s.ev x = s'.ev x) : touch s o = touch s' o ∧ writes T s o = writes T s' o := by
  cases o with
  | load t x => exact ⟨ptrOf_congr (hev x (by simp [Op.operands])), rfl⟩
  | store t x y => exact ⟨ptrOf_congr (hev x (by simp [Op.operands])), ptrOf_congr (hev x (by simp [Op.operands]))⟩
  | call c =>
    have this : c.args.toList.flatMap (ptrOf s) = c.args.toList.flatMap (ptrOf s') := by
      have hm : c.args.toList.map (ptrOf s) = c.args.toList.map (ptrOf s') := List.map_congr_left fun x hx => ptrOf_congr (hev x (call_args hx))
      rw [List.flatMap_def, List.flatMap_def, hm]
    refine ⟨this, ?_⟩
    obtain ⟨callee, args, tys⟩ := c
    cases callee with
    | value f =>
      cases f with
      | func f => exact wrOf_congr fun x hx => hev x (call_args hx)
      | _ => rfl
    | builtin b => cases b <;> first | exact this | rfl
    | _ => rfl
  | _ => exact ⟨rfl, rfl⟩
theorem orow_congr {l l' : List (Nat × List AV × Nat)} {b : Nat} (h : look l b = look l' b) : orow l b = orow l' b := by unfold orow; rw [h]
theorem blk_congr {l l' : List (Nat × List AV × Nat)} {b : Nat} (h : look l b = look l' b) : blk l b = blk l' b := by unfold blk; rw [h]
theorem argsOf_congr : ∀ {l : List Operand} {ts : List Nat}, (∀ x ∈ l, s.ev x = s'.ev x) → (∀ b ∈ l.flatMap (ptrOf s), look s.blks b = look s'.blks b) → argsOf T s l ts = argsOf T s' l ts
  | [], _, _, _ => rfl
  | x :: r, ts, h, hb => by
    have h1 := h x List.mem_cons_self
    have ih := argsOf_congr (l := r) (ts := ts.tail) (fun y hy => h y (List.mem_cons_of_mem _ hy)) (fun b hm => hb b (by rw [List.flatMap_cons]; exact List.mem_append_right _ hm))
    unfold argsOf
    rw [← h1, ← ih]
    split
    · split
      · rename_i hx _
        rw [blk_congr (hb _ (by rw [List.flatMap_cons]; exact List.mem_append_left _ (by simp [ptrOf, hx])))]
      · rename_i hx _
        rw [blk_congr (hb _ (by rw [List.flatMap_cons]; exact List.mem_append_left _ (by simp [ptrOf, hx])))]
      · rename_i hx _
        rw [orow_congr (hb _ (by rw [List.flatMap_cons]; exact List.mem_append_left _ (by simp [ptrOf, hx])))]
      · rfl
      · rfl
    · rfl
theorem argsOf_ptrs : ∀ {l : List Operand} {ts : List Nat} {xs : List Arg} {bs fs rs : List Nat}, argsOf T s l ts = some (xs, bs, fs, rs) → ∀ b ∈ fs ++ bs, b ∈ wrOf T s l ts
  | [], ts, xs, bs, fs, rs, h, b, hb => by
    simp only [argsOf, Option.some.injEq, Prod.mk.injEq] at h
    rw [← h.2.1, ← h.2.2.1] at hb; cases hb
  | x :: r, ts, xs, bs, fs, rs, h, b, hb => by
    unfold argsOf at h
    unfold wrOf
    split at h
    · rename_i xs' bs' fs' rs' hr
      have ih := argsOf_ptrs hr
      split at h
      · rename_i b' c hx hro
        split at h
        · split at h
          · simp only [Option.some.injEq, Prod.mk.injEq] at h
            obtain ⟨_, rfl, rfl, _⟩ := h
            exact List.mem_append_right _ (ih b hb)
          · cases h
        · cases h
      · rename_i b' hx hro
        split at h
        · rename_i cs t hl
          cases hc : cs.all (AV.b1 0) with
          | false => rw [hc] at h; cases h
          | true =>
            rw [hc] at h
            simp only [cond_true, Option.some.injEq, Prod.mk.injEq] at h
            obtain ⟨_, rfl, rfl, _⟩ := h
            simp only [List.mem_append, List.mem_cons] at hb
            rcases hb with e | e | e
            · exact List.mem_append_right _ (ih b (List.mem_append_left _ e))
            · subst e; exact List.mem_append_left _ (by rw [hro]; simp [ptrOf, hx])
            · exact List.mem_append_right _ (ih b (List.mem_append_right _ e))
        · cases h
      · rename_i b' hx hro
        split at h
        · simp only [Option.some.injEq, Prod.mk.injEq] at h
          obtain ⟨_, rfl, rfl, _⟩ := h
          simp only [List.cons_append, List.mem_cons] at hb
          rcases hb with e | e
          · subst e; exact List.mem_append_left _ (by rw [hro]; simp [ptrOf, hx])
          · exact List.mem_append_right _ (ih b e)
        · cases h
      · rename_i y0 y hx hx1 hx2 hx3
        cases hc : y.bound 0 with
        | false => simp [hc] at h
        | true =>
          simp only [hc, cond_true, Option.some.injEq, Prod.mk.injEq] at h
          obtain ⟨_, rfl, rfl, _⟩ := h
          exact List.mem_append_right _ (ih b hb)
      · cases h
    · cases h
/-! ### Blocks that are set -/
theorem look_setAll_ne : ∀ {ws : List (Nat × List AV)} {l : List (Nat × List AV × Nat)} {b : Nat}, b ∉ ws.map (·.1) → look (setAll l ws) b = look l b
  | [], _, _, _ => rfl
  | (b', ds) :: r, l, b, h => by
    simp only [List.map_cons, List.mem_cons, not_or] at h
    rw [setAll, look_setAll_ne h.2, look_set, if_neg h.1]
theorem look_setAll_congr : ∀ {ws : List (Nat × List AV)} {l l' : List (Nat × List AV × Nat)} {b : Nat}, look l b = look l' b → look (setAll l ws) b = look (setAll l' ws) b
  | [], _, _, _, h => h
  | (b', ds) :: r, l, l', b, h => look_setAll_congr (ws := r) (by
    rw [look_set, look_set]
    by_cases e : b = b'
    · subst e; rw [if_pos rfl, if_pos rfl, h]
    · rw [if_neg e, if_neg e, h])
theorem setAll_fst : ∀ (ws : List (Nat × List AV)) (l : List (Nat × List AV × Nat)), (setAll l ws).map (·.1) = l.map (·.1)
  | [], _ => rfl
  | (b', ds) :: r, l => by rw [setAll, setAll_fst r, set_fst]
def Ef.names (e : Ef) : List Nat :=
  (match e.new with
    | none => []
    | some p => [p.1]) ++ e.sets.map (·.1)
theorem put_blks (z : St) (d : Option Tmp) (x : AV) : (z.put d x).blks = z.blks := by cases d <;> rfl
theorem app_look_ne {d : Option Tmp} {e : Ef} {b : Nat} (h : b ∉ e.names) : look (app s d e).blks b = look s.blks b := by
  unfold app
  rw [put_blks]
  unfold Ef.names at h
  split
  · rename_i e1; rw [e1] at h; exact look_setAll_ne (by simpa using h)
  · rename_i p e1
    rw [e1] at h
    simp only [List.mem_append, List.mem_singleton, not_or] at h
    simp only [look]
    have : Nat.beq p.1 b = false := by
      cases hb : Nat.beq p.1 b with
      | false => rfl
      | true => exact absurd (Nat.eq_of_beq_eq_true hb).symm h.1
    rw [this]
    exact look_setAll_ne h.2
theorem app_look_congr {d d' : Option Tmp} {e : Ef} {b : Nat} (h : look s.blks b = look s'.blks b) : look (app s d e).blks b = look (app s' d' e).blks b := by
  unfold app
  rw [put_blks, put_blks]
  split
  · exact look_setAll_congr h
  · simp only [look, look_setAll_congr h]
theorem app_tmps (d : Option Tmp) (e : Ef) : (app s d e).tmps = (match d with | some t => set_ s.tmps t (some e.x) | none => s.tmps) := by
  unfold app
  cases hE : e.new <;> cases d <;> rfl
theorem app_np (d : Option Tmp) (e : Ef) : (app s d e).np = s.np := by
  unfold app
  cases hE : e.new <;> cases d <;> rfl
theorem app_next (d : Option Tmp) (e : Ef) : (app s d e).next = (match e.new with | none => s.next | some p => max s.next (p.1 + 1)) := by
  unfold app
  cases hE : e.new <;> cases d <;> rfl
theorem app_fst (d : Option Tmp) (e : Ef) : (app s d e).blks.map (·.1) = (match e.new with | none => [] | some p => [p.1]) ++ s.blks.map (·.1) := by
  unfold app
  rw [put_blks]
  cases hE : e.new <;> simp [setAll_fst]
/-! ### An effect elsewhere -/
theorem Eff.congr {o : Oper} {e : Ef} (he : Eff T C s o e) (hev : ∀ x ∈ o.op.operands, s.ev x = s'.ev x) (hlk : ∀ b ∈ touch s o.op, look s.blks b = look s'.blks b) : Eff T C s' o e := by
  cases he with
  | pure h1 h2 =>
    refine .pure h1 ?_
    rw [← pureOp_congr hev hlk]
    exact h2
  | box b ho hx hro hall => exact .box b ho (by rw [← hev _ (by simp [ho, Op.operands])]; exact hx) hro hall
  | robox ho hx hro hd hall => exact .robox ho (by rw [← hev _ (by simp [ho, Op.operands])]; exact hx) hro hd hall
  | alloc b ho ht => exact .alloc b ho ht
  | nil b ho => exact .nil b ho
  | store ho ht hx hy hsz hb hall hf =>
    exact .store ho ht (by rw [← hev _ (by simp [ho, Op.operands])]; exact hx) (by rw [← hev _ (by simp [ho, Op.operands])]; exact hy) hsz (by rw [← blk_congr (hlk _ (by simp [ho, touch, ptrOf, hx]))]; exact hb) hall hf
  | slice b ho ht hk hte hc hd hb =>
    exact .slice b ho ht hk hte hc (by rw [← decRow_congr (fun p hp => hev _ (by simp only [ho, Op.operands]; exact List.mem_toArray.2 (List.mem_map.2 ⟨p, hp, rfl⟩)))]; exact hd) hb
  | append nb ho hx hy ht hk hie hb hb' hys h1 h2 h3 h4 =>
    have a1 := hev _ (by rw [ho]; exact call_args (x := _) (List.mem_cons_self))
    have a2 := hev _ (by rw [ho]; exact call_args (x := _) (List.mem_cons_of_mem _ List.mem_cons_self))
    exact .append nb ho (by rw [← a1]; exact hx) (by rw [← a2]; exact hy) ht hk hie (by rw [← orow_congr (hlk _ (by simp [ho, touch, ptrOf, hx]))]; exact hb)
      (by rw [← orow_congr (hlk _ (by simp [ho, touch, ptrOf, hy]))]; exact hb') hys h1 h2 h3 h4
  | call ho hW hM hxs hdf hm hc hl =>
    exact .call ho hW hM (by rw [← argsOf_congr (fun x hx => hev x (by rw [ho]; exact call_args hx)) (fun b hb => hlk b (by rw [ho]; exact hb))]; exact hxs) hdf hm hc (all_setBlks _ (setBlks_all hl).2)
/-- The blocks that an effect names. -/
theorem Eff.names {o : Oper} {e : Ef} (he : Eff T C s o e) : ∀ b ∈ e.sets.map (·.1), b ∈ writes T s o.op := by
  cases he with
  | store ho ht hx hy hsz hb hall hf => intro b hb; simp at hb; subst hb; simp [ho, writes, ptrOf, hx]
  | append nb ho hx hy ht hk hie hb hb' hys h1 h2 h3 h4 => intro b hb; simp at hb; subst hb; simp [ho, writes, ptrOf, hx]
  | call ho hW hM hxs hdf hm hc hl =>
    intro b hb
    rw [ho]
    refine argsOf_ptrs hxs b ?_
    rw [List.map_append, List.map_fst_zip (Nat.le_of_eq (setBlks_all hl).2), List.map_map] at hb
    simpa [Function.comp] using hb
  | _ => intro b hb; cases hb
theorem writes_touch (o : Op) : ∀ b ∈ writes T s o, b ∈ touch s o := by
  intro b hb
  cases o with
  | store => exact hb
  | call c =>
    obtain ⟨callee, args, tys⟩ := c
    cases callee with
    | value f =>
      cases f with
      | func f => exact wrOf_ptrs b hb
      | _ => cases hb
    | builtin f => cases f <;> first | exact hb | cases hb
    | _ => cases hb
  | _ => cases hb
/-- What an effect is worth: in any state that it holds of. -/
theorem Eff.wp (r : ρ) (hT : TabOk P T) (hC : EnvOk P C) {o : Oper} {e : Ef} (he : Eff T C s o e) (h : Rel0 X0 gs w0 m s a w) (hfree : ∀ p, e.new = some p → m p.1 = none ∧ (∀ q ∈ s.blks, q.1 ≠ p.1) ∧ gs.length ≤ p.1)
    (Next : Act → World → Prop) (Q : Exit → Act → World → Prop) (hn : ∀ a' w' m', (∀ b, b ∉ (match e.new with | none => [] | some p => [p.1]) → m b = none → m' b = none) → Rel0 X0 gs w0 m' (app s o.dst e) a' w' → Next a' w') : o.wp P a w Next Q := by
  classical
  have old : (∀ K : St → Option ρ, stepOp T C o s K = some r → StepOk P X0 gs w0 w m s a o K r) → (∀ K : St → Option ρ, stepOp T C o s K = K (app s o.dst e)) → e.new = none → o.wp P a w Next Q := fun hst hK hno => by
    have hp : stepOp T C o s (fun s' => if s' = app s o.dst e then some r else none) = some r := by rw [hK]; simp
    refine hst _ hp Next Q fun s' a' w' m' h1 h2 h3 => ?_
    by_cases e1 : s' = app s o.dst e
    · subst e1
      exact hn _ _ _ (fun b _ => h2 b) h3
    · rw [if_neg e1] at h1; cases h1
  have new : ∀ nb s1, (∃ p, e.new = some p ∧ p.1 = nb) → s1 = app s o.dst e → OpWp P X0 gs w0 w m a o nb s1 → o.wp P a w Next Q := fun nb s1 ⟨p, hp, hpn⟩ hs1 hop => by
    refine hop Next Q fun a' w' m' h1 h2 => hn a' w' m' (fun b hb => h1 b fun e1 => hb ?_) (hs1 ▸ h2)
    rw [hp, e1, ← hpn]
    exact List.mem_singleton.2 rfl
  cases he with
  | pure h1 h2 =>
    refine old (fun K hp => pure_step h (pureOp_sound hT h (by rw [← step_pure h1]; exact hp))) (fun K => ?_) rfl
    rw [step_pure h1, pureOp_bind, h2]
    rfl
  | box b ho hx hro hall => obtain ⟨f1, f2, f3⟩ := hfree _ rfl; exact new b _ ⟨_, rfl, rfl⟩ rfl (box_op f1 f2 f3 h ho hx hall)
  | robox ho hx hro hd hall =>
    rename_i t x y c z
    have hv := flat_vis (ev_sound h hx) hall
    obtain ⟨ys, rest, F, e1, e2, e3, e4⟩ := dec_footL hd hv
    have hrest : rest = [] := List.eq_nil_of_length_eq_zero e4.1.symm
    subst hrest
    rw [List.append_nil] at e1
    unfold Oper.wp
    have hrun : (execOp a.eval o).run P w = .ok (.value (.pointer (some ⟨w.heap.size, 0, none⟩))) (w.alloc (.cells (a.eval x).cells t)) := by
      simp [execOp, ho, Instr.box, newVar, newRow]
    rw [hrun]
    refine hn _ _ m (fun _ _ h => h) ((h.grow (Upd.alloc w _)).put o.dst (.elem ⟨fun k => F k ∨ k = w.heap.size, fun k hk => ?_, .inr rfl, ys, (e3.move fun k hk => Below.heap_alloc w _ k (e2 k hk).1).widen fun _ => .inl, fun j u hu => ?_⟩))
    · rcases hk with hk | rfl
      · exact ⟨Nat.lt_of_lt_of_le (e2 k hk).1 (by simp), (e2 k hk).2⟩
      · refine ⟨by simp, fun hx => ?_⟩
        rcases hx with hx | ⟨b, n, hb, hn'⟩
        · have := h.out _ hx
          have := h.world.size
          omega
        · have := ((h.fresh b n hb).2 _ hn').1
          omega
    · rw [← e1] at hu
      exact cells_at w.heap.size 0 (blk_new w _) j u (by simpa using hu)
  | alloc b ho ht => obtain ⟨f1, f2, f3⟩ := hfree _ rfl; exact new b _ ⟨_, rfl, rfl⟩ rfl (alloc_op f1 f2 f3 hT h ho ht)
  | nil b ho => obtain ⟨f1, f2, f3⟩ := hfree _ rfl; exact new b _ ⟨_, rfl, rfl⟩ rfl (nil_op f1 f2 f3 h ho)
  | slice b ho ht hk hte hc hd hb => obtain ⟨f1, f2, f3⟩ := hfree _ rfl; exact new b _ ⟨_, rfl, rfl⟩ rfl (slice_op f1 f2 f3 hT h ho ht hk hte hc hd hb)
  | append nb ho hx hy ht hk hie hb hb' hys h1 h2 h3 h4 => obtain ⟨f1, f2, f3⟩ := hfree _ rfl; exact new nb _ ⟨_, rfl, rfl⟩ rfl (append_op f1 f2 f3 hT h ho hx hy ht hk hie hb hb' hys h1 h2 h3 h4)
  | store ho ht hx hy hsz hb hall hf =>
    refine old (fun K hp => store_step hT h ho hp) (fun K => ?_) rfl
    unfold stepOp
    rw [ho]
    simp only [ht, hx, hy, hsz, hb, hall, hf, cond_true]
    rfl
  | call ho hW hM hxs hdf hm hc hl =>
    refine old (fun K hp => call_step hC h ho hp) (fun K => ?_) rfl
    unfold stepOp
    rw [ho]
    simp only [hW, hxs, hdf, hM, hm, Option.bind_some, hc, hl, cond_true]
    unfold app
    simp only [setAll_ends, (setBlks_all hl).1]
end
end Go.Proofs.Ytneceomekgophaa.Ev
