import Derived.Test.YtneceomekgophaaEvSound4
set_option linter.unusedVariables false
set_option linter.unusedSimpArgs false
namespace Go.Proofs.Ytneceomekgophaa.Ev
open Go Go.RowKit Go.Proofs Go.Proofs.YtneceomekgophaaW.PrintWords Go.Proofs.YtneceomekgophaaW.PrintLast
section
variable {P : Program} {T : List (Nat × TyI)} {X0 : Nat → Prop} {gs : List Nat} {w0 w : World} {m : Nm} {s : St} {a : Act} {ρ : Type} {r : ρ}
/-- What an operation is to show: whatever comes behind it. -/
def StepOk (P : Program) (X0 : Nat → Prop) (gs : List Nat) (w0 w : World) (m : Nm) (s : St) (a : Act) (o : Oper) (K : St → Option ρ) (r : ρ) : Prop :=
  ∀ (Next : Act → World → Prop) (Q : Exit → Act → World → Prop), (∀ s' a' w' m', K s' = some r → (∀ b, m b = none → m' b = none) → Rel0 X0 gs w0 m' s' a' w' → Next a' w') → o.wp P a w Next Q
theorem put_next (s : St) (d : Option Tmp) (x : AV) : (s.put d x).next = s.next := by cases d <;> rfl
theorem pure_step (h : Rel0 X0 gs w0 m s a w) {o : Oper} {K : St → Option ρ} (hp : PureOk P (XS X0 m) w m a o (fun x => K (s.put o.dst x)) r) : StepOk P X0 gs w0 w m s a o K r := by
  obtain ⟨x, y, h1, h2, h3⟩ := hp
  intro Next Q hn
  unfold Oper.wp
  rw [h3 w (fun _ _ => rfl)]
  exact hn _ _ _ m h1 (fun _ h => h) (h.put o.dst h2)
/-- What makes a name anew, whatever its name. -/
def OpWp (P : Program) (X0 : Nat → Prop) (gs : List Nat) (w0 w : World) (m : Nm) (a : Act) (o : Oper) (nb : Nat) (s1 : St) : Prop :=
  ∀ (Next : Act → World → Prop) (Q : Exit → Act → World → Prop), (∀ a' w' m', (∀ b, b ≠ nb → m b = none → m' b = none) → Rel0 X0 gs w0 m' s1 a' w' → Next a' w') → o.wp P a w Next Q
theorem name_none {bs : List Nat} {nb : Nat} {nv : NV} : ∀ b, b ≠ nb → m b = none → (fun b => cond (Nat.beq b nb) (some nv) (Ev.kill bs m b)) b = none := fun b hb hm => by
  have : Nat.beq b nb = false := by
    cases e : Nat.beq b nb with
    | false => rfl
    | true => exact absurd (Nat.eq_of_beq_eq_true e) hb
  simp [this, Ev.kill, hm]
theorem box_op {nb : Nat} (hfree : m nb = none) (hin : ∀ p ∈ s.blks, p.1 ≠ nb) (hgs : gs.length ≤ nb) (h : Rel0 X0 gs w0 m s a w) {o : Oper} {t : Nat} {x : Operand} {y : AV} (ho : o.op = .box t x) (hx : s.ev x = some y) (hall : y.flat.all AV.one = true) :
    OpWp P X0 gs w0 w m a o nb ({ s with blks := (nb, y.flat, t) :: s.blks, next := max s.next (nb + 1) }.put o.dst (.ptr nb 0)) := by
  intro Next Q hn
  have hv := flat_vis (ev_sound h hx) hall
  unfold Oper.wp
  have hrun : (execOp a.eval o).run P w = .ok (.value (.pointer (some ⟨w.heap.size, 0, none⟩))) (w.alloc (.cells (a.eval x).cells t)) := by
    simp [execOp, ho, Instr.box, newVar, newRow]
  rw [hrun]
  refine hn _ _ _ name_none (Rel0.put (Rel0.name (nv := .blk w.heap.size) [] [] hfree hin hgs h (Upd.alloc w _) (fun g hg => by cases hg) (fun k hk => ?_) (fun m' hm hmn mv => ?_)) o.dst (.ptr 0 (by simp)))
  · simp only [NV.holds] at hk; subst hk; exact ⟨by simp, .inl (Nat.le_refl _)⟩
  · exact .inr (.inr ⟨w.heap.size, (a.eval x).cells, t, hmn, blk_new w _, hv.1, fun i x y q1 q2 => mv _ _ (hv.2 i x y q1 q2)⟩)
theorem alloc_op {nb : Nat} (hfree : m nb = none) (hin : ∀ p ∈ s.blks, p.1 ≠ nb) (hgs : gs.length ≤ nb) (hT : TabOk P T) (h : Rel0 X0 gs w0 m s a w) {o : Oper} {t : Nat} {i : TyI} (ho : o.op = .alloc t) (ht : look T t = some i) :
    OpWp P X0 gs w0 w m a o nb ({ s with blks := (nb, i.zero.map .v, t) :: s.blks, next := max s.next (nb + 1) }.put o.dst (.ptr nb 0)) := by
  intro Next Q hn
  obtain ⟨ti, d, z, h1, h2, h3, h4, h5, h6, h7⟩ := tyI_of hT ht
  have hv : VisL (XS X0 m) w m (i.zero.map .v) z.cells.toList := by rw [h6]; exact plain_vis _
  unfold Oper.wp
  have hrun : (execOp a.eval o).run P w = .ok (.value (.pointer (some ⟨w.heap.size, 0, none⟩))) (w.alloc (.cells z.cells t)) := by
    simp [execOp, ho, Instr.alloc, newVar, newRow, zeroValue, typeInfo, h1, h3]
  rw [hrun]
  refine hn _ _ _ name_none (Rel0.put (Rel0.name (nv := .blk w.heap.size) [] [] hfree hin hgs h (Upd.alloc w _) (fun g hg => by cases hg) (fun k hk => ?_) (fun m' hm hmn mv => ?_)) o.dst (.ptr 0 (by simp)))
  · simp only [NV.holds] at hk; subst hk; exact ⟨by simp, .inl (Nat.le_refl _)⟩
  · exact .inr (.inr ⟨w.heap.size, z.cells, t, hmn, blk_new w _, hv.1, fun i x y q1 q2 => mv _ _ (hv.2 i x y q1 q2)⟩)
theorem nil_op {nb : Nat} (hfree : m nb = none) (hin : ∀ p ∈ s.blks, p.1 ≠ nb) (hgs : gs.length ≤ nb) (h : Rel0 X0 gs w0 m s a w) {o : Oper} {e : Nat} {c : RKc} (ho : nilOf T o = some (e, c)) :
    OpWp P X0 gs w0 w m a o nb ({ s with blks := (nb, [.orow e c []], 0) :: s.blks, next := max s.next (nb + 1) }.put o.dst (.own nb)) := by
  intro Next Q hn
  have hc : c.noList = true ∧ (execOp a.eval o).run P w = .ok (.value (.slice none 0 0)) w := by
    unfold nilOf at ho
    split at ho
    · rename_i hop
      split at ho
      · split at ho
        · rename_i c' _ _
          cases hc : c'.noList with
          | false => rw [hc] at ho; cases ho
          | true =>
            rw [hc] at ho
            simp only [cond_true, Option.some.injEq, Prod.mk.injEq] at ho
            obtain ⟨rfl, rfl⟩ := ho
            exact ⟨hc, by simp [execOp, hop, Act.eval]⟩
        · cases ho
      · cases ho
    · rename_i hop
      split at ho
      · split at ho
        · rename_i c' _ _
          cases hc : c'.noList with
          | false => rw [hc] at ho; cases ho
          | true =>
            rw [hc] at ho
            simp only [cond_true, Option.some.injEq, Prod.mk.injEq] at ho
            obtain ⟨rfl, rfl⟩ := ho
            exact ⟨hc, by simp [execOp, hop, Act.eval]⟩
        · cases ho
      · cases ho
    · cases ho
  unfold Oper.wp
  rw [hc.2]
  refine hn _ _ _ name_none (Rel0.put (Rel0.name (nv := .row (.slice none 0 0) true) [] [] hfree hin hgs h (Upd.refl [] w) (fun g hg => by cases hg) (fun k hk => ?_) (fun m' hm hmn mv => ?_)) o.dst (.own (l := true) (by simp)))
  · exact absurd hk.2 (by simp [Value.ownBlock])
  · exact .inr (.inl ⟨e, c, [], _, rfl, hmn, hc.1, [], ⟨by simp, .inl ⟨rfl, rfl⟩⟩, by simp, Reps.none _ _⟩)
theorem setRow_other (w : World) (g : Nat) (cs : Array Value) (k : Nat) (h : k ≠ g) : (w.setRow g cs).heap[k]? = w.heap[k]? := by
  simp only [World.setRow, Array.getElem?_modify]
  rw [if_neg (fun e => h e.symm)]
theorem store_step (hT : TabOk P T) (h : Rel0 X0 gs w0 m s a w) {o : Oper} {C : List (Nat × CallW ρ)} {t : Nat} {x y : Operand} {K : St → Option ρ} (ho : o.op = .store t x y) (hp : stepOp T C o s K = some r) : StepOk P X0 gs w0 w m s a o K r := by
  unfold stepOp at hp
  rw [ho] at hp
  simp only at hp
  split at hp
  · rename_i i b p v ht hx hy
    cases hsz : Nat.beq i.size v.flat.length with
    | false => rw [hsz] at hp; cases hp
    | true =>
      rw [hsz] at hp
      simp only [cond_true] at hp
      split at hp
      · rename_i cs t' hb
        cases hall : v.flat.all AV.one with
        | false => rw [hall] at hp; cases hp
        | true =>
          rw [hall] at hp
          simp only [cond_true] at hp
          split at hp
          · rename_i cs' hf
            obtain ⟨ti, d, z, h1, h2, h3, h4, h5, h6, h7⟩ := tyI_of hT ht
            obtain ⟨g', hg, hpt⟩ := vis_ptr (ev_sound h hx)
            obtain ⟨g, ys, t'', hg2, hh, hv⟩ := h.var hb
            have : g = g' := by rw [hg] at hg2; injection hg2 with e; injection e with e; exact e.symm
            subst this
            have hvx := flat_vis (ev_sound h hy) hall
            have hone := one_of hvx hall
            obtain ⟨hl, hv'⟩ := fillAt_vis hf hv hvx
            have hlen : (a.eval y).cells.toList.length = ti.size := by
              rw [← h4, Nat.eq_of_beq_eq_true hsz]; exact hvx.1.symm
            have hle : p + 0 + (a.eval y).cells.toList.length ≤ ys.size := by
              have e1 := hv.1; have e2 := hvx.1; simp only [Array.length_toList] at e1 e2 ⊢; omega
            have hrun := run_storeCells_at (P := P) g p t'' (a.eval y).cells.toList 0 ys w hh hle hone
            simp only [Nat.add_zero] at hrun
            intro Next Q hn
            unfold Oper.wp
            have hrun2 : (execOp a.eval o).run P w = .ok .skip (w.setRow g (ys.toList.take p ++ (a.eval y).cells.toList ++ ys.toList.drop (p + (a.eval y).cells.toList.length)).toArray) := by
              have hsz2 : (a.eval y).cells.size = ti.size := by simpa using hlen
              simp [execOp, ho, hpt, Instr.storeAt, Instr.sureAddr, storeVar, run_sizeOf h1, hsz2]
              simp at hrun
              rw [hsz2] at hrun
              simp [hrun]
            rw [hrun2]
            refine hn _ _ _ m hp (fun _ h => h) (Rel0.put (h.upd (bs := [b]) (hs := [g]) (set_fst _ _ _) (fun q hq => ⟨b, by simp, by rw [List.mem_singleton.1 hq]; exact hg⟩) ?_ ?_) o.dst (.v _))
            · refine ⟨rfl, rfl, rfl, by simp [World.setRow], fun k hk hkg => setRow_other w g _ k (by simpa using hkg)⟩
            · intro b' ds t3 hlk
              rw [look_set] at hlk
              by_cases eb : b' = b
              · subst eb
                simp only [if_true, (blk_spec hb).1, Option.map_some, Option.some.injEq, Prod.mk.injEq] at hlk
                obtain ⟨rfl, rfl⟩ := hlk
                refine .inr ⟨g, _, t'', hg, setRow_heap w g ys _ t'' (0, 0) hh, ?_⟩
                have hmv : ∀ k, k < w.heap.size → ¬ XS X0 m k → (w.setRow g (ys.toList.take p ++ (a.eval y).cells.toList ++ ys.toList.drop (p + (a.eval y).cells.toList.length)).toArray).heap[k]? = w.heap[k]? := fun k hk hx => setRow_other w g _ k (fun e => hx (.inr ⟨b', _, hg, e.symm⟩))
                exact hv'.move' hmv (fun _ _ h => h) (by simp [World.setRow]) (NLe.refl m)
              · rw [if_neg eb] at hlk
                exact .inl ⟨by simpa using eb, hlk⟩
          · cases hp
      · cases hp
  · cases hp
theorem dup_free : ∀ {l : List Nat}, dupFree l = true → l.Nodup
  | [], _ => List.nodup_nil
  | x :: r, h => by
    simp only [dupFree, Bool.and_eq_true, Bool.not_eq_true', List.any_eq_false] at h
    refine List.nodup_cons.2 ⟨fun hm => h.1 x hm ?_, dup_free h.2⟩
    exact Nat.beq_refl x
theorem outs_look {X : Nat → Prop} {w' : World} : ∀ {bs : List Nat} {hs : List Nat} {outs : List (List AV)} {l l' : List (Nat × List AV × Nat)}, setBlks l bs outs = some l' → OutsOk X w' outs hs → bs.Nodup → bs.map m = hs.map (fun g => some (NV.blk g)) →
    ∀ b cs t, look l' b = some (cs, t) → (b ∉ bs ∧ look l b = some (cs, t)) ∨ (∃ g ys t', m b = some (.blk g) ∧ w'.heap[g]? = some (.cells ys t' (0, 0)) ∧ VisL X w' Nm.none cs ys.toList)
  | [], hs, [], l, l', h, ho, hn, hm, b, cs, t, hb => by
    simp only [setBlks, Option.some.injEq] at h
    subst h
    exact .inl ⟨by simp, hb⟩
  | [], hs, _ :: _, l, l', h, _, _, _, _, _, _, _ => by simp [setBlks] at h
  | _ :: _, hs, [], l, l', h, _, _, _, _, _, _, _ => by simp [setBlks] at h
  | b0 :: bs, [], ds :: outs, l, l', h, ho, hn, hm, b, cs, t, hb => by simp at hm
  | b0 :: bs, g0 :: hs, ds :: outs, l, l', h, ho, hn, hm, b, cs, t, hb => by
    simp only [setBlks] at h
    obtain ⟨⟨hall, zs, t0, hz, hvz⟩, ho'⟩ := ho
    simp only [List.map_cons, List.cons.injEq] at hm
    rcases outs_look h ho' (List.nodup_cons.1 hn).2 hm.2 b cs t hb with ⟨h1, h2⟩ | h2
    · rw [look_set] at h2
      by_cases e : b = b0
      · subst e
        rw [if_pos rfl] at h2
        cases hq : look l b with
        | none => rw [hq] at h2; cases h2
        | some q =>
          rw [hq] at h2
          simp only [Option.map_some, Option.some.injEq, Prod.mk.injEq] at h2
          obtain ⟨rfl, _⟩ := h2
          exact .inr ⟨g0, zs, t0, hm.1, hz, hvz⟩
      · rw [if_neg e] at h2
        exact .inl ⟨by simp [e, h1], h2⟩
    · exact .inr h2
theorem call_step {C : List (Nat × CallW ρ)} (hC : EnvOk P C) (h : Rel0 X0 gs w0 m s a w) {o : Oper} {f : Nat} {args : Array Operand} {tys : Array TypeId} {K : St → Option ρ}
    (ho : o.op = .call { callee := .value (.func f), args := args, argTypes := tys }) (hp : stepOp T C o s K = some r) : StepOk P X0 gs w0 w m s a o K r := by
  unfold stepOp at hp
  rw [ho] at hp
  simp only at hp
  split at hp
  · rename_i W xs bs fs rs hW hxs
    cases hd0 : (dupFree (fs ++ bs) && bs.all fun b => !(rs.any (Nat.beq b))) with
    | false => rw [hd0] at hp; cases hp
    | true =>
      rw [hd0] at hp
      simp only [cond_true] at hp
      simp only [Bool.and_eq_true] at hd0
      have hbn : bs.Nodup := (List.nodup_append.1 (dup_free hd0.1)).2.1
      have hdis : ∀ b ∈ bs, b ∉ rs := fun b hb hr => by
        have := List.all_eq_true.1 hd0.2 b hb
        rw [any_mem.2 hr] at this
        cases this
      obtain ⟨hs, ha, hb0⟩ := args_sound h (ks := fs) (ro := rs) hxs (fun _ h => h) (fun _ h => h) hdis
      have h1 := h.kill fs
      have hb : bs.map (Ev.kill fs m) = hs.map fun g => some (NV.blk g) := by
        rw [← hb0]
        refine List.map_congr_left fun b hbm => ?_
        have : m b ∈ bs.map m := List.mem_map.2 ⟨b, hbm, rfl⟩
        rw [hb0] at this
        obtain ⟨g, _, hg⟩ := List.mem_map.1 this
        rw [← hg]
        exact kill_blk hg.symm
      have hXlt : ∀ k, XR X0 (Ev.kill fs m) rs k → k < w.heap.size := fun k hk => by
        rcases hk.1 with hk | ⟨b, n, hb, hn⟩
        · exact Nat.lt_of_lt_of_le (h.out k hk) h.world.size
        · exact ((h1.fresh b n hb).2 k hn).1
      obtain ⟨ret, outs, hK, hgo⟩ := (hC f W hW).out hp
      have hnd : hs.Nodup := by
        clear hgo hK hp hxs ha hd0 hb0 hdis
        induction bs generalizing hs with
        | nil =>
          have : hs = [] := by cases hs with
            | nil => rfl
            | cons => simp at hb
          subst this
          exact List.nodup_nil
        | cons b bs ih =>
          cases hs with
          | nil => simp at hb
          | cons g hs =>
            simp only [List.map_cons, List.cons.injEq] at hb
            have hbn' := List.nodup_cons.1 hbn
            refine List.nodup_cons.2 ⟨fun hm => ?_, ih hbn'.2 hs hb.2⟩
            have : some (NV.blk g) ∈ hs.map fun g => some (NV.blk g) := List.mem_map.2 ⟨g, hm, rfl⟩
            rw [← hb.2] at this
            obtain ⟨b', h2, h3⟩ := List.mem_map.1 this
            exact hbn'.1 (h1.inj b b' _ _ g hb.1 h3 rfl rfl ▸ h2)
      have hg := hgo _ w _ hs ha hnd hXlt
      have hvals : (args.toList.map a.eval).toArray = args.map a.eval := by rw [← Array.toList_map, Array.toArray_toList]
      rw [hvals] at hg
      cases hc : (ret.bound 0 && outs.all (fun cs => cs.all (AV.b1 0)) && (isNil rs || (ret.pl && outs.all fun cs => cs.all AV.pl0))) with
      | false => rw [hc] at hK; cases hK
      | true =>
        rw [hc] at hK
        simp only [cond_true] at hK
        split at hK
        · rename_i l hl
          intro Next Q hn
          have fin : ∀ v w', Vis (XS X0 (Ev.kill fs m)) w' Nm.none ret v → Upd hs w w' → OutsOk (XS X0 (Ev.kill fs m)) w' outs hs → Next (a.put o.dst v) w' := fun v w' hv hu hout => by
            refine hn _ _ _ (Ev.kill fs m) hK (fun b hbm => by simp [Ev.kill, hbm]) (Rel0.put (h1.upd (bs := bs) (hs := hs) (sets_fst hl) (fun g hg => ?_) hu (fun b cs t hlk => ?_)) o.dst hv.name)
            · have : some (NV.blk g) ∈ hs.map fun g => some (NV.blk g) := List.mem_map.2 ⟨g, hg, rfl⟩
              rw [← hb] at this
              obtain ⟨b', h1, h2⟩ := List.mem_map.1 this
              exact ⟨b', h1, h2⟩
            · rcases outs_look hl hout hbn hb b cs t hlk with h1 | ⟨g, ys, t', h1, h2, h3⟩
              · exact .inl h1
              · exact .inr ⟨g, ys, t', h1, h2, h3.1, fun i x y q1 q2 => (h3.2 i x y q1 q2).name⟩
          simp only [Bool.and_eq_true, Bool.or_eq_true] at hc
          have up : ∀ {v : Value} {w' : World}, Vis (XR X0 (Ev.kill fs m) rs) w' Nm.none ret v → OutsOk (XR X0 (Ev.kill fs m) rs) w' outs hs → Vis (XS X0 (Ev.kill fs m)) w' Nm.none ret v ∧ OutsOk (XS X0 (Ev.kill fs m)) w' outs hs := fun {v w'} hv ho => by
            rcases hc.2 with hn | hp
            · have : rs = [] := by cases rs with
                | nil => rfl
                | cons => cases hn
              subst this
              have : XR X0 (Ev.kill fs m) [] = XS X0 (Ev.kill fs m) := funext fun g => propext ⟨fun h => h.1, fun h => ⟨h, by simp⟩⟩
              rw [this] at hv ho
              exact ⟨hv, ho⟩
            · exact ⟨pl_vis hv hp.1, outs_pl ho hp.2⟩
          unfold Oper.wp
          rw [run_call ho]
          rcases hg with ⟨h1, h2⟩ | ⟨v, h1, h2, h3, h4⟩
          · rw [h1]
            exact h2.mono fun e w' ⟨v, he, hv, hu, hout⟩ => by subst he; exact fin v w' (up hv hout).1 hu (up hv hout).2
          · rw [h1]
            exact fin v w (up h2 h4).1 h3 (up h2 h4).2
        · cases hK
  · cases hp
end
end Go.Proofs.Ytneceomekgophaa.Ev
