import Derived.Test.YtneceomekgophaaEvSound12
set_option linter.unusedVariables false
set_option linter.unusedSimpArgs false
namespace Go.Proofs.Ytneceomekgophaa.Ev
open Go Go.RowKit Go.Proofs Go.Proofs.YtneceomekgophaaW.PrintWords Go.Proofs.YtneceomekgophaaW.PrintLast
section
variable {P : Program} {T : List (Nat × TyI)} {w : World} {ρ : Type} {r : ρ}
/-- It is entered. -/
structure Enters (P : Program) (f : Nat) (fn : Func) : Prop where
  at_ : P.funcs[f]? = some fn
  name : (fn.name == "runtime.NumGoroutine") = false
  body : fn.body.isSome = true
theorem evalFn_sound (hmx : P.follows .mixedOrders = true) (hT : TabOk P T) {C : List (Nat × CallW ρ)} (hC : EnvOk P C) {keep : Path → Nat × List Nat × List Nat} {k f : Nat} {fn : Func} (hf : Enters P f fn) {xs : List Arg} {K : AV → List (List AV) → Option ρ}
    (hp : evalFn T C keep k fn xs K = some r) (X : Nat → Prop) (w : World) (vals : List Value) (gs : List Nat) (ha : ArgsOk X w xs vals gs) (hnd : gs.Nodup) (hX : ∀ k, X k → k < w.heap.size) :
    Goes P f vals.toArray w fun v w' => ∃ ret outs, K ret outs = some r ∧ Vis X w' Nm.none ret v ∧ Upd gs w w' ∧ OutsOk X w' outs gs := by
  obtain ⟨B, hB⟩ := Option.isSome_iff_exists.1 hf.body
  have hbody : bodyOf fn = B := by unfold bodyOf; rw [hB]; rfl
  refine .inl ⟨MuLone.run_callFunc_enter hf.at_ hf.name hB _ _, ?_⟩
  have hrel := start_rel ha hnd hX fn
  have hm : ∀ i g, gs[i]? = some g → (fun b => (gs[b]?).map NV.blk) (0 + i) = some (.blk g) := fun i g hg => by simp [hg]
  have hlen := (start_blks (n := 0) (m := fun b => (gs[b]?).map NV.blk) ha hm).1
  -- the names of the blocks that came in stay theirs
  refine calls_of_wp hf.at_ hB ?_
  unfold evalFn evalWith at hp
  rw [hbody] at hp
  have hF : ∀ e s' a' w', endOf T fn (startB 0 xs).length K e s' = some r → Rel X gs w s' a' w' → bodyPost P fn (fun e w' => ∃ v, e = .returned v ∧ ∃ ret outs, K ret outs = some r ∧ Vis X w' Nm.none ret v ∧ Upd gs w w' ∧ OutsOk X w' outs gs) e.ex a' w' := by
    rintro e s' a' w' h1 ⟨m, h2⟩
    obtain ⟨e1, e2, v, ret, outs, h4, h5, h6, h7, h8⟩ := end_sound hT hlen h2 h1
    cases e with
    | exit i => exact absurd rfl (e1 i)
    | normal => exact ⟨e2, v, h4, v, rfl, ret, outs, h5, h6, h7, h8⟩
    | ret => exact ⟨e2, v, h4, v, rfl, ret, outs, h5, h6, h7, h8⟩
  have hback := run_sound hmx (H := { T := T, C := C, keep := keep, back := fun _ _ => none }) (B := B) hT hC hF k
  have hrun : runFn T C keep fn (startB 0 xs).length K k = run { T := T, C := C, keep := keep, back := fun _ _ => none } B (endOf T fn (startB 0 xs).length K) k := by unfold runFn; rw [hbody]
  rw [hrun] at hp
  exact evalCode_sound (H := { T := T, C := C, keep := keep, back := _ }) hmx hT hC hback B [] rfl _ _ _ _ hF hp ⟨_, hrel⟩
/-! ### What a model says is what the program does -/
theorem dec_enc : ∀ {c : RKc} {l : List AV} {x : c.T} {rest : List AV}, c.dec l = some (x, rest) → l = c.enc x ++ rest
  | .int k, l, x, rest, h => by
    cases l with
    | nil => simp [RKc.dec] at h
    | cons u r' =>
      cases u with
      | v u =>
        cases u with
        | int k' n =>
          simp only [RKc.dec] at h
          split at h
          · rename_i hk
            subst hk
            simp only [Option.some.injEq, Prod.mk.injEq] at h
            obtain ⟨rfl, rfl⟩ := h
            rfl
          · cases h
        | _ => simp [RKc.dec] at h
      | _ => simp [RKc.dec] at h
  | .bool, l, x, rest, h => by
    cases l with
    | nil => simp [RKc.dec] at h
    | cons u r' =>
      cases u with
      | v u =>
        cases u with
        | bool b =>
          simp only [RKc.dec, Option.some.injEq, Prod.mk.injEq] at h
          obtain ⟨rfl, rfl⟩ := h
          rfl
        | _ => simp [RKc.dec] at h
      | _ => simp [RKc.dec] at h
  | .pair c d, l, x, rest, h => by
    simp only [RKc.dec] at h
    split at h
    · rename_i x1 r1 h1
      split at h
      · rename_i x2 r2 h2
        simp only [Option.some.injEq, Prod.mk.injEq] at h
        obtain ⟨rfl, rfl⟩ := h
        rw [dec_enc h1, dec_enc h2]
        simp [RKc.enc]
      · cases h
    · cases h
  | .list e c, l, x, rest, h => by
    cases l with
    | nil => simp [RKc.dec] at h
    | cons u r' =>
      cases u with
      | row c' xs =>
        simp only [RKc.dec] at h
        split at h
        · rename_i hc
          subst hc
          simp only [Option.some.injEq, Prod.mk.injEq] at h
          obtain ⟨rfl, rfl⟩ := h
          rfl
        · cases h
      | _ => simp [RKc.dec] at h
theorem S1_enc {a : S1} {y : AV} {x : a.T} (h : a.dec y = some x) : y = a.enc x := by
  cases a with
  | i k =>
    cases y with
    | v u =>
      cases u with
      | int k' n =>
        simp only [S1.dec] at h
        split at h
        · rename_i hk
          subst hk
          simp only [Option.some.injEq] at h
          subst h
          rfl
        · cases h
      | _ => simp [S1.dec] at h
    | _ => simp [S1.dec] at h
  | bo =>
    cases y with
    | v u =>
      cases u with
      | bool n =>
        simp only [S1.dec, Option.some.injEq] at h
        subst h
        rfl
      | _ => simp [S1.dec] at h
    | _ => simp [S1.dec] at h
  | rw c =>
    cases y with
    | row c' xs =>
      simp only [S1.dec] at h
      split at h
      · rename_i hc
        subst hc
        simp only [Option.some.injEq] at h
        subst h
        rfl
      · cases h
    | _ => simp [S1.dec] at h
  | el c =>
    cases y with
    | elem c' x o =>
      cases o with
      | zero =>
        simp only [S1.dec] at h
        split at h
        · rename_i hc
          subst hc
          simp only [Option.some.injEq] at h
          subst h
          rfl
        · cases h
      | succ n => simp [S1.dec] at h
    | _ => simp [S1.dec] at h
theorem decL_enc : ∀ {a : S1} {r : List S1} {l : List AV} {x : TL a r}, decL a r l = some x → l = encL a r x
  | a, [], l, x, h => by
    cases l with
    | nil => simp [decL] at h
    | cons y l =>
      cases l with
      | nil => simp only [decL] at h; rw [S1_enc h]; rfl
      | cons => simp [decL] at h
  | a, b :: r, l, x, h => by
    cases l with
    | nil => simp [decL] at h
    | cons y l =>
      simp only [decL] at h
      split at h
      · rename_i u us h1 h2
        simp only [Option.some.injEq] at h
        subst h
        rw [S1_enc h1, decL_enc h2]
        rfl
      · cases h
theorem unG_re : ∀ {gr : List Gr} {l ys : List AV}, unG gr l = some ys → l = reG gr ys
  | [], l, ys, h => by
    cases l with
    | nil => rfl
    | cons => simp [unG] at h
  | .s :: r, l, ys, h => by
    cases l with
    | nil => simp [unG] at h
    | cons x l =>
      simp only [unG] at h
      split at h
      · rename_i ys' hr
        simp only [Option.some.injEq] at h
        subst h
        rw [unG_re hr]
        rfl
      · cases h
  | .g n :: r, l, ys, h => by
    cases l with
    | nil => simp [unG] at h
    | cons x l =>
      cases x with
      | agg xs =>
        simp only [unG] at h
        cases hb : Nat.beq xs.length n with
        | false => rw [hb] at h; cases h
        | true =>
          rw [hb] at h
          simp only [cond_true] at h
          have hn := Nat.eq_of_beq_eq_true hb
          split at h
          · rename_i ys' hr
            simp only [Option.some.injEq] at h
            subst h
            simp only [reG]
            rw [← hn, List.take_left, List.drop_left, unG_re hr]
          · cases h
      | _ => simp [unG] at h
theorem unone_one {gr : List Gr} {x : AV} (hl : (unone gr x).length = gr.length) (hn : gr ≠ [] ∨ True) : x = one_ (unone gr x) := by
  match gr, x with
  | [_], x => rfl
  | [], .tup [] => rfl
  | [], .tup (_ :: _) => simp [unone] at hl
  | [], .v _ => simp [unone] at hl
  | [], .ptr _ _ => simp [unone] at hl
  | [], .agg _ => simp [unone] at hl
  | [], .row _ _ => simp [unone] at hl
  | [], .elem _ _ _ => simp [unone] at hl
  | _ :: _ :: _, .tup [] => simp [unone] at hl
  | _ :: _ :: _, .tup [_] => simp [unone] at hl
  | _ :: _ :: _, .tup (_ :: _ :: _) => rfl
  | _ :: _ :: _, .v _ => simp [unone] at hl
  | _ :: _ :: _, .ptr _ _ => simp [unone] at hl
  | _ :: _ :: _, .agg _ => simp [unone] at hl
  | _ :: _ :: _, .row _ _ => simp [unone] at hl
  | _ :: _ :: _, .elem _ _ _ => simp [unone] at hl
theorem FR_enc {f : FR} {y : AV} {outs : List (List AV)} {x : f.T} (h : f.dec y outs = some x) : y = (f.enc x).1 ∧ outs = (f.enc x).2 := by
  obtain ⟨c0, cs, gr, st⟩ := f
  cases st with
  | none =>
    cases outs with
    | nil =>
      simp only [FR.dec] at h
      split at h
      · rename_i l hu
        cases hb : Nat.beq (unone gr y).length gr.length with
        | false => rw [hb] at h; cases h
        | true =>
          rw [hb] at h
          simp only [cond_true] at h
          refine ⟨?_, rfl⟩
          simp only [FR.enc]
          rw [← decL_enc h, ← unG_re hu]
          exact unone_one (Nat.eq_of_beq_eq_true hb) (.inr trivial)
      · cases h
    | cons => simp [FR.dec] at h
  | some n =>
    match outs, h with
    | [], h => simp [FR.dec] at h
    | [o], h =>
      simp only [FR.dec] at h
      split at h
      · rename_i l hu
        cases hb : (Nat.beq l.length n && Nat.beq (unone gr y).length gr.length) with
        | false => rw [hb] at h; cases h
        | true =>
          rw [hb] at h
          simp only [cond_true] at h
          simp only [Bool.and_eq_true] at hb
          have hn := Nat.eq_of_beq_eq_true hb.1
          simp only [FR.enc]
          rw [← decL_enc h, ← hn, List.take_left, List.drop_left, ← unG_re hu]
          exact ⟨unone_one (Nat.eq_of_beq_eq_true hb.2) (.inr trivial), rfl⟩
      · cases h
    | _ :: _ :: _, h => simp [FR.dec] at h
/-- **The model of a function, shown by the evaluator.** -/
theorem okC (hmx : P.follows .mixedOrders = true) (hT : TabOk P T) {f : Nat} {fn : Func} (hf : Enters P f fn) (fr : FR) {M : List Arg → Option fr.T} {C : List (Nat × CallW fr.T)} (hC : EnvOk P C) (keep : Path → Nat × List Nat × List Nat)
    (h : ∀ xs x, M xs = some x → ∃ k, evalFn T C keep k fn xs fr.dec = some x) : OkC (ρ := ρ) P f (fr.W M) := by
  refine ⟨fun xs => (M xs).map fr.enc, fun xs K => ?_, fun xs ret outs hm X w vals gs ha hnd hX => ?_⟩
  · unfold FR.W
    cases hM : M xs <;> simp [hM]
  · cases hx : M xs with
    | none => simp only [hx] at hm; cases hm
    | some x =>
      simp only [hx, Option.map_some, Option.some.injEq] at hm
      obtain ⟨k, hk⟩ := h xs x hx
      have := evalFn_sound hmx hT hC hf hk X w vals gs ha hnd hX
      have fin : ∀ v w', (∃ ret outs, fr.dec ret outs = some x ∧ Vis X w' Nm.none ret v ∧ Upd gs w w' ∧ OutsOk X w' outs gs) → Vis X w' Nm.none ret v ∧ Upd gs w w' ∧ OutsOk X w' outs gs := by
        rintro v w' ⟨ret', outs', h1, h2, h3, h4⟩
        obtain ⟨e1, e2⟩ := FR_enc h1
        rw [hm] at e1 e2
        subst e1 e2
        exact ⟨h2, h3, h4⟩
      rcases this with ⟨h1, h2⟩ | ⟨v, h1, h2⟩
      · exact .inl ⟨h1, h2.mono fun e w' ⟨v, he, hv⟩ => ⟨v, he, fin v w' hv⟩⟩
      · exact .inr ⟨v, h1, fin v w h2⟩
end
end Go.Proofs.Ytneceomekgophaa.Ev
