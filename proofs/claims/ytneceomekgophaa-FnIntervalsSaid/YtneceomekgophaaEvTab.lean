import Derived.Test.YtneceomekgophaaEvSound13
import Derived.Laws.Externs
import Derived.Test.YtneceomekgophaaProg
set_option linter.unusedVariables false
set_option linter.unusedSimpArgs false
namespace Go.Proofs.Ytneceomekgophaa.Ev
open Go Go.RowKit Go.Proofs Go.Proofs.YtneceomekgophaaW.PrintWords
theorem envOk_nil {P : Program} {ρ : Type} : EnvOk P ([] : List (Nat × CallW ρ)) := fun f W h => by simp [look] at h
theorem envOk_cons {P : Program} {ρ : Type} {n : Nat} {W : CallW ρ} {C : List (Nat × CallW ρ)} (h : OkC P n W) (hC : EnvOk P C) : EnvOk P ((n, W) :: C) := fun f W' hl => by
  simp only [look] at hl
  cases e : Nat.beq n f with
  | true =>
    rw [e] at hl
    simp only [cond_true, Option.some.injEq] at hl
    subst hl
    rw [← Nat.eq_of_beq_eq_true e]
    exact h
  | false => rw [e] at hl; exact hC f W' (by simpa using hl)
def pathEq : Path → Path → Bool
  | [], [] => true
  | a :: r, b :: s => Nat.beq a b && pathEq r s
  | _, _ => false
def keepOf : List (Path × Nat × List Nat × List Nat) → Path → Nat × List Nat × List Nat
  | [], _ => (0, [], [])
  | (q, r) :: l, p => cond (pathEq q p) r (keepOf l p)
theorem unA_re : ∀ {sh : List Sh} {xs : List Arg} {ys : List AV}, unA sh xs = some ys → xs = reA sh ys
  | [], xs, ys, h => by
    cases xs with
    | nil => rfl
    | cons => simp [unA] at h
  | .s :: r, xs, ys, h => by
    cases xs with
    | nil => simp [unA] at h
    | cons x xs =>
      cases x with
      | val x =>
        simp only [unA] at h
        split at h
        · rename_i ys' hr
          simp only [Option.some.injEq] at h
          subst h
          rw [unA_re hr]
          rfl
        · cases h
      | blk cs => simp [unA] at h
  | .g n :: r, xs, ys, h => by
    cases xs with
    | nil => simp [unA] at h
    | cons x xs =>
      cases x with
      | val x =>
        cases x with
        | agg l =>
          simp only [unA] at h
          cases hb : Nat.beq l.length n with
          | false => rw [hb] at h; cases h
          | true =>
            rw [hb] at h
            simp only [cond_true] at h
            have hn := Nat.eq_of_beq_eq_true hb
            split at h
            · rename_i ys' hr
              simp only [Option.some.injEq] at h
              subst h
              simp only [reA]
              rw [← hn, List.take_left, List.drop_left, unA_re hr]
            · cases h
        | _ => simp [unA] at h
      | blk cs => simp [unA] at h
  | .b n :: r, xs, ys, h => by
    cases xs with
    | nil => simp [unA] at h
    | cons x xs =>
      cases x with
      | val x => simp [unA] at h
      | blk l =>
        simp only [unA] at h
        cases hb : Nat.beq l.length n with
        | false => rw [hb] at h; cases h
        | true =>
          rw [hb] at h
          simp only [cond_true] at h
          have hn := Nat.eq_of_beq_eq_true hb
          split at h
          · rename_i ys' hr
            simp only [Option.some.injEq] at h
            subst h
            simp only [reA]
            rw [← hn, List.take_left, List.drop_left, unA_re hr]
          · cases h
/-- The same, the arguments told cell by cell. -/
theorem okA {P : Program} {T : List (Nat × TyI)} {ρ : Type} (hmx : P.follows .mixedOrders = true) (hT : TabOk P T) {f : Nat} {fn : Func} (hf : Enters P f fn) (fr : FR) {c0 : S1} {cs : List S1} {sh : List Sh} {G : TL c0 cs → Option fr.T}
    {C : List (Nat × CallW fr.T)} (hC : EnvOk P C) (keep : Path → Nat × List Nat × List Nat) (k : Nat)
    (h : ∀ x, evalFn T C keep k fn (reA sh (encL c0 cs x)) fr.dec = G x) : OkC (ρ := ρ) P f (fr.W (MA c0 cs sh G)) :=
  okC hmx hT hf fr hC keep fun xs r hm => by
    unfold MA at hm
    split at hm
    · rename_i l hl
      split at hm
      · rename_i x hx
        refine ⟨k, ?_⟩
        rw [unA_re hl, decL_enc hx, h x]
        exact hm
      · cases hm
    · cases hm
/-! ### Two of the model's own functions -/
theorem okX3 {P : Program} {ρ : Type} {f : Nat} {g : Int → Int → Int → Option (Int × Int)}
    (h : ∀ x y c l q, g x y c = some (l, q) → ∀ W : World, (callFunc f #[.int .u64 x, .int .u64 y, .int .u64 c]).run P W = .ok (.value (.tuple #[.int .u64 l, .int .u64 q])) W) :
    OkC (ρ := ρ) P f (FR.W ⟨.i .u64, [.i .u64], [.s, .s], none⟩ (MA (.i .u64) [.i .u64, .i .u64] [.s, .s, .s] fun x => g x.1 x.2.1 x.2.2)) := by
  refine ⟨fun xs => (MA (.i .u64) [.i .u64, .i .u64] [.s, .s, .s] (fun x => g x.1 x.2.1 x.2.2) xs).map (FR.enc ⟨.i .u64, [.i .u64], [.s, .s], none⟩), fun xs K => by
    unfold FR.W
    simp only [Option.bind_map]
    rfl, ?_⟩
  intro xs ret outs hM X w vals gs ha hnd hX
  obtain ⟨⟨l, q⟩, h1, h2⟩ := Option.map_eq_some_iff.mp hM
  simp only [MA] at h1
  split at h1
  · rename_i ys hl
    split at h1
    · rename_i x hx
      have e1 := unA_re hl
      rw [decL_enc hx] at e1
      obtain ⟨x, y, c⟩ := x
      simp only at h1
      have e2 : xs = [.val (.v (.int .u64 x)), .val (.v (.int .u64 y)), .val (.v (.int .u64 c))] := e1
      subst e2
      match vals, gs, ha with
      | [v1, v2, v3], [], ⟨⟨_, a1⟩, ⟨_, a2⟩, ⟨_, a3⟩, _⟩ =>
        rw [vis_v a1, vis_v a2, vis_v a3]
        injection h2 with h3 h4
        subst h3 h4
        refine .inr ⟨_, h x y c l q h1 w, ?_, Upd.refl _ _, trivial⟩
        exact .tup (xs := [.v (.int .u64 l), .v (.int .u64 q)]) (ys := [.int .u64 l, .int .u64 q]) rfl fun i a b h1 h2 => by
          match i with
          | 0 => simp at h1 h2; subst h1 h2; exact .v _
          | 1 => simp at h1 h2; subst h1 h2; exact .v _
          | n + 2 => simp at h1
    · cases h1
  · cases h1
def add64l (x y c : Int) : Int := ((x.toNat + y.toNat + c.toNat) % 18446744073709551616 : Nat)
def add64c (x y c : Int) : Int := ((x.toNat + y.toNat + c.toNat) / 18446744073709551616 : Nat)
def sub64l (x y c : Int) : Int := ((x.toNat + 18446744073709551616 - y.toNat - c.toNat) % 18446744073709551616 : Nat)
def sub64c (x y c : Int) : Int := ((if x.toNat < y.toNat + c.toNat then 1 else 0) : Nat)
def add64E : Array Value → Sem Value := fun args => do
  let (x, y, c) ← Extern.MathBitsCarry.three "Add64" args
  pure (Extern.MathBitsCarry.pair ((x + y + c) % Extern.MathBitsCarry.m64) ((x + y + c) / Extern.MathBitsCarry.m64))
def sub64E : Array Value → Sem Value := fun args => do
  let (x, y, b) ← Extern.MathBitsCarry.three "Sub64" args
  pure (Extern.MathBitsCarry.pair ((x + Extern.MathBitsCarry.m64 - y - b) % Extern.MathBitsCarry.m64) (if x < y + b then 1 else 0))
theorem run_add64E {P : Program} (x y c : Int) (h0 : 0 ≤ c) (h1 : c < 2) (W : World) : (add64E #[.int .u64 x, .int .u64 y, .int .u64 c]).run P W = .ok (.tuple #[.int .u64 (add64l x y c), .int .u64 (add64c x y c)]) W := by
  obtain rfl | rfl : c = 0 ∨ c = 1 := by omega
  all_goals rfl
theorem run_sub64E {P : Program} (x y c : Int) (h0 : 0 ≤ c) (h1 : c < 2) (W : World) : (sub64E #[.int .u64 x, .int .u64 y, .int .u64 c]).run P W = .ok (.tuple #[.int .u64 (sub64l x y c), .int .u64 (sub64c x y c)]) W := by
  obtain rfl | rfl : c = 0 ∨ c = 1 := by omega
  all_goals rfl
def bits_Add64.f (x y c : Int) : Option (Int × Int) := bif decide (0 ≤ c) && decide (c < 2) then some (add64l x y c, add64c x y c) else none
def bits_Sub64.f (x y c : Int) : Option (Int × Int) := bif decide (0 ≤ c) && decide (c < 2) then some (sub64l x y c, sub64c x y c) else none
theorem ok_add64 {P : Program} {ρ : Type} {f : Nat} (h : ∀ x y c : Int, 0 ≤ c → c < 2 → ∀ W : World, (callFunc f #[.int .u64 x, .int .u64 y, .int .u64 c]).run P W = .ok (.value (.tuple #[.int .u64 (add64l x y c), .int .u64 (add64c x y c)])) W) :
    OkC (ρ := ρ) P f (FR.W ⟨.i .u64, [.i .u64], [.s, .s], none⟩ (MA (.i .u64) [.i .u64, .i .u64] [.s, .s, .s] fun x => bits_Add64.f x.1 x.2.1 x.2.2)) := okX3 fun x y c l q hg W => by
  unfold bits_Add64.f at hg
  cases hb : (decide (0 ≤ c) && decide (c < 2)) with
  | false => rw [hb] at hg; cases hg
  | true =>
    rw [hb] at hg
    simp only [Bool.and_eq_true, decide_eq_true_eq] at hb
    simp only [cond_true, Option.some.injEq, Prod.mk.injEq] at hg
    obtain ⟨rfl, rfl⟩ := hg
    exact h x y c hb.1 hb.2 W
theorem ok_sub64 {P : Program} {ρ : Type} {f : Nat} (h : ∀ x y c : Int, 0 ≤ c → c < 2 → ∀ W : World, (callFunc f #[.int .u64 x, .int .u64 y, .int .u64 c]).run P W = .ok (.value (.tuple #[.int .u64 (sub64l x y c), .int .u64 (sub64c x y c)])) W) :
    OkC (ρ := ρ) P f (FR.W ⟨.i .u64, [.i .u64], [.s, .s], none⟩ (MA (.i .u64) [.i .u64, .i .u64] [.s, .s, .s] fun x => bits_Sub64.f x.1 x.2.1 x.2.2)) := okX3 fun x y c l q hg W => by
  unfold bits_Sub64.f at hg
  cases hb : (decide (0 ≤ c) && decide (c < 2)) with
  | false => rw [hb] at hg; cases hg
  | true =>
    rw [hb] at hg
    simp only [Bool.and_eq_true, decide_eq_true_eq] at hb
    simp only [cond_true, Option.some.injEq, Prod.mk.injEq] at hg
    obtain ⟨rfl, rfl⟩ := hg
    exact h x y c hb.1 hb.2 W
/-! ### Over to the kit's way of speaking -/
theorem vis_ofKd {w : World} {c : RKc} {xs : List c.T} {A : Option Addr} {cap : Nat} (h : c.kd.C w A xs.length xs) (hc : xs.length ≤ cap) : Vis (fun _ => False) w Nm.none (.row c xs) (.slice A xs.length cap) :=
  .row ⟨hc, fun k => k < w.heap.size, fun k hk => ⟨hk, id⟩, RowF.of_kd h⟩
theorem OkC.calls {P : Program} {f : Nat} {fn : Func} {fr : FR} {M : List Arg → Option fr.T} (h : OkC (ρ := AV × List (List AV)) P f (fr.W M)) (hf : Enters P f fn) {xs : List Arg} {r : fr.T} (hM : M xs = some r)
    {vals : List Value} {w : World} (ha : ArgsOk (fun _ => False) w xs vals []) :
    Calls P f vals.toArray w fun e w' => ∃ v, e = .returned v ∧ Vis (fun _ => False) w' Nm.none (fr.enc r).1 v ∧ Below w.heap.size w w' := by
  obtain ⟨M', h1, h2⟩ := h
  have h3 := h1 xs fun a b => some (a, b)
  unfold FR.W at h3
  rw [hM] at h3
  simp only [Option.bind_some] at h3
  obtain ⟨⟨a, b⟩, h4, h5⟩ := Option.bind_eq_some_iff.mp h3.symm
  simp only [Option.some.injEq, Prod.mk.injEq] at h5
  obtain ⟨rfl, rfl⟩ := h5
  obtain ⟨B, hB⟩ := Option.isSome_iff_exists.1 hf.body
  rcases h2 xs _ _ h4 (fun _ => False) w vals [] ha List.nodup_nil (fun _ h => h.elim) with ⟨_, h7⟩ | ⟨v, h6, _⟩
  · exact h7.mono fun e w' ⟨v, he, hv, hu, _⟩ => ⟨v, he, hv, hu.below⟩
  · rw [MuLone.run_callFunc_enter hf.at_ hf.name hB _ _] at h6
    cases h6
/-- A result that is seen, cell by cell. -/
theorem vis_cells {X : Nat → Prop} {w : World} {m : Nm} : ∀ {xs : List AV} {ys : List Value}, VisL X w m xs ys → xs.all AV.pl0 = true → ys = xs.map fun x => match x with | .v v => v | _ => undef
  | [], ys, h, _ => List.eq_nil_of_length_eq_zero h.1.symm
  | x :: xs, [], h, _ => by have := h.1; simp at this
  | x :: xs, y :: ys, h, hp => by
    simp only [List.all_cons, Bool.and_eq_true] at hp
    have h0 := h.2 0 x y rfl rfl
    have ih := vis_cells (xs := xs) (ys := ys) ⟨by have := h.1; simpa using this, fun i a b h1 h2 => h.2 (i + 1) a b (by simpa using h1) (by simpa using h2)⟩ hp.2
    cases x <;> simp [AV.pl0] at hp
    rw [vis_v h0, List.map_cons, ← ih]
/-- A row of structures is a row of tuples. -/
theorem kdC_iso {α β : Type} {d : Kd β} {f : α → β} {w : World} {A : Option Addr} {l : List α} (h : (Kd.iso d f).C w A l.length l) : d.C w A (l.map f).length (l.map f) := by
  obtain ⟨_, h2, h3⟩ := h
  refine ⟨rfl, by rw [List.length_map]; exact h2, fun h0 => ?_⟩
  rw [List.length_map] at h0
  obtain ⟨ad, e, hr⟩ := h3 h0
  refine ⟨ad, e, fun j p hj => ?_⟩
  rw [List.getElem?_map] at hj
  obtain ⟨x, hx, rfl⟩ := Option.map_eq_some_iff.1 hj
  exact hr j x hx
def TB : List (Nat × TyI) := [
  (2, { size := 1, agg := false, bytes := 8, zero := [.int .i64 0], kind := .int .i64, code := some (.int .i64), eqn := 1 }),
  (3, { size := 1, agg := false, bytes := 8, zero := [.int .i64 0], kind := .int .i64, code := some (.int .i64), eqn := 1 }),
  (4, { size := 1, agg := false, bytes := 1, zero := [.bool false], kind := .bool, code := some .bool }),
  (5, { size := 1, agg := false, bytes := 1, zero := [.int .u8 0], kind := .int .u8, code := some (.int .u8), eqn := 1 }),
  (6, { size := 1, agg := false, bytes := 1, zero := [.int .u8 0], kind := .int .u8, code := some (.int .u8), eqn := 1 }),
  (7, { size := 4, agg := true, bytes := 24, zero := [.int .i64 0, .int .i64 0, .bool false, .int .u8 0], kind := .struct [(0, 1, false), (1, 1, false), (2, 1, false), (3, 1, false)], code := some (.pair (.int .i64) (.pair (.int .i64) (.pair .bool (.int .u8)))) }),
  (8, { size := 4, agg := true, bytes := 24, zero := [.int .i64 0, .int .i64 0, .bool false, .int .u8 0], kind := .struct [(0, 1, false), (1, 1, false), (2, 1, false), (3, 1, false)], code := some (.pair (.int .i64) (.pair (.int .i64) (.pair .bool (.int .u8)))) }),
  (12, { size := 1, agg := false, bytes := 8, zero := [.int .u64 0], kind := .int .u64, code := some (.int .u64), eqn := 1 }),
  (21, { size := 1, agg := false, bytes := 4, zero := [.int .i32 0], kind := .int .i32, code := some (.int .i32), eqn := 1 }),
  (22, { size := 1, agg := false, bytes := 24, zero := [.slice none 0 0], kind := .slice 5, code := some (.list 5 (.int .u8)) }),
  (24, { size := 2, agg := true, bytes := 16, zero := [.int .i64 0, .int .i64 0], kind := .struct [(0, 1, false), (1, 1, false)], code := some (.pair (.int .i64) (.int .i64)), eqn := 2 }),
  (25, { size := 2, agg := true, bytes := 16, zero := [.int .i64 0, .int .i64 0], kind := .struct [(0, 1, false), (1, 1, false)], code := some (.pair (.int .i64) (.int .i64)), eqn := 2 }),
  (36, { size := 4, agg := true, bytes := 32, zero := [.int .i64 0, .int .i64 0, .int .i64 0, .int .i64 0], kind := .struct [(0, 2, true), (2, 2, true)], code := some (.pair (.pair (.int .i64) (.int .i64)) (.pair (.int .i64) (.int .i64))), eqn := 4 }),
  (37, { size := 4, agg := true, bytes := 32, zero := [.int .i64 0, .int .i64 0, .int .i64 0, .int .i64 0], kind := .struct [(0, 2, true), (2, 2, true)], code := some (.pair (.pair (.int .i64) (.int .i64)) (.pair (.int .i64) (.int .i64))), eqn := 4 }),
  (46, { size := 1, agg := false, bytes := 24, zero := [.slice none 0 0], kind := .slice 25, code := some (.list 25 (.pair (.int .i64) (.int .i64))) }),
  (49, { size := 1, agg := false, bytes := 8, zero := [.int .u64 0], kind := .int .u64, code := some (.int .u64), eqn := 1 }),
  (50, { size := 3, agg := true, bytes := 40, zero := [.slice none 0 0, .int .i64 0, .int .u64 0], kind := .struct [(0, 1, false), (1, 1, false), (2, 1, false)], code := none }),
  (51, { size := 3, agg := true, bytes := 40, zero := [.slice none 0 0, .int .i64 0, .int .u64 0], kind := .struct [(0, 1, false), (1, 1, false), (2, 1, false)], code := none }),
  (59, { size := 1, agg := false, bytes := 24, zero := [.slice none 0 0], kind := .slice 3, code := some (.list 3 (.int .i64)) }),
  (61, { size := 3, agg := true, bytes := 24, zero := [.bool false, .int .u64 0, .int .u64 0], kind := .struct [(0, 1, false), (1, 1, false), (2, 1, false)], code := some (.pair .bool (.pair (.int .u64) (.int .u64))) }),
  (62, { size := 3, agg := true, bytes := 24, zero := [.bool false, .int .u64 0, .int .u64 0], kind := .struct [(0, 1, false), (1, 1, false), (2, 1, false)], code := some (.pair .bool (.pair (.int .u64) (.int .u64))) }),
  (67, { size := 1, agg := true, bytes := 1, zero := [.bool false], kind := .struct [(0, 1, false)], code := some .bool }),
  (68, { size := 1, agg := true, bytes := 1, zero := [.bool false], kind := .struct [(0, 1, false)], code := some .bool }),
  (89, { size := 1, agg := false, bytes := 8, zero := [.int .u64 0], kind := .int .u64, code := some (.int .u64), eqn := 1 }),
  (98, { size := 0, agg := true, bytes := 0, zero := [], kind := .arr 0 16, code := none }),
  (99, { size := 0, agg := true, bytes := 0, zero := [], kind := .struct [(0, 0, true)], code := none }),
  (100, { size := 0, agg := true, bytes := 0, zero := [], kind := .struct [(0, 0, true)], code := none }),
  (101, { size := 1, agg := false, bytes := 4, zero := [.int .u32 0], kind := .int .u32, code := some (.int .u32), eqn := 1 }),
  (102, { size := 1, agg := false, bytes := 1, zero := [.int .u8 0], kind := .int .u8, code := some (.int .u8), eqn := 1 }),
  (103, { size := 1, agg := false, bytes := 1, zero := [.int .u8 0], kind := .int .u8, code := some (.int .u8), eqn := 1 }),
  (106, { size := 1, agg := false, bytes := 4, zero := [.int .i32 0], kind := .int .i32, code := some (.int .i32), eqn := 1 }),
  (107, { size := 1, agg := false, bytes := 4, zero := [.int .i32 0], kind := .int .i32, code := some (.int .i32), eqn := 1 }),
  (112, { size := 1, agg := false, bytes := 24, zero := [.slice none 0 0], kind := .slice 46, code := some (.list 46 (.list 25 (.pair (.int .i64) (.int .i64)))) })]
theorem TB_ok : TabOk Try.prog TB := tab_of (by kernel_rfl)
theorem mixed_ : Try.prog.follows .mixedOrders = true := by kernel_rfl
end Go.Proofs.Ytneceomekgophaa.Ev
