import Derived.Test.YtneceomekgophaaEvSound3
set_option linter.unusedVariables false
set_option linter.unusedSimpArgs false
namespace Go.Proofs.Ytneceomekgophaa.Ev
open Go Go.RowKit Go.Proofs Go.Proofs.YtneceomekgophaaW.PrintWords Go.Proofs.YtneceomekgophaaW.PrintLast
section
variable {P : Program} {T : List (Nat × TyI)} {X0 : Nat → Prop} {gs : List Nat} {w0 w : World} {m : Nm} {s : St} {a : Act} {ρ : Type} {r : ρ}
/-! ### The worlds behind -/
theorem dec_any {c : RKc} : ∀ {F F' : Nat → Prop} {w w' : World} {x : c.T} {cs : List Value}, (c.noList = true) → Foot c F w x cs → Foot c F' w' x cs := by
  induction c with
  | int k => intro F F' w w' x cs _ h; exact h
  | bool => intro F F' w w' x cs _ h; exact h
  | pair a b ha hb =>
    intro F F' w w' x cs hn h
    simp only [RKc.noList, Bool.and_eq_true] at hn
    obtain ⟨c0, c1, e, h0, h1⟩ := h
    exact ⟨c0, c1, e, ha hn.1 h0, hb hn.2 h1⟩
  | list e c ih => intro F F' w w' x cs hn h; simp [RKc.noList] at hn
theorem OwnR.move {base e : Nat} {c : RKc} {xs : List c.T} {y : Value} {w' : World} (h : OwnR base w e c xs y) (hk : ∀ g, y.ownBlock = some g → w'.heap[g]? = w.heap[g]?) : OwnR base w' e c xs y := by
  obtain ⟨h1, inner, h2, h3, h4⟩ := h
  refine ⟨h1, inner, ⟨h2.1, ?_⟩, h3, h4.1, fun j p hj => dec_any h1 (h4.2 j p hj)⟩
  rcases h2.2 with h5 | ⟨g, cap, cur, h5, h6, h7, h8⟩
  · exact .inl h5
  · exact .inr ⟨g, cap, cur, h5, h6, (hk g (by rw [h5]; rfl)).trans h7, h8⟩
theorem OwnR.at {base e : Nat} {c : RKc} {xs : List c.T} {y : Value} (h : OwnR base w e c xs y) {g : Nat} (hg : y.ownBlock = some g) : base ≤ g ∧ g < w.heap.size := by
  obtain ⟨h1, inner, h2, h3, h4⟩ := h
  rcases h2.2 with ⟨h5, _⟩ | ⟨g', cap, cur, h5, h6, h7, h8⟩
  · rw [h5] at hg; cases hg
  · rw [h5] at hg
    simp only [Value.ownBlock, Option.some.injEq] at hg
    subst hg
    exact ⟨h6, (Array.getElem?_eq_some_iff.1 h7).1⟩
/-- A slice of one's own, read from here on. -/
theorem OwnR.row {base e : Nat} {c : RKc} {xs : List c.T} {y : Value} {X : Nat → Prop} (h : OwnR base w e c xs y) (hX : ∀ g, y.ownBlock = some g → ¬ X g) : Vis X w m (.row c xs) y := by
  obtain ⟨h1, inner, h2, h3, h4⟩ := h
  rcases h2.2 with ⟨h5, h6⟩ | ⟨g, cap, cur, h5, h6, h7, h8, h9, h10, h11⟩
  · have : Vis X w m (.row c xs) (.slice none xs.length 0) := .row ⟨by omega, fun _ => False, fun _ h => h.elim, h3, fun h0 => by omega⟩
    rw [h6] at this
    rw [h5]
    exact this
  · rw [h5]
    refine .row ⟨h8, fun k => k = g, fun k hk => ?_, h3, fun h0 => ⟨⟨g, 0, none⟩, rfl, rfl, fun j p hj => ⟨_, (h4.2 j p hj).len, dec_any h1 (h4.2 j p hj), fun i u hu => ?_⟩⟩⟩
    · subst hk
      exact ⟨(Array.getElem?_eq_some_iff.1 h7).1, hX k (by rw [h5]; rfl)⟩
    · have hadd : (⟨g, 0, none⟩ : Addr).add (j * c.sz + i) = ⟨g, j * c.sz + i, none⟩ := by unfold Addr.add; split <;> simp_all
      rw [hadd]
      rw [← h11] at hu
      simp only [List.getElem?_take, List.getElem?_drop] at hu
      split at hu
      · split at hu
        · simp only [World.cell?, h7]
          simpa using hu
        · cases hu
      · cases hu
theorem BlkOk.move {X X' : Nat → Prop} {base : Nat} {w' : World} {m' : Nm} {b : Nat} {cs : List AV} (h : BlkOk X base w m b cs) (hm : NLe m m') (hl : ∀ y, m b = some (.row y true) → m' b = some (.row y true))
    (hb : ∀ n g, m b = some n → n.holds g → w'.heap[g]? = w.heap[g]?) (hv : ∀ x y, Vis X w m x y → Vis X' w' m' x y) : BlkOk X' base w' m' b cs := by
  rcases h with h | ⟨e, c, xs, y, h1, h2, h3⟩ | ⟨g, ys, t, h1, h2, h3⟩
  · exact .inl h
  · exact .inr (.inl ⟨e, c, xs, y, h1, hl y h2, h3.move fun g hg => hb _ g h2 ⟨rfl, hg⟩⟩)
  · obtain ⟨n, h4, h5⟩ := hm b _ h1
    simp only [NV.le] at h5
    subst h5
    exact .inr (.inr ⟨g, ys, t, h4, (hb _ g h1 rfl).trans h2, h3.1, fun i x y q1 q2 => hv x y (h3.2 i x y q1 q2)⟩)
theorem Rel0.grow {w' : World} (h : Rel0 X0 gs w0 m s a w) (hu : Upd [] w w') : Rel0 X0 gs w0 m s a w' := by
  have hk : ∀ k, k < w.heap.size → w'.heap[k]? = w.heap[k]? := fun k hk => hu.block k hk (by simp)
  have mv : ∀ x y, Vis (XS X0 m) w m x y → Vis (XS X0 m) w' m x y := fun x y hv => hv.move' (fun k h _ => hk k h) (fun _ _ h => h) hu.size (NLe.refl m)
  refine ⟨h.defers, h.size, fun i x hi => ?_, fun b cs t hb => ?_, h.inj, fun b g hg => ?_, h.world.trans hu (by simp), h.out, h.nd, h.names, h.par, h.np⟩
  · obtain ⟨y, h1, h2⟩ := h.tmps i x hi
    exact ⟨y, h1, mv _ _ h2⟩
  · exact (h.blks b cs t hb).move (NLe.refl m) (fun _ h => h) (fun n g h1 h2 => hk g ((h.fresh b n h1).2 g h2).1) mv
  · obtain ⟨h1, h2⟩ := h.fresh b g hg
    exact ⟨h1, fun k hk => ⟨Nat.lt_of_lt_of_le (h2 k hk).1 hu.size, (h2 k hk).2⟩⟩
theorem Upd.drew (w : World) (n : Nat) : Upd [] w { w with drawn := n } := ⟨rfl, rfl, rfl, Nat.le_refl _, fun _ _ _ => rfl⟩
theorem Upd.alloc (w : World) (o : Obj) : Upd [] w (w.alloc o) := ⟨rfl, rfl, rfl, by simp, fun k hk _ => Below.heap_alloc w o k hk⟩
theorem mem_look : ∀ {l : List (Nat × List AV × Nat)} {b : Nat} {p : List AV × Nat}, look l b = some p → (b, p) ∈ l
  | [], _, _, h => by simp [look] at h
  | (n, q) :: r, b, p, h => by
    simp only [look] at h
    cases e : Nat.beq n b with
    | true =>
      rw [e] at h
      simp only [cond_true, Option.some.injEq] at h
      subst h
      rw [Nat.eq_of_beq_eq_true e]
      exact List.mem_cons_self
    | false =>
      rw [e] at h
      exact List.mem_cons_of_mem _ (mem_look (by simpa using h))
theorem look_mem : ∀ {l : List (Nat × List AV × Nat)} {b : Nat} {p : List AV × Nat}, (l.map (·.1)).Nodup → (b, p) ∈ l → look l b = some p
  | [], _, _, _, h => by simp at h
  | (n, q) :: r, b, p, hn, h => by
    simp only [List.map_cons, List.nodup_cons] at hn
    simp only [look]
    rcases List.mem_cons.1 h with h | h
    · injection h with h1 h2
      subst h1 h2
      simp
    · have : Nat.beq n b = false := by cases e : Nat.beq n b with
        | false => rfl
        | true => exact absurd (List.mem_map.2 ⟨(b, p), h, (Nat.eq_of_beq_eq_true e).symm⟩) hn.1
      rw [this]
      exact look_mem hn.2 h
/-- Behind what writes some of the blocks named. -/
theorem Rel0.upd (h : Rel0 X0 gs w0 m s a w) {w' : World} {bs : List Nat} {hs : List Nat} {l : List (Nat × List AV × Nat)} (hnd : l.map (·.1) = s.blks.map (·.1)) (hbs : ∀ g, g ∈ hs → ∃ b, b ∈ bs ∧ m b = some (.blk g)) (hu : Upd hs w w')
    (hl : ∀ b cs t, look l b = some (cs, t) → (b ∉ bs ∧ look s.blks b = some (cs, t)) ∨ (∃ g ys t', m b = some (.blk g) ∧ w'.heap[g]? = some (.cells ys t' (0, 0)) ∧ VisL (XS X0 m) w' m cs ys.toList)) :
    Rel0 X0 gs w0 m { s with blks := l } a w' := by
  have hk : ∀ k, k < w.heap.size → ¬ XS X0 m k → w'.heap[k]? = w.heap[k]? := fun k hk hx => hu.block k hk (fun hm => by
    obtain ⟨b, _, hb⟩ := hbs k hm
    exact hx (.inr ⟨b, _, hb, rfl⟩))
  have mv : ∀ x y, Vis (XS X0 m) w m x y → Vis (XS X0 m) w' m x y := fun x y hv => hv.move' hk (fun _ _ h => h) hu.size (NLe.refl m)
  refine ⟨h.defers, h.size, fun i x hi => ?_, fun b cs t hb => ?_, h.inj, fun b g hg => ?_, h.world.trans hu (fun x hx => ?_), h.out, hnd ▸ h.nd, fun p hp => ?_, h.par, h.np⟩
  · obtain ⟨y, h1, h2⟩ := h.tmps i x hi
    exact ⟨y, h1, mv _ _ h2⟩
  · rcases hl b cs t hb with ⟨hnb, hb'⟩ | hb'
    · refine (h.blks b cs t hb').move (NLe.refl m) (fun _ h => h) (fun n g h1 h2 => hu.block g ((h.fresh b n h1).2 g h2).1 fun hg => ?_) mv
      obtain ⟨b', hb1, hb2⟩ := hbs g hg
      exact hnb (h.inj b b' n _ g h1 hb2 h2 rfl ▸ hb1)
    · exact .inr (.inr hb')
  · obtain ⟨q1, q2⟩ := h.fresh b g hg
    exact ⟨q1, fun k hk => ⟨Nat.lt_of_lt_of_le (q2 k hk).1 hu.size, (q2 k hk).2⟩⟩
  · obtain ⟨b, _, hb⟩ := hbs x hx
    exact ((h.fresh b _ hb).2 x rfl).2
  · have : p.1 ∈ s.blks.map (·.1) := hnd ▸ List.mem_map.2 ⟨p, hp, rfl⟩
    obtain ⟨q, hq1, hq2⟩ := List.mem_map.1 this
    have := h.names q hq1
    simp only at hq2 ⊢
    omega
theorem look_set : ∀ (l : List (Nat × List AV × Nat)) (b : Nat) (ds : List AV) (b' : Nat), look (setBlk l b ds) b' = if b' = b then (look l b).map (fun p => (ds, p.2)) else look l b'
  | [], b, ds, b' => by simp [setBlk, look]
  | (n, cs, t) :: r, b, ds, b' => by
    simp only [setBlk]
    cases e : Nat.beq n b with
    | true =>
      have en := Nat.eq_of_beq_eq_true e
      subst en
      simp only [cond_true, look]
      by_cases eb : b' = n
      · subst eb; simp
      · have : Nat.beq n b' = false := by cases q : Nat.beq n b' with
          | false => rfl
          | true => exact absurd (Nat.eq_of_beq_eq_true q).symm eb
        simp [this, eb]
    | false =>
      simp only [cond_false, look]
      by_cases eb : b' = b
      · subst eb
        simp only [e, cond_false, if_true]
        rw [look_set r b' ds b']
        simp
      · cases q : Nat.beq n b' with
        | true => simp [eb]
        | false => simp only [cond_false, if_neg eb]; rw [look_set r b ds b', if_neg eb]
theorem set_fst : ∀ (l : List (Nat × List AV × Nat)) (b : Nat) (ds : List AV), (setBlk l b ds).map (·.1) = l.map (·.1)
  | [], _, _ => rfl
  | (n, cs, t) :: r, b, ds => by
    simp only [setBlk]
    cases Nat.beq n b with
    | true => rfl
    | false => simp only [cond_false, List.map_cons, set_fst r b ds]
theorem sets_fst : ∀ {bs : List Nat} {outs : List (List AV)} {l l' : List (Nat × List AV × Nat)}, setBlks l bs outs = some l' → l'.map (·.1) = l.map (·.1)
  | [], [], l, l', h => by simp only [setBlks, Option.some.injEq] at h; rw [h]
  | [], _ :: _, _, _, h => by simp [setBlks] at h
  | _ :: _, [], _, _, h => by simp [setBlks] at h
  | b :: bs, ds :: outs, l, l', h => by
    simp only [setBlks] at h
    rw [sets_fst h, set_fst]
/-! ### Calls -/
def ArgsOk (X : Nat → Prop) (w : World) : List Arg → List Value → List Nat → Prop
  | [], [], [] => True
  | .val x :: xs, y :: ys, gs => (x.bound 0 = true ∧ Vis X w Nm.none x y) ∧ ArgsOk X w xs ys gs
  | .blk cs :: xs, y :: ys, g :: gs => (y = .pointer (some ⟨g, 0, none⟩) ∧ X g ∧ cs.all (AV.b1 0) = true ∧ ∃ zs t, w.heap[g]? = some (.cells zs t (0, 0)) ∧ VisL X w Nm.none cs zs.toList) ∧ ArgsOk X w xs ys gs
  | _, _, _ => False
def OutsOk (X : Nat → Prop) (w : World) : List (List AV) → List Nat → Prop
  | [], [] => True
  | cs :: r, g :: gs => (cs.all (AV.b1 0) = true ∧ ∃ zs t, w.heap[g]? = some (.cells zs t (0, 0)) ∧ VisL X w Nm.none cs zs.toList) ∧ OutsOk X w r gs
  | _, _ => False
/-- A function that is entered, or one of the model's own. -/
def Goes (P : Program) (f : Nat) (vals : Array Value) (w : World) (R : Value → World → Prop) : Prop :=
  ((callFunc f vals).run P w = .ok (.enter f vals) w ∧ Calls P f vals w fun e w' => ∃ v, e = .returned v ∧ R v w') ∨ (∃ v, (callFunc f vals).run P w = .ok (.value v) w ∧ R v w)
def OkC (P : Program) (f : Nat) (W : CallW ρ) : Prop :=
  ∃ M : List Arg → Option (AV × List (List AV)), (∀ xs K, W xs K = (M xs).bind fun p => K p.1 p.2) ∧
    ∀ (xs : List Arg) (ret : AV) (outs : List (List AV)), M xs = some (ret, outs) → ∀ (X : Nat → Prop) (w : World) (vals : List Value) (gs : List Nat), ArgsOk X w xs vals gs → gs.Nodup → (∀ k, X k → k < w.heap.size) →
      Goes P f vals.toArray w fun v w' => Vis X w' (fun _ => none) ret v ∧ Upd gs w w' ∧ OutsOk X w' outs gs
theorem OkC.out {P : Program} {f : Nat} {W : CallW ρ} (h : OkC P f W) {xs : List Arg} {K : AV → List (List AV) → Option ρ} {r : ρ} (hw : W xs K = some r) :
    ∃ ret outs, K ret outs = some r ∧ ∀ (X : Nat → Prop) (w : World) (vals : List Value) (gs : List Nat), ArgsOk X w xs vals gs → gs.Nodup → (∀ k, X k → k < w.heap.size) →
      Goes P f vals.toArray w fun v w' => Vis X w' (fun _ => none) ret v ∧ Upd gs w w' ∧ OutsOk X w' outs gs := by
  obtain ⟨M, h1, h2⟩ := h
  rw [h1] at hw
  obtain ⟨⟨ret, outs⟩, h3, h4⟩ := Option.bind_eq_some_iff.mp hw
  exact ⟨ret, outs, h4, h2 xs ret outs h3⟩
def EnvOk (P : Program) (C : List (Nat × CallW ρ)) : Prop := ∀ f W, look C f = some W → OkC P f W
theorem Vis.bare {X : Nat → Prop} {x : AV} {y : Value} (h : Vis X w m x y) (hb : x.bound 0 = true) : Vis X w Nm.none x y :=
  h.move (n := 0) (fun _ _ _ => rfl) (fun _ _ h => h) (Nat.le_refl _) hb (fun b g hlt _ => by omega)
theorem VisL.bare {X : Nat → Prop} {xs : List AV} {ys : List Value} (h : VisL X w m xs ys) (hb : xs.all (AV.b1 0) = true) : VisL X w Nm.none xs ys :=
  ⟨h.1, fun i x y h1 h2 => (h.2 i x y h1 h2).move1 (n := 0) (fun _ _ _ => rfl) (fun _ _ h => h) (Nat.le_refl _) (all_at hb i x h1) (fun b g hlt _ => by omega)⟩
theorem Vis.name {X : Nat → Prop} {x : AV} {y : Value} (h : Vis X w Nm.none x y) : Vis X w m x y :=
  h.move' (fun _ _ _ => rfl) (fun _ _ h => h) (Nat.le_refl _) (fun b g hb => by cases hb)
/-- Names whose slices are one's own no more. -/
def kill (fs : List Nat) (m : Nm) : Nm := fun b => match m b with
  | some (.row y l) => some (.row y (l && !(fs.any (Nat.beq b))))
  | x => x
theorem any_mem {fs : List Nat} {b : Nat} : fs.any (Nat.beq b) = true ↔ b ∈ fs := by
  rw [List.any_eq_true]
  constructor
  · rintro ⟨x, hx, e⟩; rw [Nat.eq_of_beq_eq_true e]; exact hx
  · intro h; exact ⟨b, h, by simp⟩
theorem kill_le (fs : List Nat) (m : Nm) : NLe m (kill fs m) := fun b n hb => by
  unfold kill
  rw [hb]
  cases n with
  | blk g => exact ⟨_, rfl, rfl⟩
  | row y l => exact ⟨_, rfl, _, rfl⟩
theorem kill_of {fs : List Nat} {m : Nm} {b : Nat} {n : NV} (h : kill fs m b = some n) : ∃ n', m b = some n' ∧ n'.le n ∧ ∀ g, n.holds g → n'.holds g ∧ n' = n ∧ (b ∈ fs → ∃ g, n = .blk g) := by
  unfold kill at h
  split at h
  · rename_i y l hy
    simp only [Option.some.injEq] at h
    subst h
    refine ⟨_, hy, ⟨_, rfl⟩, fun g hg => ?_⟩
    simp only [NV.holds, Bool.and_eq_true, Bool.not_eq_true'] at hg
    obtain ⟨⟨h1, h2⟩, h3⟩ := hg
    subst h1
    exact ⟨⟨rfl, h3⟩, by rw [h2]; rfl, fun hm => by rw [any_mem.2 hm] at h2; cases h2⟩
  · rename_i x hx
    refine ⟨n, h, n.le_refl, fun g hg => ⟨hg, rfl, fun _ => ?_⟩⟩
    cases n with
    | blk g => exact ⟨g, rfl⟩
    | row y l => exact absurd h (hx y l)
theorem kill_X {fs : List Nat} {k : Nat} (h : XS X0 (kill fs m) k) : XS X0 m k := by
  rcases h with h | ⟨b, n, hb, hn⟩
  · exact .inl h
  · obtain ⟨n', h1, _, h2⟩ := kill_of hb
    exact .inr ⟨b, n', h1, (h2 k hn).1⟩
theorem look_ends : ∀ (fs : List Nat) (l : List (Nat × List AV × Nat)) (b : Nat) (cs : List AV) (t : Nat), look (ends l fs) b = some (cs, t) → (b ∈ fs ∧ cs = []) ∨ (b ∉ fs ∧ look l b = some (cs, t))
  | [], l, b, cs, t, h => .inr ⟨by simp, h⟩
  | f :: fs, l, b, cs, t, h => by
    rcases look_ends fs _ b cs t h with ⟨h1, h2⟩ | ⟨h1, h2⟩
    · exact .inl ⟨List.mem_cons_of_mem _ h1, h2⟩
    · rw [look_set] at h2
      by_cases e : b = f
      · rw [if_pos e] at h2
        obtain ⟨p, hp, hp2⟩ := Option.map_eq_some_iff.1 h2
        simp only [Prod.mk.injEq] at hp2
        exact .inl ⟨by rw [e]; exact List.mem_cons_self, hp2.1.symm⟩
      · rw [if_neg e] at h2
        exact .inr ⟨by simp [e, h1], h2⟩
theorem ends_fst : ∀ (fs : List Nat) (l : List (Nat × List AV × Nat)), (ends l fs).map (·.1) = l.map (·.1)
  | [], _ => rfl
  | f :: fs, l => by rw [ends, ends_fst fs, set_fst]
theorem names_of {l l' : List (Nat × List AV × Nat)} {n : Nat} (h : l.map (·.1) = l'.map (·.1)) (hn : ∀ p ∈ l', p.1 < n) : ∀ p ∈ l, p.1 < n := fun p hp => by
  have : p.1 ∈ l'.map (·.1) := h ▸ List.mem_map.2 ⟨p, hp, rfl⟩
  obtain ⟨q, hq1, hq2⟩ := List.mem_map.1 this
  exact hq2 ▸ hn q hq1
theorem Rel0.kill (h : Rel0 X0 gs w0 m s a w) (fs : List Nat) : Rel0 X0 gs w0 (kill fs m) { s with blks := ends s.blks fs } a w := by
  have mv : ∀ x y, Vis (XS X0 m) w m x y → Vis (XS X0 (Ev.kill fs m)) w (Ev.kill fs m) x y := fun x y hv => hv.move' (fun _ _ _ => rfl) (fun _ _ h => kill_X h) (Nat.le_refl _) (kill_le fs m)
  refine ⟨h.defers, h.size, fun i x hi => ?_, fun b cs t hb => ?_, fun b b' n n' g hb hb' hn hn' => ?_, fun b n hb => ?_, h.world, h.out, (by simp only [ends_fst]; exact h.nd), names_of (ends_fst fs _) h.names, fun b n g hb hg => ?_, h.np⟩
  · obtain ⟨y, h1, h2⟩ := h.tmps i x hi
    exact ⟨y, h1, mv _ _ h2⟩
  · rcases look_ends fs _ b cs t hb with ⟨h1, h2⟩ | ⟨h1, h2⟩
    · exact .inl h2
    · refine (h.blks b cs t h2).move (kill_le fs m) (fun y hy => ?_) (fun _ _ _ _ => rfl) mv
      have : fs.any (Nat.beq b) = false := by
        cases e : fs.any (Nat.beq b) with
        | false => rfl
        | true => exact absurd (any_mem.1 e) h1
      simp [Ev.kill, hy, this]
  · obtain ⟨n1, q1, _, q2⟩ := kill_of hb
    obtain ⟨n2, q3, _, q4⟩ := kill_of hb'
    exact h.inj b b' n1 n2 g q1 q3 (q2 g hn).1 (q4 g hn').1
  · obtain ⟨n1, q1, _, q2⟩ := kill_of hb
    obtain ⟨z1, z2⟩ := h.fresh b n1 q1
    exact ⟨z1, fun k hk => z2 k (q2 k hk).1⟩
  · obtain ⟨n1, q1, q2, _⟩ := kill_of hb
    rw [h.par b n1 g q1 hg] at q2
    exact q2
/-- What was one's own is no more where slices may not lie. -/
theorem Rel0.killed (h : Rel0 X0 gs w0 m s a w) {fs : List Nat} {b : Nat} {y : Value} (hb : m b = some (.row y true)) (hf : b ∈ fs) {base e : Nat} {c : RKc} {xs : List c.T} (ho : OwnR w0.heap.size w e c xs y) : ∀ g, y.ownBlock = some g → ¬ XS X0 (Ev.kill fs m) g := by
  rintro g hg (hx | ⟨b', n, h1, h2⟩)
  · have := h.out g hx
    have := (ho.at hg).1
    omega
  · obtain ⟨n', q1, q2, q3⟩ := kill_of h1
    obtain ⟨z1, z2, z3⟩ := q3 g h2
    have : b = b' := h.inj b b' _ n' g hb q1 ⟨rfl, hg⟩ z1
    subst this
    obtain ⟨g', rfl⟩ := z3 hf
    rw [hb] at q1
    subst z2
    cases q1
/-- A name anew: for a variable's block, or for a slice of one's own; others may end (bs), and their blocks (hs) be written. -/
theorem Rel0.name {nb : Nat} (bs hs : List Nat) (hfree : m nb = none) (hin : ∀ p ∈ s.blks, p.1 ≠ nb) (hgs : gs.length ≤ nb) (h : Rel0 X0 gs w0 m s a w) {w' : World} (hu : Upd hs w w')
    (hhs : ∀ g ∈ hs, ∃ b ∈ bs, ∃ y, m b = some (.row y true) ∧ y.ownBlock = some g) {nv : NV} {cs : List AV} {t : Nat}
    (hnv : ∀ k, nv.holds k → k < w'.heap.size ∧ (w.heap.size ≤ k ∨ ∃ b ∈ bs, ∃ y, m b = some (.row y true) ∧ y.ownBlock = some k))
    (hok : ∀ m' : Nm, NLe m m' → m' nb = some nv → (∀ x y, Vis (XS X0 m) w m x y → Vis (XS X0 m') w' m' x y) → BlkOk (XS X0 m') w0.heap.size w' m' nb cs) :
    Rel0 X0 gs w0 (fun b => cond (Nat.beq b nb) (some nv) (Ev.kill bs m b)) { s with blks := (nb, cs, t) :: ends s.blks bs, next := max s.next (nb + 1) } a w' := by
  have hne : ∀ b n, m b = some n → Nat.beq b nb = false := fun b n hb => by
    cases e : Nat.beq b nb with
    | false => rfl
    | true => rw [Nat.eq_of_beq_eq_true e, hfree] at hb; cases hb
  have hm0 : ∀ b n, Ev.kill bs m b = some n → (fun b => cond (Nat.beq b nb) (some nv) (Ev.kill bs m b)) b = some n := fun b n hb => by
    obtain ⟨n', h1, _⟩ := kill_of hb
    simp only [hne b n' h1, cond_false]; exact hb
  have hm' : ∀ b n, (fun b => cond (Nat.beq b nb) (some nv) (Ev.kill bs m b)) b = some n → (b = nb ∧ n = nv) ∨ Ev.kill bs m b = some n := fun b g hb => by
    simp only at hb
    cases e : Nat.beq b nb with
    | false => rw [e] at hb; exact .inr hb
    | true => rw [e] at hb; simp only [cond_true, Option.some.injEq] at hb; exact .inl ⟨Nat.eq_of_beq_eq_true e, hb.symm⟩
  have hm : NLe m (fun b => cond (Nat.beq b nb) (some nv) (Ev.kill bs m b)) := fun b n hb => by
    obtain ⟨n', h1, h2⟩ := kill_le bs m b n hb
    exact ⟨n', hm0 b n' h1, h2⟩
  have hk : ∀ k, k < w.heap.size → ¬ XS X0 m k → w'.heap[k]? = w.heap[k]? := fun k hk hx => hu.block k hk fun hm => by
    obtain ⟨b, _, y, h1, h2⟩ := hhs k hm
    exact hx (.inr ⟨b, _, h1, rfl, h2⟩)
  have hX : ∀ k, k < w.heap.size → XS X0 (fun b => cond (Nat.beq b nb) (some nv) (Ev.kill bs m b)) k → XS X0 m k := fun k hlt hx => by
    rcases hx with hx | ⟨b, n, hb, hn⟩
    · exact .inl hx
    · rcases hm' b n hb with ⟨_, e⟩ | e
      · subst e
        rcases (hnv k hn).2 with h1 | ⟨b', _, y, h1, h2⟩
        · omega
        · exact .inr ⟨b', _, h1, rfl, h2⟩
      · exact kill_X (.inr ⟨b, n, e, hn⟩)
  have mv : ∀ x y, Vis (XS X0 m) w m x y → Vis (XS X0 (fun b => cond (Nat.beq b nb) (some nv) (Ev.kill bs m b))) w' (fun b => cond (Nat.beq b nb) (some nv) (Ev.kill bs m b)) x y :=
    fun x y hv => hv.move' hk hX hu.size hm
  refine ⟨h.defers, h.size, fun i x hi => ?_, fun b ds t1 hb => ?_, fun b b' n n' g hb hb' hn hn' => ?_, fun b n hn => ?_, h.world.trans hu (fun x hx => ?_), h.out, List.nodup_cons.2 ⟨fun hm => ?_, by rw [ends_fst]; exact h.nd⟩, fun p hp => ?_, fun b n g' hb hg => ?_, h.np.1, Nat.le_trans h.np.2 (Nat.le_max_left _ _)⟩
  · obtain ⟨y, h1, h2⟩ := h.tmps i x hi
    exact ⟨y, h1, mv _ _ h2⟩
  · simp only [look] at hb
    cases e : Nat.beq nb b with
    | true =>
      rw [e] at hb
      simp only [cond_true, Option.some.injEq, Prod.mk.injEq] at hb
      obtain ⟨rfl, rfl⟩ := hb
      have eb := Nat.eq_of_beq_eq_true e
      subst eb
      exact hok _ hm (by simp) mv
    | false =>
      rw [e] at hb
      rcases look_ends bs _ b ds t1 (by simpa using hb) with ⟨h1, h2⟩ | ⟨h1, h2⟩
      · exact .inl h2
      · refine (h.blks b ds t1 h2).move hm (fun y hy => hm0 _ _ ?_) (fun n g q1 q2 => hu.block g ((h.fresh b n q1).2 g q2).1 fun hg => ?_) mv
        · have : bs.any (Nat.beq b) = false := by
            cases e : bs.any (Nat.beq b) with
            | false => rfl
            | true => exact absurd (any_mem.1 e) h1
          simp [Ev.kill, hy, this]
        · obtain ⟨b', hb1, y, hb2, hb3⟩ := hhs g hg
          exact h1 (h.inj b b' n _ g q1 hb2 q2 ⟨rfl, hb3⟩ ▸ hb1)
  · have key : ∀ (b : Nat) (n : NV), Ev.kill bs m b = some n → n.holds g → nv.holds g → False := fun b n hb hn hv => by
      obtain ⟨n1, q1, _, q2⟩ := kill_of hb
      obtain ⟨z1, z2, z3⟩ := q2 g hn
      rcases (hnv g hv).2 with h1 | ⟨b', hb', y, h1, h2⟩
      · have := ((h.fresh b n1 q1).2 g z1).1; omega
      · have : b' = b := h.inj b' b _ n1 g h1 q1 ⟨rfl, h2⟩ z1
        subst this
        obtain ⟨g', rfl⟩ := z3 hb'
        subst z2
        rw [h1] at q1
        cases q1
    rcases hm' b n hb with ⟨e1, e2⟩ | e1
    · rcases hm' b' n' hb' with ⟨e3, e4⟩ | e3
      · rw [e1, e3]
      · subst e2; exact (key b' n' e3 hn' hn).elim
    · rcases hm' b' n' hb' with ⟨e3, e4⟩ | e3
      · subst e4; exact (key b n e1 hn hn').elim
      · obtain ⟨n1, q1, _, q2⟩ := kill_of e1
        obtain ⟨n2, q3, _, q4⟩ := kill_of e3
        exact h.inj b b' n1 n2 g q1 q3 (q2 g hn).1 (q4 g hn').1
  · rcases hm' b n hn with ⟨e1, e2⟩ | e1
    · subst e1 e2
      refine ⟨by simp only; omega, fun k hk => ⟨(hnv k hk).1, ?_⟩⟩
      rcases (hnv k hk).2 with h1 | ⟨b', _, y, h1, h2⟩
      · exact .inr (Nat.le_trans h.world.size h1)
      · exact ((h.fresh b' _ h1).2 k ⟨rfl, h2⟩).2
    · obtain ⟨n1, z1, _, z2⟩ := kill_of e1
      obtain ⟨q1, q2⟩ := h.fresh b n1 z1
      exact ⟨by simp only; omega, fun k hk => ⟨Nat.lt_of_lt_of_le (q2 k (z2 k hk).1).1 hu.size, (q2 k (z2 k hk).1).2⟩⟩
  · obtain ⟨b', _, y, h1, h2⟩ := hhs x hx
    exact ((h.fresh b' _ h1).2 x ⟨rfl, h2⟩).2
  · obtain ⟨p, hp1, hp2⟩ := List.mem_map.1 hm
    have : p.1 ∈ s.blks.map (·.1) := (ends_fst bs s.blks) ▸ List.mem_map.2 ⟨p, hp1, rfl⟩
    obtain ⟨q, hq1, hq2⟩ := List.mem_map.1 this
    exact hin q hq1 (hq2.trans hp2)
  · rcases List.mem_cons.1 hp with rfl | hp
    · simp only; omega
    · have := names_of (ends_fst bs _) h.names p hp
      simp only; omega
  · rcases hm' b n hb with ⟨e1, e2⟩ | e1
    · have := (List.getElem?_eq_some_iff.1 hg).1
      omega
    · obtain ⟨n1, q1, q2, _⟩ := kill_of e1
      rw [h.par b n1 g' q1 hg] at q2
      exact q2
theorem dec_foot {X F : Nat → Prop} {w' : World} : ∀ {c : RKc} {l : List AV} {x : c.T} {rest : List AV} {ys : List Value}, c.noList = true → c.dec l = some (x, rest) → VisL X w m l ys →
    ∃ cs ys', ys = cs ++ ys' ∧ Foot c F w' x cs ∧ VisL X w m rest ys'
  | .int k, l, x, rest, ys, _, h, hv => by
    cases l with
    | nil => simp [RKc.dec] at h
    | cons u r' =>
      cases u with
      | v u =>
        cases u with
        | int k' n =>
          simp only [RKc.dec] at h
          split at h
          · rename_i hk
            subst hk
            simp only [Option.some.injEq, Prod.mk.injEq] at h
            obtain ⟨rfl, rfl⟩ := h
            cases ys with
            | nil => have := hv.1; simp at this
            | cons y ys =>
              have := vis_v (hv.2 0 _ y rfl rfl)
              subst this
              exact ⟨[.int k n], ys, rfl, rfl, by have := hv.1; simpa using this, fun i x y q1 q2 => hv.2 (i + 1) x y (by simpa using q1) (by simpa using q2)⟩
          · cases h
        | _ => simp [RKc.dec] at h
      | _ => simp [RKc.dec] at h
  | .bool, l, x, rest, ys, _, h, hv => by
    cases l with
    | nil => simp [RKc.dec] at h
    | cons u r' =>
      cases u with
      | v u =>
        cases u with
        | bool b =>
          simp only [RKc.dec, Option.some.injEq, Prod.mk.injEq] at h
          obtain ⟨rfl, rfl⟩ := h
          cases ys with
          | nil => have := hv.1; simp at this
          | cons y ys =>
            have := vis_v (hv.2 0 _ y rfl rfl)
            subst this
            exact ⟨[.bool b], ys, rfl, rfl, by have := hv.1; simpa using this, fun i x y q1 q2 => hv.2 (i + 1) x y (by simpa using q1) (by simpa using q2)⟩
        | _ => simp [RKc.dec] at h
      | _ => simp [RKc.dec] at h
  | .pair c d, l, x, rest, ys, hn, h, hv => by
    simp only [RKc.noList, Bool.and_eq_true] at hn
    simp only [RKc.dec] at h
    split at h
    · rename_i x1 r1 h1
      split at h
      · rename_i x2 r2 h2
        simp only [Option.some.injEq, Prod.mk.injEq] at h
        obtain ⟨rfl, rfl⟩ := h
        obtain ⟨c0, y0, rfl, f0, v0⟩ := dec_foot hn.1 h1 hv
        obtain ⟨c1, y1, rfl, f1, v1⟩ := dec_foot hn.2 h2 v0
        exact ⟨c0 ++ c1, y1, by simp, ⟨c0, c1, rfl, f0, f1⟩, v1⟩
      · cases h
    · cases h
  | .list e c, l, x, rest, ys, hn, h, hv => by simp [RKc.noList] at hn
theorem Foot.widen : ∀ {c : RKc} {F F' : Nat → Prop} {w : World} {x : c.T} {cs : List Value}, (∀ k, F k → F' k) → Foot c F w x cs → Foot c F' w x cs
  | .int _, _, _, _, _, _, _, h => h
  | .bool, _, _, _, _, _, _, h => h
  | .pair a b, _, _, _, _, _, hf, h => by
    obtain ⟨c0, c1, rfl, h0, h1⟩ := h
    exact ⟨c0, c1, rfl, h0.widen hf, h1.widen hf⟩
  | .list _ c, F, F', w, xs, _, hf, h => by
    obtain ⟨A, cap, rfl, hl, hm, hc⟩ := h
    refine ⟨A, cap, rfl, hl, hm, fun h0 => ?_⟩
    obtain ⟨ad, e, hF, hr⟩ := hc h0
    refine ⟨ad, e, hf _ hF, fun j p hj => ?_⟩
    obtain ⟨q, h1, h2, h3⟩ := hr j p hj
    exact ⟨q, h1, h2.widen hf, h3⟩
/-- A variable's cells, read as an element. -/
theorem dec_footL {X : Nat → Prop} : ∀ {c : RKc} {l : List AV} {x : c.T} {rest : List AV} {ys : List Value}, c.dec l = some (x, rest) → VisL X w m l ys →
    ∃ cs ys' F, ys = cs ++ ys' ∧ (∀ k, F k → k < w.heap.size ∧ ¬ X k) ∧ Foot c F w x cs ∧ VisL X w m rest ys'
  | .int k, l, x, rest, ys, h, hv => by
    obtain ⟨cs, ys', h1, h2, h3⟩ := dec_foot (F := fun _ => False) (w' := w) (c := .int k) rfl h hv
    exact ⟨cs, ys', _, h1, fun k hk => hk.elim, h2, h3⟩
  | .bool, l, x, rest, ys, h, hv => by
    obtain ⟨cs, ys', h1, h2, h3⟩ := dec_foot (F := fun _ => False) (w' := w) (c := .bool) rfl h hv
    exact ⟨cs, ys', _, h1, fun k hk => hk.elim, h2, h3⟩
  | .pair c d, l, x, rest, ys, h, hv => by
    simp only [RKc.dec] at h
    split at h
    · rename_i x1 r1 h1
      split at h
      · rename_i x2 r2 h2
        simp only [Option.some.injEq, Prod.mk.injEq] at h
        obtain ⟨rfl, rfl⟩ := h
        obtain ⟨c0, y0, F0, rfl, g0, f0, v0⟩ := dec_footL h1 hv
        obtain ⟨c1, y1, F1, rfl, g1, f1, v1⟩ := dec_footL h2 v0
        exact ⟨c0 ++ c1, y1, fun k => F0 k ∨ F1 k, by simp, fun k hk => hk.elim (g0 k) (g1 k), ⟨c0, c1, rfl, f0.widen fun _ => .inl, f1.widen fun _ => .inr⟩, v1⟩
      · cases h
    · cases h
  | .list e c, l, x, rest, ys, h, hv => by
    cases l with
    | nil => simp [RKc.dec] at h
    | cons u r' =>
      cases u
      case row c' xs =>
        simp only [RKc.dec] at h
        split at h
        · rename_i hc
          subst hc
          simp only [Option.some.injEq, Prod.mk.injEq] at h
          obtain ⟨rfl, rfl⟩ := h
          cases ys with
          | nil => have := hv.1; simp at this
          | cons y ys =>
            obtain ⟨A, cap, rfl, hcap, F, hF, hR⟩ := vis_row (hv.2 0 _ y rfl rfl)
            exact ⟨[.slice A xs.length cap], ys, F, rfl, hF, ⟨A, cap, rfl, hcap, hR⟩, by have := hv.1; simpa using this, fun i x y q1 q2 => hv.2 (i + 1) x y (by simpa using q1) (by simpa using q2)⟩
        · cases h
      all_goals simp [RKc.dec] at h
/-- Where what a callee is handed may not lie: what it may write, and what is not its own; but not the blocks it reads alone. -/
def XR (X0 : Nat → Prop) (m : Nm) (rs : List Nat) (g : Nat) : Prop := XS X0 m g ∧ ∀ b ∈ rs, m b ≠ some (.blk g)
theorem kill_blk {fs : List Nat} {b g : Nat} (h : m b = some (.blk g)) : Ev.kill fs m b = some (.blk g) := by simp [Ev.kill, h]
theorem args_sound (h : Rel0 X0 gs w0 m s a w) {ks ro : List Nat} : ∀ {xs : List Operand} {ts : List Nat} {as_ : List Arg} {bs fs rs : List Nat}, argsOf T s xs ts = some (as_, bs, fs, rs) → (∀ f ∈ fs, f ∈ ks) → (∀ b ∈ rs, b ∈ ro) → (∀ b ∈ bs, b ∉ ro) →
    ∃ hs : List Nat, ArgsOk (XR X0 (Ev.kill ks m) ro) w as_ (xs.map a.eval) hs ∧ bs.map m = hs.map fun g => some (.blk g)
  | [], ts, as_, bs, fs, rs, hx, hf, hr0, hb0 => by
    simp only [argsOf, Option.some.injEq, Prod.mk.injEq] at hx
    obtain ⟨rfl, rfl, rfl, rfl⟩ := hx
    exact ⟨[], trivial, rfl⟩
  | x :: r, ts, as_, bs, fs, rs, hx, hf, hr0, hb0 => by
    have mv : ∀ x y, Vis (XS X0 m) w m x y → Vis (XR X0 (Ev.kill ks m) ro) w (Ev.kill ks m) x y := fun x y hv => hv.move' (fun _ _ _ => rfl) (fun _ _ h => kill_X h.1) (Nat.le_refl _) (kill_le ks m)
    unfold argsOf at hx
    split at hx
    · rename_i xs' bs' fs' rs' hr
      split at hx
      · rename_i b c he hro
        split at hx
        · rename_i cs t hb
          split at hx
          · rename_i z hdec
            simp only [Option.some.injEq, Prod.mk.injEq] at hx
            obtain ⟨rfl, rfl, rfl, rfl⟩ := hx
            obtain ⟨hs, h1, h2⟩ := args_sound h hr hf (fun b hb => hr0 b (List.mem_cons_of_mem _ hb)) hb0
            obtain ⟨g, hg, hy⟩ := vis_ptr (ev_sound h he)
            obtain ⟨g', zs, t', hg', hh, hv⟩ := h.var hb
            have : g' = g := by rw [hg] at hg'; injection hg' with e; injection e with e; exact e.symm
            subst this
            obtain ⟨ys, rest, F, e1, e2, e3, e4⟩ := dec_footL hdec hv
            have hrest : rest = [] := List.eq_nil_of_length_eq_zero e4.1.symm
            subst hrest
            rw [List.append_nil] at e1
            refine ⟨hs, ⟨⟨rfl, ?_⟩, h1⟩, h2⟩
            rw [hy]
            refine .elem ⟨fun k => F k ∨ k = g', fun k hk => ?_, .inr rfl, ys, e3.widen fun _ => .inl, fun j u hu => ?_⟩
            · rcases hk with hk | rfl
              · exact ⟨(e2 k hk).1, fun hx => (e2 k hk).2 (kill_X hx.1)⟩
              · exact ⟨((h.fresh b _ hg).2 _ rfl).1, fun hx => hx.2 b (hr0 b List.mem_cons_self) (kill_blk hg)⟩
            · rw [← e1] at hu
              exact cells_at g' 0 hh j u (by simpa using hu)
          · cases hx
        · cases hx
      · rename_i b he hro
        split at hx
        · rename_i cs t hb
          cases hc : cs.all (AV.b1 0) with
          | false => rw [hc] at hx; cases hx
          | true =>
            rw [hc] at hx
            simp only [cond_true, Option.some.injEq, Prod.mk.injEq] at hx
            obtain ⟨rfl, rfl, rfl, rfl⟩ := hx
            obtain ⟨hs, h1, h2⟩ := args_sound h hr hf hr0 (fun b hb => hb0 b (List.mem_cons_of_mem _ hb))
            obtain ⟨g, hg, hy⟩ := vis_ptr (ev_sound h he)
            obtain ⟨g', zs, t', hg', hh, hv⟩ := h.var hb
            have : g' = g := by rw [hg] at hg'; injection hg' with e; injection e with e; exact e.symm
            subst this
            refine ⟨g' :: hs, ⟨⟨hy, ⟨.inr ⟨b, .blk g', kill_blk hg, rfl⟩, fun b' hb' e => ?_⟩, hc, zs, t', hh, VisL.bare (m := Ev.kill ks m) ⟨hv.1, fun i x y q1 q2 => mv _ _ (hv.2 i x y q1 q2)⟩ hc⟩, h1⟩, by simp [hg, h2]⟩
            obtain ⟨n', q1, q2, q3⟩ := kill_of e
            obtain ⟨z1, z2, z3⟩ := q3 g' rfl
            subst z2
            have := h.inj b b' _ _ g' hg q1 rfl rfl
            exact hb0 b List.mem_cons_self (this ▸ hb')
        · cases hx
      · rename_i b he hro
        split at hx
        · rename_i e c ys hb
          simp only [Option.some.injEq, Prod.mk.injEq] at hx
          obtain ⟨rfl, rfl, rfl, rfl⟩ := hx
          obtain ⟨hs, h1, h2⟩ := args_sound h hr (fun f hm => hf f (List.mem_cons_of_mem _ hm)) hr0 hb0
          obtain ⟨l, hl⟩ := vis_own (ev_sound h he)
          obtain ⟨y, hy0, hO⟩ := h.row hb
          rw [hl] at hy0
          injection hy0 with hy0
          injection hy0 with hy0 hl0
          subst hl0
          rw [← hy0] at hO
          exact ⟨hs, ⟨⟨rfl, hO.row fun g hg hx => h.killed (base := 0) hl (hf b List.mem_cons_self) hO g hg hx.1⟩, h1⟩, h2⟩
        · cases hx
      · rename_i y0 y he hn1 hn2 hn3
        cases hc : y.bound 0 with
        | false => rw [hc] at hx; cases hx
        | true =>
          rw [hc] at hx
          simp only [cond_true, Option.some.injEq, Prod.mk.injEq] at hx
          obtain ⟨rfl, rfl, rfl, rfl⟩ := hx
          obtain ⟨hs, h1, h2⟩ := args_sound h hr hf hr0 hb0
          exact ⟨hs, ⟨⟨hc, (mv _ _ (ev_sound h he)).bare hc⟩, h1⟩, h2⟩
      · cases hx
    · cases hx
/-- What leads to no memory is seen from anywhere. -/
theorem pl0_vis {X X' : Nat → Prop} {x : AV} {y : Value} (h : Vis X w m x y) (hp : x.pl0 = true) : Vis X' w m x y := by
  cases h with
  | v x => exact .v _
  | _ => simp [AV.pl0] at hp
theorem pl1_vis {X X' : Nat → Prop} {x : AV} {y : Value} (h : Vis X w m x y) (hp : x.pl1 = true) : Vis X' w m x y := by
  cases x with
  | agg xs =>
    cases h with
    | agg hl h => exact .agg hl fun i x y h1 h2 => pl0_vis (h i x y h1 h2) (all_at hp i x h1)
  | _ => exact pl0_vis h hp
theorem pl_vis {X X' : Nat → Prop} {x : AV} {y : Value} (h : Vis X w m x y) (hp : x.pl = true) : Vis X' w m x y := by
  cases x with
  | tup xs =>
    cases h with
    | tup hl h => exact .tup hl fun i x y h1 h2 => pl1_vis (h i x y h1 h2) (all_at hp i x h1)
  | _ => exact pl1_vis h hp
theorem outs_pl {X X' : Nat → Prop} : ∀ {outs : List (List AV)} {hs : List Nat}, OutsOk X w outs hs → outs.all (fun cs => cs.all AV.pl0) = true → OutsOk X' w outs hs
  | [], [], h, _ => trivial
  | [], _ :: _, h, _ => by simp [OutsOk] at h
  | _ :: _, [], h, _ => by simp [OutsOk] at h
  | cs :: outs, g :: hs, ⟨⟨h1, zs, t, h2, h3⟩, h4⟩, hp => by
    simp only [List.all_cons, Bool.and_eq_true] at hp
    exact ⟨⟨h1, zs, t, h2, h3.1, fun i x y e1 e2 => pl0_vis (h3.2 i x y e1 e2) (all_at hp.1 i x e1)⟩, outs_pl h4 hp.2⟩
theorem run_call {o : Oper} {f : Nat} {args : Array Operand} {tys : Array TypeId} (ho : o.op = .call { callee := .value (.func f), args := args, argTypes := tys }) (w : World) :
    (execOp a.eval o).run P w = (callFunc f (args.map a.eval)).run P w := by
  simp [execOp, ho, resolve, Deferred.ofValue, Act.eval, invoke]
/-! ### What reads alone, in a region that draws -/
theorem Rel0.ref (h : Rel0 X0 gs w0 m s a w) {t : Nat} {b : Bool} (ht : a.tmps[t]? = some (.bool b)) : Rel0 X0 gs w0 m (s.ref t b) a w := by
  refine ⟨h.defers, by simp only [St.ref, length_set]; exact h.size, fun i x hi => ?_, h.blks, h.inj, h.fresh, h.world, h.out, h.nd, h.names, h.par, h.np⟩
  by_cases e : t = i
  · subst e
    by_cases hl : t < s.tmps.length
    · rw [show at_ (s.ref t b).tmps t = some (.v (.bool b)) from at_set_eq _ _ _ hl] at hi
      injection hi with hi
      subst hi
      exact ⟨_, ht, .v _⟩
    · have := at_lt hi
      simp only [St.ref, length_set] at this
      exact absurd this hl
  · rw [show at_ (s.ref t b).tmps i = at_ s.tmps i from at_set_ne _ _ _ _ e] at hi
    exact h.tmps i x hi
theorem guarded_sound (h : Rel0 X0 gs w0 m s a w) {ops : Array Oper} {o : Oper} {A B : St → Option ρ} (hg : guarded ops.toList o s A B = some r) :
    ∃ s', Rel0 X0 gs w0 m s' a w ∧ ((A s' = some r ∧ Region.wanted o (yielded ops a.tmps) = true) ∨ (B s' = some r ∧ Region.wanted o (yielded ops a.tmps) = false)) := by
  unfold guarded at hg
  unfold Region.wanted
  split at hg
  · rename_i e; exact ⟨s, h, .inl ⟨hg, by simp [e]⟩⟩
  · rename_i j want e
    split at hg
    · rename_i g hj
      split at hg
      · rename_i t ht
        have hj' : ops[j]? = some g := by simpa using hj
        split at hg
        · rename_i b hb
          obtain ⟨y, h1, h2⟩ := h.tmps t _ hb
          have hy := vis_v h2
          subst hy
          have hyd : yielded ops a.tmps j = some b := by simp [yielded, hj', ht, h1]
          simp only [e, hyd]
          cases want with
          | true =>
            cases b with
            | true => exact ⟨_, h.ref h1, .inl ⟨hg, rfl⟩⟩
            | false => exact ⟨_, h.ref h1, .inr ⟨hg, rfl⟩⟩
          | false =>
            cases b with
            | true => exact ⟨_, h.ref h1, .inr ⟨hg, rfl⟩⟩
            | false => exact ⟨_, h.ref h1, .inl ⟨hg, rfl⟩⟩
        · rename_i vs hb
          obtain ⟨y, h1, h2⟩ := h.tmps t _ hb
          have hy := vis_v h2
          subst hy
          have hyd : yielded ops a.tmps j = none := by simp [yielded, hj', ht, h1]
          simp only [e, hyd]
          exact ⟨s, h, .inr ⟨hg, by simp⟩⟩
        · cases hg
      · cases hg
    · cases hg
end
end Go.Proofs.Ytneceomekgophaa.Ev
