import Derived.Test.YtneceomekgophaaEvCore
import Derived.Test.YtneceomekgophaaWWords
import Derived.Test.YtneceomekgophaaWLast
import Derived.Laws.Tables
import Derived.Laws.StructEq
import Derived.Great.BuildSlice
import Derived.Conc.MuLone
set_option linter.unusedVariables false
set_option linter.unusedSimpArgs false
namespace Go.Proofs.Ytneceomekgophaa.Ev
open Go Go.RowKit Go.Proofs Go.Proofs.YtneceomekgophaaW.PrintWords Go.Proofs.YtneceomekgophaaW.PrintLast
def RKc.kd : (c : RKc) → Kd c.T
  | .int k => Kd.int k
  | .bool => Kd.bool
  | .pair a b => Kd.pair a.kd b.kd
  | .list e c => Kd.slice e c.kd
theorem kd_sz : ∀ c : RKc, c.kd.sz = c.sz
  | .int _ => rfl
  | .bool => rfl
  | .pair a b => by show a.kd.sz + b.kd.sz = _; rw [kd_sz a, kd_sz b]; rfl
  | .list _ _ => rfl
/-- The worlds that agree with w on the blocks F. -/
def OnF (F : Nat → Prop) (w w1 : World) : Prop := ∀ k, F k → w1.heap[k]? = w.heap[k]?
/-- The cells of an element, and what they lead to, lie in the blocks F. -/
def Foot : (c : RKc) → (F : Nat → Prop) → World → c.T → List Value → Prop
  | .int k, _, _, x, cs => cs = [.int k x]
  | .bool, _, _, b, cs => cs = [.bool b]
  | .pair a b, F, w, x, cs => ∃ c0 c1, cs = c0 ++ c1 ∧ Foot a F w x.1 c0 ∧ Foot b F w x.2 c1
  | .list _ c, F, w, xs, cs => ∃ A cap, cs = [.slice A xs.length cap] ∧ xs.length ≤ cap ∧ xs.length ≤ 9223372036854775807 ∧
      (0 < xs.length → ∃ ad : Addr, A = some ad ∧ F ad.block ∧ ∀ (j : Nat) (p : c.T), xs[j]? = some p → ∃ q : List Value, q.length = c.sz ∧ Foot c F w p q ∧ ∀ (i : Nat) (u : Value), q[i]? = some u → w.cell? (ad.add (j * c.sz + i)) = some u)
def RowF (c : RKc) (F : Nat → Prop) (w : World) (A : Option Addr) (xs : List c.T) : Prop :=
  xs.length ≤ 9223372036854775807 ∧ (0 < xs.length → ∃ ad : Addr, A = some ad ∧ F ad.block ∧ ∀ (j : Nat) (p : c.T), xs[j]? = some p → ∃ q : List Value, q.length = c.sz ∧ Foot c F w p q ∧ ∀ (i : Nat) (u : Value), q[i]? = some u → w.cell? (ad.add (j * c.sz + i)) = some u)
theorem Foot.sz_pos (c : RKc) : 0 < c.sz := by
  induction c with
  | pair a b ha hb => simp only [RKc.sz]; omega
  | _ => simp [RKc.sz]
theorem Foot.len : ∀ {c : RKc} {F : Nat → Prop} {w : World} {x : c.T} {cs : List Value}, Foot c F w x cs → cs.length = c.sz
  | .int _, _, _, _, _, h => by simp only [Foot] at h; subst h; rfl
  | .bool, _, _, _, _, h => by simp only [Foot] at h; subst h; rfl
  | .pair a b, _, _, _, _, h => by
    obtain ⟨c0, c1, rfl, h0, h1⟩ := h
    rw [List.length_append, h0.len, h1.len]; rfl
  | .list _ c, _, _, _, _, h => by obtain ⟨A, cap, rfl, _⟩ := h; rfl
theorem Foot.one : ∀ {c : RKc} {F : Nat → Prop} {w : World} {x : c.T} {cs : List Value}, Foot c F w x cs → ∀ u ∈ cs, u.oneCell' = true
  | .int _, _, _, _, _, h, u, hu => by simp only [Foot] at h; subst h; rw [List.mem_singleton.1 hu]; rfl
  | .bool, _, _, _, _, h, u, hu => by simp only [Foot] at h; subst h; rw [List.mem_singleton.1 hu]; rfl
  | .pair a b, _, _, _, _, h, u, hu => by
    obtain ⟨c0, c1, rfl, h0, h1⟩ := h
    exact (List.mem_append.1 hu).elim (h0.one u) (h1.one u)
  | .list _ c, _, _, _, _, h, u, hu => by obtain ⟨A, cap, rfl, _⟩ := h; rw [List.mem_singleton.1 hu]; rfl
theorem cell_on {F : Nat → Prop} {w w1 : World} (h : OnF F w w1) {ad : Addr} (ha : F ad.block) (n : Nat) : w1.cell? (ad.add n) = w.cell? (ad.add n) := by
  have hb : (ad.add n).block = ad.block := by unfold Addr.add; split <;> rfl
  unfold World.cell?
  rw [hb, h _ ha]
theorem Foot.move : ∀ {c : RKc} {F : Nat → Prop} {w w1 : World} {x : c.T} {cs : List Value}, OnF F w w1 → Foot c F w x cs → Foot c F w1 x cs
  | .int _, _, _, _, _, _, _, h => h
  | .bool, _, _, _, _, _, _, h => h
  | .pair a b, _, _, _, _, _, ho, h => by
    obtain ⟨c0, c1, rfl, h0, h1⟩ := h
    exact ⟨c0, c1, rfl, h0.move ho, h1.move ho⟩
  | .list _ c, F, w, w1, xs, _, ho, h => by
    obtain ⟨A, cap, rfl, hl, hm, hc⟩ := h
    refine ⟨A, cap, rfl, hl, hm, fun h0 => ?_⟩
    obtain ⟨ad, e, hF, hr⟩ := hc h0
    refine ⟨ad, e, hF, fun j p hj => ?_⟩
    obtain ⟨q, h1, h2, h3⟩ := hr j p hj
    exact ⟨q, h1, h2.move ho, fun i u hu => (cell_on ho hF _).trans (h3 i u hu)⟩
theorem RowF.move {c : RKc} {F : Nat → Prop} {w w1 : World} {A : Option Addr} {xs : List c.T} (ho : OnF F w w1) (h : RowF c F w A xs) : RowF c F w1 A xs := by
  refine ⟨h.1, fun h0 => ?_⟩
  obtain ⟨ad, e, hF, hr⟩ := h.2 h0
  refine ⟨ad, e, hF, fun j p hj => ?_⟩
  obtain ⟨q, h1, h2, h3⟩ := hr j p hj
  exact ⟨q, h1, h2.move ho, fun i u hu => (cell_on ho hF _).trans (h3 i u hu)⟩
theorem Foot.kd : ∀ {c : RKc} {F : Nat → Prop} {w : World} {x : c.T} {cs : List Value}, Foot c F w x cs → c.kd.K w x cs
  | .int _, _, _, _, _, h => h
  | .bool, _, _, _, _, h => h
  | .pair a b, _, _, _, _, h => by
    obtain ⟨c0, c1, rfl, h0, h1⟩ := h
    exact ⟨c0, c1, rfl, h0.kd, h1.kd⟩
  | .list _ c, F, w, xs, _, h => by
    obtain ⟨A, cap, rfl, hl, hm, hc⟩ := h
    refine ⟨A, cap, rfl, hl, rfl, hm, fun h0 => ?_⟩
    obtain ⟨ad, e, hF, hr⟩ := hc h0
    refine ⟨ad, e, fun j p hj => ?_⟩
    obtain ⟨q, h1, h2, h3⟩ := hr j p hj
    exact ⟨q, by rw [h1]; exact (kd_sz c).symm, h2.kd, fun i u hu => by rw [kd_sz c]; exact h3 i u hu⟩
theorem Foot.of_kd : ∀ {c : RKc} {w : World} {x : c.T} {cs : List Value}, c.kd.K w x cs → Foot c (fun k => k < w.heap.size) w x cs
  | .int _, _, _, _, h => h
  | .bool, _, _, _, h => h
  | .pair a b, _, _, _, h => by
    obtain ⟨c0, c1, rfl, h0, h1⟩ := h
    exact ⟨c0, c1, rfl, Foot.of_kd h0, Foot.of_kd h1⟩
  | .list _ c, w, xs, _, h => by
    obtain ⟨A, cap, rfl, hl, _, hm, hc⟩ := h
    refine ⟨A, cap, rfl, hl, hm, fun h0 => ?_⟩
    obtain ⟨ad, e, hr⟩ := hc h0
    refine ⟨ad, e, ?_, fun j p hj => ?_⟩
    · obtain ⟨p, hp⟩ : ∃ p, xs[0]? = some p := ⟨_, List.getElem?_eq_getElem h0⟩
      obtain ⟨q, h1, h2, h3⟩ := hr 0 p hp
      have hq : 0 < q.length := by rw [h1, kd_sz]; exact Foot.sz_pos c
      have hcell := h3 0 _ (List.getElem?_eq_getElem hq)
      have hb := World.block_lt_of_cell? w _ hcell
      have hbb : ∀ n, (ad.add n).block = ad.block := fun n => by unfold Addr.add; split <;> rfl
      rw [hbb] at hb
      exact hb
    · obtain ⟨q, h1, h2, h3⟩ := hr j p hj
      exact ⟨q, by rw [h1, kd_sz], Foot.of_kd h2, fun i u hu => by rw [← kd_sz c]; exact h3 i u hu⟩
theorem RowF.kd {c : RKc} {F : Nat → Prop} {w : World} {A : Option Addr} {xs : List c.T} (h : RowF c F w A xs) : c.kd.C w A xs.length xs := by
  refine ⟨rfl, h.1, fun h0 => ?_⟩
  obtain ⟨ad, e, hF, hr⟩ := h.2 h0
  refine ⟨ad, e, fun j p hj => ?_⟩
  obtain ⟨q, h1, h2, h3⟩ := hr j p hj
  exact ⟨q, by rw [h1]; exact (kd_sz c).symm, h2.kd, fun i u hu => by rw [kd_sz c]; exact h3 i u hu⟩
theorem RowF.of_kd {c : RKc} {w : World} {A : Option Addr} {xs : List c.T} (h : c.kd.C w A xs.length xs) : RowF c (fun k => k < w.heap.size) w A xs := by
  refine ⟨h.2.1, fun h0 => ?_⟩
  have := Foot.of_kd (c := .list 0 c) (w := w) (x := xs) (cs := [.slice A xs.length xs.length]) ⟨A, xs.length, rfl, Nat.le_refl _, h⟩
  obtain ⟨A', cap, e, _, _, hc⟩ := this
  injection e with e
  injection e with e1
  subst e1
  exact hc h0
def RowOk (X : Nat → Prop) (w : World) (c : RKc) (xs : List c.T) (A : Option Addr) (cap : Nat) : Prop :=
  xs.length ≤ cap ∧ ∃ F : Nat → Prop, (∀ k, F k → k < w.heap.size ∧ ¬ X k) ∧ RowF c F w A xs
def ElemOk (X : Nat → Prop) (w : World) (c : RKc) (x : c.T) (o : Nat) (a : Addr) : Prop :=
  ∃ F : Nat → Prop, (∀ k, F k → k < w.heap.size ∧ ¬ X k) ∧ F a.block ∧ ∃ cs : List Value, Foot c F w x cs ∧ ∀ (j : Nat) (u : Value), cs[o + j]? = some u → w.cell? (a.add j) = some u
/-- What a name stands for: a variable's block; a slice of one's own, and if it still is. -/
inductive NV where
  | blk (g : Nat)
  | row (y : Value) (live : Bool)
abbrev Nm := Nat → Option NV
def NV.holds : NV → Nat → Prop
  | .blk g, k => g = k
  | .row y l, k => l = true ∧ y.ownBlock = some k
def NV.le : NV → NV → Prop
  | .blk g, n => n = .blk g
  | .row y _, n => ∃ l, n = .row y l
def Nm.none : Nm := fun _ => Option.none
/-- What is kept of names. -/
def NLe (m m' : Nm) : Prop := ∀ b n, m b = some n → ∃ n', m' b = some n' ∧ n.le n'
theorem NV.le_refl (n : NV) : n.le n := by cases n <;> simp [NV.le]
theorem NLe.refl (m : Nm) : NLe m m := fun b n h => ⟨n, h, n.le_refl⟩
theorem NLe.of {m m' : Nm} (h : ∀ b n, m b = some n → m' b = some n) : NLe m m' := fun b n hb => ⟨n, h b n hb, n.le_refl⟩
/-- Where no slice that is only read may lie. -/
def XS (X0 : Nat → Prop) (m : Nm) (g : Nat) : Prop := X0 g ∨ ∃ b n, m b = some n ∧ n.holds g
inductive Vis (X : Nat → Prop) (w : World) (m : Nm) : AV → Value → Prop
  | v (x : Value) : Vis X w m (.v x) x
  | own {b : Nat} {y : Value} {l : Bool} : m b = some (.row y l) → Vis X w m (.own b) y
  | ptr {b g : Nat} (o : Nat) : m b = some (.blk g) → Vis X w m (.ptr b o) (.pointer (some ⟨g, o, none⟩))
  | agg {xs : List AV} {ys : List Value} : xs.length = ys.length → (∀ (i : Nat) (x : AV) (y : Value), xs[i]? = some x → ys[i]? = some y → Vis X w m x y) → Vis X w m (.agg xs) (.agg ys.toArray)
  | tup {xs : List AV} {ys : List Value} : xs.length = ys.length → (∀ (i : Nat) (x : AV) (y : Value), xs[i]? = some x → ys[i]? = some y → Vis X w m x y) → Vis X w m (.tup xs) (.tuple ys.toArray)
  | row {c : RKc} {xs : List c.T} {A : Option Addr} {cap : Nat} : RowOk X w c xs A cap → Vis X w m (.row c xs) (.slice A xs.length cap)
  | elem {c : RKc} {x : c.T} {o : Nat} {a : Addr} : ElemOk X w c x o a → Vis X w m (.elem c x o) (.pointer (some a))
def VisL (X : Nat → Prop) (w : World) (m : Nm) (xs : List AV) (ys : List Value) : Prop :=
  xs.length = ys.length ∧ ∀ (i : Nat) (x : AV) (y : Value), xs[i]? = some x → ys[i]? = some y → Vis X w m x y
theorem RowOk.move {X X' : Nat → Prop} {w w' : World} {c : RKc} {xs : List c.T} {A : Option Addr} {cap : Nat} (h : RowOk X w c xs A cap)
    (hk : ∀ k, k < w.heap.size → ¬ X k → w'.heap[k]? = w.heap[k]?) (hX : ∀ k, k < w.heap.size → X' k → X k) (hs : w.heap.size ≤ w'.heap.size) : RowOk X' w' c xs A cap := by
  obtain ⟨hl, F, hF, hC⟩ := h
  exact ⟨hl, F, fun k h => ⟨Nat.lt_of_lt_of_le (hF k h).1 hs, fun hx => (hF k h).2 (hX k (hF k h).1 hx)⟩, hC.move fun k h => hk k (hF k h).1 (hF k h).2⟩
theorem ElemOk.move {X X' : Nat → Prop} {w w' : World} {c : RKc} {x : c.T} {o : Nat} {a : Addr} (h : ElemOk X w c x o a)
    (hk : ∀ k, k < w.heap.size → ¬ X k → w'.heap[k]? = w.heap[k]?) (hX : ∀ k, k < w.heap.size → X' k → X k) (hs : w.heap.size ≤ w'.heap.size) : ElemOk X' w' c x o a := by
  obtain ⟨F, hF, ha, cs, hC, hc⟩ := h
  have ho : OnF F w w' := fun k h => hk k (hF k h).1 (hF k h).2
  exact ⟨F, fun k h => ⟨Nat.lt_of_lt_of_le (hF k h).1 hs, fun hx => (hF k h).2 (hX k (hF k h).1 hx)⟩, ha, cs, hC.move ho, fun j u hu => (cell_on ho ha _).trans (hc j u hu)⟩
theorem all_at {f : AV → Bool} {xs : List AV} (h : xs.all f = true) (i : Nat) (x : AV) (hx : xs[i]? = some x) : f x = true :=
  List.all_eq_true.1 h x (List.mem_of_getElem? hx)
theorem Vis.move1 {X X' : Nat → Prop} {w w' : World} {m m' : Nm} {n : Nat} {x : AV} {y : Value} (h : Vis X w m x y)
    (hk : ∀ k, k < w.heap.size → ¬ X k → w'.heap[k]? = w.heap[k]?) (hX : ∀ k, k < w.heap.size → X' k → X k) (hs : w.heap.size ≤ w'.heap.size)
    (hb : x.b1 n = true) (hm : ∀ b n', b < n → m b = some n' → ∃ n'', m' b = some n'' ∧ n'.le n'') : Vis X' w' m' x y := by
  cases h with
  | v x => exact .v _
  | own h => simp [AV.b1] at hb
  | ptr o h =>
    obtain ⟨n', h1, rfl⟩ := hm _ _ (by simpa [AV.b1] using hb) h
    exact .ptr o h1
  | agg hl h => simp [AV.b1] at hb
  | tup hl h => simp [AV.b1] at hb
  | row h => exact .row (h.move hk hX hs)
  | elem h => exact .elem (h.move hk hX hs)
theorem Vis.move2 {X X' : Nat → Prop} {w w' : World} {m m' : Nm} {n : Nat} {x : AV} {y : Value} (h : Vis X w m x y)
    (hk : ∀ k, k < w.heap.size → ¬ X k → w'.heap[k]? = w.heap[k]?) (hX : ∀ k, k < w.heap.size → X' k → X k) (hs : w.heap.size ≤ w'.heap.size)
    (hb : x.b2 n = true) (hm : ∀ b n', b < n → m b = some n' → ∃ n'', m' b = some n'' ∧ n'.le n'') : Vis X' w' m' x y := by
  cases x with
  | agg xs =>
    cases h with
    | agg hl h => exact .agg hl fun i x y h1 h2 => (h i x y h1 h2).move1 hk hX hs (all_at hb i x h1) hm
  | _ => exact h.move1 hk hX hs hb hm
/-- What bears no name from n on does not ask for one. -/
theorem Vis.move {X X' : Nat → Prop} {w w' : World} {m m' : Nm} {n : Nat} {x : AV} {y : Value} (h : Vis X w m x y)
    (hk : ∀ k, k < w.heap.size → ¬ X k → w'.heap[k]? = w.heap[k]?) (hX : ∀ k, k < w.heap.size → X' k → X k) (hs : w.heap.size ≤ w'.heap.size)
    (hb : x.bound n = true) (hm : ∀ b n', b < n → m b = some n' → ∃ n'', m' b = some n'' ∧ n'.le n'') : Vis X' w' m' x y := by
  cases x with
  | tup xs =>
    cases h with
    | tup hl h => exact .tup hl fun i x y h1 h2 => (h i x y h1 h2).move2 hk hX hs (all_at hb i x h1) hm
  | _ => exact h.move2 hk hX hs hb hm
/-- The same, where no name is lost. -/
theorem Vis.move' {X X' : Nat → Prop} {w w' : World} {m m' : Nm} {x : AV} {y : Value} (h : Vis X w m x y)
    (hk : ∀ k, k < w.heap.size → ¬ X k → w'.heap[k]? = w.heap[k]?) (hX : ∀ k, k < w.heap.size → X' k → X k) (hs : w.heap.size ≤ w'.heap.size)
    (hm : NLe m m') : Vis X' w' m' x y := by
  induction h with
  | v x => exact .v x
  | own h =>
    obtain ⟨n', h1, l, rfl⟩ := hm _ _ h
    exact .own h1
  | ptr o h =>
    obtain ⟨n', h1, rfl⟩ := hm _ _ h
    exact .ptr o h1
  | agg hl _ ih => exact .agg hl ih
  | tup hl _ ih => exact .tup hl ih
  | row h => exact .row (h.move hk hX hs)
  | elem h => exact .elem (h.move hk hX hs)
theorem VisL.move' {X X' : Nat → Prop} {w w' : World} {m m' : Nm} {x : List AV} {y : List Value} (h : VisL X w m x y)
    (hk : ∀ k, k < w.heap.size → ¬ X k → w'.heap[k]? = w.heap[k]?) (hX : ∀ k, k < w.heap.size → X' k → X k) (hs : w.heap.size ≤ w'.heap.size)
    (hm : NLe m m') : VisL X' w' m' x y := ⟨h.1, fun i x y h1 h2 => (h.2 i x y h1 h2).move' hk hX hs hm⟩
/-- The world but for some blocks is as it was. -/
structure Upd (gs : List Nat) (w w' : World) : Prop where
  os : w'.os = w.os
  tape : w'.tape = w.tape
  output : w'.output = w.output
  size : w.heap.size ≤ w'.heap.size
  block : ∀ k, k < w.heap.size → k ∉ gs → w'.heap[k]? = w.heap[k]?
theorem Upd.refl (gs : List Nat) (w : World) : Upd gs w w := ⟨rfl, rfl, rfl, Nat.le_refl _, fun _ _ _ => rfl⟩
theorem Upd.trans {gs gs' : List Nat} {a b c : World} (h : Upd gs a b) (k : Upd gs' b c) (hs : ∀ x, x ∈ gs' → x ∈ gs ∨ a.heap.size ≤ x) : Upd gs a c :=
  ⟨k.os.trans h.os, k.tape.trans h.tape, k.output.trans h.output, Nat.le_trans h.size k.size, fun i hi hg => (k.block i (Nat.lt_of_lt_of_le hi h.size) (fun hx => (hs i hx).elim hg (fun hle => by omega))).trans (h.block i hi hg)⟩
theorem Upd.below {w w' : World} (h : Upd [] w w') : Below w.heap.size w w' := ⟨h.os, h.tape, h.output, h.size, fun k hk => h.block k hk (by simp)⟩
/-- A slice of one's own, and what lies in it. -/
def OwnR (base : Nat) (w : World) (e : Nat) (c : RKc) (xs : List c.T) (y : Value) : Prop :=
  c.noList = true ∧ ∃ inner, w.ownsRow base e c.sz y xs.length inner ∧ xs.length ≤ 9223372036854775807 ∧ Reps (Foot c (fun _ => False) w) c.sz xs inner
/-- What is told of a name. -/
def BlkOk (X : Nat → Prop) (base : Nat) (w : World) (m : Nm) (b : Nat) (cs : List AV) : Prop :=
  cs = [] ∨ (∃ e c xs y, cs = [.orow e c xs] ∧ m b = some (.row y true) ∧ OwnR base w e c xs y) ∨ ∃ g ys t', m b = some (.blk g) ∧ w.heap[g]? = some (.cells ys t' (0, 0)) ∧ VisL X w m cs ys.toList
structure Rel0 (X0 : Nat → Prop) (gs : List Nat) (w0 : World) (m : Nm) (s : St) (a : Act) (w : World) : Prop where
  defers : a.defers = []
  size : a.tmps.size = s.tmps.length
  tmps : ∀ i x, at_ s.tmps i = some x → ∃ y, a.tmps[i]? = some y ∧ Vis (XS X0 m) w m x y
  blks : ∀ b cs t, look s.blks b = some (cs, t) → BlkOk (XS X0 m) w0.heap.size w m b cs
  inj : ∀ b b' n n' g, m b = some n → m b' = some n' → n.holds g → n'.holds g → b = b'
  fresh : ∀ b n, m b = some n → b < s.next ∧ ∀ g, n.holds g → g < w.heap.size ∧ (g ∈ gs ∨ w0.heap.size ≤ g)
  world : Upd gs w0 w
  out : ∀ k, X0 k → k < w0.heap.size
  nd : (s.blks.map (·.1)).Nodup
  names : ∀ p ∈ s.blks, p.1 < s.next
  par : ∀ b n g', m b = some n → gs[b]? = some g' → n = .blk g'
  np : gs.length = s.np ∧ s.np ≤ s.next
def Rel (X0 : Nat → Prop) (gs : List Nat) (w0 : World) (s : St) (a : Act) (w : World) : Prop := ∃ m : Nm, Rel0 X0 gs w0 m s a w
theorem at_set_eq : ∀ (l : List (Option AV)) (i : Nat) (y : Option AV), i < l.length → at_ (set_ l i y) i = y
  | [], _, _, h => by simp at h
  | _ :: r, 0, y, _ => rfl
  | _ :: r, i + 1, y, h => by simp only [set_, at_]; exact at_set_eq r i y (by simpa using h)
theorem at_set_ne : ∀ (l : List (Option AV)) (i j : Nat) (y : Option AV), i ≠ j → at_ (set_ l i y) j = at_ l j
  | [], _, _, _, _ => rfl
  | _ :: r, 0, 0, _, h => absurd rfl h
  | _ :: r, 0, j + 1, _, _ => rfl
  | _ :: r, i + 1, 0, _, _ => rfl
  | _ :: r, i + 1, j + 1, y, h => by simp only [set_, at_]; exact at_set_ne r i j y (fun e => h (by rw [e]))
theorem length_set : ∀ (l : List (Option AV)) (i : Nat) (y : Option AV), (set_ l i y).length = l.length
  | [], _, _ => rfl
  | _ :: r, 0, _ => rfl
  | _ :: r, i + 1, y => by simp only [set_, List.length_cons, length_set r i y]
theorem at_lt : ∀ {l : List (Option AV)} {i : Nat} {x : AV}, at_ l i = some x → i < l.length
  | [], i, x, h => by simp [at_] at h
  | y :: r, 0, x, h => by simp
  | y :: r, i + 1, x, h => by simpa using at_lt (l := r) (by simpa [at_] using h)
theorem Rel0.put {X0 : Nat → Prop} {gs : List Nat} {w0 : World} {m : Nm} {s : St} {a : Act} {w : World} (h : Rel0 X0 gs w0 m s a w) (d : Option Tmp) {x : AV} {y : Value}
    (hv : Vis (XS X0 m) w m x y) : Rel0 X0 gs w0 m (s.put d x) (a.put d y) w := by
  cases d with
  | none => exact h
  | some d =>
    refine ⟨h.defers, ?_, ?_, h.blks, h.inj, h.fresh, h.world, h.out, h.nd, h.names, h.par, h.np⟩
    · simp only [Act.put, St.put, Array.size_setIfInBounds, length_set]; exact h.size
    · intro i z hz
      by_cases e : d = i
      · subst e
        by_cases hl : d < s.tmps.length
        · rw [show at_ (s.put (some d) x).tmps d = some x from at_set_eq _ _ _ hl] at hz
          injection hz with hz
          subst hz
          exact ⟨y, by simp only [Act.put]; rw [Array.getElem?_setIfInBounds_self_of_lt (by rw [h.size]; exact hl)], hv⟩
        · have := at_lt hz
          simp only [St.put, length_set] at this
          exact absurd this hl
      · rw [show at_ (s.put (some d) x).tmps i = at_ s.tmps i from at_set_ne _ _ _ _ e] at hz
        obtain ⟨y', h1, h2⟩ := h.tmps i z hz
        exact ⟨y', by simp only [Act.put]; rw [Array.getElem?_setIfInBounds_ne e]; exact h1, h2⟩
/-- The worlds in which nothing that is there in w has turned. -/
def Ag (w w' : World) : Prop := ∀ k, k < w.heap.size → w'.heap[k]? = w.heap[k]?
def aggD : TypeDesc → Bool
  | .struct _ | .array _ _ => true
  | _ => false
def fieldsD (P : Program) : List Field → Option (List (Nat × Nat × Bool))
  | [] => some []
  | f :: r => match P.info? f.type, P.underlying f.type, fieldsD P r with
    | some i, some d, some l => some ((f.offset, i.size, aggD d) :: l)
    | _, _, _ => none
def kindD (P : Program) : TypeDesc → TK
  | .int k => .int k
  | .bool => .bool
  | .string => .str
  | .slice e => .slice e
  | .array n e => .arr n e
  | .struct fs => match fieldsD P fs.toList with
    | some l => .struct l
    | none => .other
  | _ => .other
/-- The cells of a type, if '==' compares them as numbers, one after the other. -/
def eqFs (P : Program) (g : TypeId → Option Nat) : Nat → List Field → Option Nat
  | k, [] => some k
  | k, f :: r => match P.info? f.type, P.underlying f.type, g f.type with
    | some i, some _, some n => cond (f.name == "_" || !(Nat.beq f.offset k && Nat.beq i.size n)) none (eqFs P g (k + n) r)
    | _, _, _ => none
def eqCells (P : Program) : Nat → TypeId → Option Nat
  | 0, _ => none
  | d + 1, t => match P.underlying t with
    | some (.int _) => some 1
    | some (.struct fs) => cond (P.stoodInHeld t || P.eqGuardType P.depth t) none (eqFs P (eqCells P d) 0 fs.toList)
    | _ => none
def tyOf (P : Program) (t : TypeId) : Option TyI :=
  match P.info? t, P.underlying t with
  | some ti, some d => match ti.zero with
    | some z => some { size := ti.size, agg := aggD d, bytes := ti.bytes, zero := z.cells.toList, kind := kindD P d, code := none, eqn := (eqCells P 6 t).getD 0 }
    | none => none
  | _, _ => none
def TabOk (P : Program) (T : List (Nat × TyI)) : Prop := ∀ t i, look T t = some i → tyOf P t = some { i with code := none }
def bare (i : TyI) : TyI := { i with code := none }
theorem tab_of {P : Program} : ∀ {T : List (Nat × TyI)}, T.map (fun p => tyOf P p.1) = T.map (fun p => some (bare p.2)) → TabOk P T
  | [], _, t, i, h => by simp [look] at h
  | (n, j) :: r, hT, t, i, h => by
    simp only [List.map_cons, List.cons.injEq] at hT
    simp only [look] at h
    cases hb : Nat.beq n t with
    | true =>
      rw [hb] at h
      simp only [cond_true, Option.some.injEq] at h
      subst h
      rw [← Nat.eq_of_beq_eq_true hb]
      exact hT.1
    | false =>
      rw [hb] at h
      exact tab_of hT.2 t i (by simpa using h)
section
variable {P : Program} {T : List (Nat × TyI)} {X0 : Nat → Prop} {gs : List Nat} {w0 w : World} {m : Nm} {s : St} {a : Act} {ρ : Type} {r : ρ}
theorem ofVal_vis (X : Nat → Prop) (w : World) (m : Nm) (x : Value) : Vis X w m (ofVal x) x := by
  cases x with
  | agg cs =>
    have := Vis.agg (X := X) (w := w) (m := m) (xs := cs.toList.map .v) (ys := cs.toList) (by simp) (fun i x y h1 h2 => by
      simp only [List.getElem?_map, h2, Option.map_some, Option.some.injEq] at h1
      subst h1
      exact .v y)
    simpa [ofVal] using this
  | _ => exact .v _
theorem ev_sound (h : Rel0 X0 gs w0 m s a w) {x : Operand} {v : AV} (hv : s.ev x = some v) : Vis (XS X0 m) w m v (a.eval x) := by
  cases x with
  | tmp t =>
    obtain ⟨y, h1, h2⟩ := h.tmps t v hv
    simpa [Act.eval, h1] using h2
  | const c => simp only [St.ev, Option.some.injEq] at hv; subst hv; exact ofVal_vis _ _ _ _
  | func f => simp only [St.ev, Option.some.injEq] at hv; subst hv; exact .v _
  | global g => simp [St.ev] at hv
theorem vis_v {X : Nat → Prop} {x y : Value} (h : Vis X w m (.v x) y) : y = x := by cases h; rfl
theorem wr_eq (k : IntKind) (x : Int) : wr k x = k.wrap x := by
  cases k <;> first | rfl | exact (i64_w x).symm
/-- What an operation that only reads comes to. -/
def PureOk (P : Program) (X : Nat → Prop) (w : World) (m : Nm) (a : Act) (o : Oper) (K : AV → Option ρ) (r : ρ) : Prop :=
  ∃ x y, K x = some r ∧ Vis X w m x y ∧ ∀ w', Ag w w' → (execOp a.eval o).run P w' = .ok (.value y) w'
theorem intOp_sound {X : Nat → Prop} {o : Oper} {op : BinOp} {t t' : TypeId} {x y : Operand} {k k' : IntKind} {p q : Int} {K : AV → Option ρ} (ho : o.op = .binOp op t x y t') (hx : a.eval x = .int k p) (hy : a.eval y = .int k' q)
    (h : intOp op k p k' q K = some r) : PureOk P X w m a o K r := by
  have go : ∀ z : Value, K (.v z) = some r → (∀ w', (binOp op t (.int k p) (.int k' q)).run P w' = .ok z w') → PureOk P X w m a o K r := fun z hz hr => by
    refine ⟨.v z, z, hz, .v z, fun w' _ => ?_⟩
    have hg : (eqGuard op t x y (.int k p) (.int k' q)).run P w' = .ok () w' := by
      unfold eqGuard
      cases op <;> simp
    simp [execOp, ho, hx, hy, hg, hr w']
  cases op <;> simp only [intOp] at h
  case shl =>
    cases hb : decide (q < 0) with
    | true => rw [hb] at h; cases h
    | false =>
      rw [hb] at h
      have hq : ¬ q < 0 := of_decide_eq_false hb
      exact go _ h fun w' => by simp [binOp, Op.shift, hq, shlI, wr_eq]
  case shr =>
    cases hb : decide (q < 0) with
    | true => rw [hb] at h; cases h
    | false =>
      rw [hb] at h
      have hq : ¬ q < 0 := of_decide_eq_false hb
      exact go _ h fun w' => by simp [binOp, Op.shift, hq, shrI]
  all_goals
    cases hk : decide (k = k') with
    | false => rw [hk] at h; cases h
    | true =>
      rw [hk] at h
      have hkk : k = k' := of_decide_eq_true hk
      subst hkk
      simp only [cond_true] at h
      first
        | (cases h; done)
        | (refine go _ h fun w' => ?_; simp [binOp, Op.intArith, wr_eq]; done)
        | (refine go _ h fun w' => ?_; simp [binOp, Op.intBits, andI, orI, xorI]; done)
        | (refine go _ h fun w' => ?_; simp [binOp, Op.intCmp]; done)
        | (refine go _ h fun w' => ?_; have e : (p == q) = decide (p = q) := by by_cases e : p = q <;> simp [e]
           simp [binOp, Op.intCmp, bne, e]; done)
        | (cases hq : decide (q = 0) with
           | true => rw [hq] at h; cases h
           | false =>
             rw [hq] at h
             have hq' : ¬ q = 0 := of_decide_eq_false hq
             refine go _ h fun w' => ?_
             simp [binOp, Op.intDiv, hq', wr_eq])
end
end Go.Proofs.Ytneceomekgophaa.Ev
