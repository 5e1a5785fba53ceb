import Derived.Test.YtneceomekgophaaEvSound10
set_option linter.unusedVariables false
set_option linter.unusedSimpArgs false
namespace Go.Proofs.Ytneceomekgophaa.Ev
open Go Go.RowKit Go.Proofs Go.Proofs.YtneceomekgophaaW.PrintWords Go.Proofs.YtneceomekgophaaW.PrintLast
section
variable {P : Program} {T : List (Nat × TyI)} {X0 : Nat → Prop} {gs : List Nat} {w0 w : World} {m : Nm} {s : St} {a : Act} {ρ : Type} {r : ρ}
/-! ### A loop's head -/
theorem frz_at (fs : List Nat) (s : St) : ∀ (l : List (Option AV)) (i : Nat) (x : AV), at_ (frz fs s l) i = some x → at_ l i = some x ∨ ∃ b e c xs, at_ l i = some (.own b) ∧ b ∈ fs ∧ orow s.blks b = some (e, ⟨c, xs⟩) ∧ x = .row c xs
  | [], i, x, h => by simp [frz, at_] at h
  | none :: r, 0, x, h => by simp [frz, at_] at h
  | none :: r, i + 1, x, h => by simp only [frz, at_] at h ⊢; exact frz_at fs s r i x h
  | some y :: r, i + 1, x, h => by cases y <;> (simp only [frz, at_] at h ⊢; exact frz_at fs s r i x h)
  | some y :: r, 0, x, h => by
    cases y
    case own b =>
      simp only [frz, at_] at h ⊢
      cases hb : fs.any (Nat.beq b) with
      | false => rw [hb] at h; exact .inl h
      | true =>
        rw [hb] at h
        simp only [cond_true] at h
        split at h
        · rename_i e c xs ho
          simp only [Option.some.injEq] at h
          exact .inr ⟨b, e, c, xs, rfl, any_mem.1 hb, ho, h.symm⟩
        · cases h
    all_goals (simp only [frz, at_] at h ⊢; exact .inl h)
theorem frz_len (fs : List Nat) (s : St) : ∀ (l : List (Option AV)), (frz fs s l).length = l.length
  | [] => rfl
  | none :: r => by simp only [frz, List.length_cons, frz_len fs s r]
  | some y :: r => by cases y <;> simp only [frz, List.length_cons, frz_len fs s r]
theorem Rel0.freeze (h : Rel0 X0 gs w0 m s a w) (fs : List Nat) : Rel0 X0 gs w0 (Ev.kill fs m) (Ev.freeze fs s) a w := by
  have k := h.kill fs
  refine ⟨k.defers, by simp only [Ev.freeze, frz_len]; exact h.size, fun i x hi => ?_, k.blks, k.inj, k.fresh, k.world, k.out, k.nd, k.names, k.par, k.np⟩
  rcases frz_at fs s _ _ _ hi with h1 | ⟨b, e, c, xs, h1, h2, h3, rfl⟩
  · exact k.tmps i x h1
  · obtain ⟨y, q1, q2⟩ := h.tmps i _ h1
    obtain ⟨l, hl⟩ := vis_own q2
    obtain ⟨y', hy', hO⟩ := h.row h3
    rw [hl] at hy'
    injection hy' with hy'
    injection hy' with e1 e2
    subst e1 e2
    exact ⟨y, q1, hO.row (h.killed (base := 0) hl h2 hO)⟩
theorem keepT_at (n : Nat) (keep : List Nat) : ∀ (l : List (Option AV)) (k i : Nat) (x : AV), at_ (keepT n keep k l) i = some x → at_ l i = some x ∧ ((∃ b, x = .own b) ∨ x.bound n = true)
  | [], k, i, x, h => by simp [keepT, at_] at h
  | none :: r, k, 0, x, h => by simp [keepT, at_] at h
  | none :: r, k, i + 1, x, h => by simp only [keepT, at_] at h ⊢; exact keepT_at n keep r (k + 1) i x h
  | some y :: r, k, i + 1, x, h => by cases y <;> (simp only [keepT, at_] at h ⊢; exact keepT_at n keep r (k + 1) i x h)
  | some y :: r, k, 0, x, h => by
    cases y
    case own b =>
      simp only [keepT, at_] at h ⊢
      cases hk : keep.any (Nat.beq k) with
      | false => rw [hk] at h; cases h
      | true =>
        rw [hk] at h
        simp only [cond_true, Option.some.injEq] at h
        exact ⟨by rw [h], .inl ⟨b, h.symm⟩⟩
    all_goals
      simp only [keepT, at_] at h ⊢
      cases hk : keep.any (Nat.beq k) with
      | false => rw [hk] at h; cases h
      | true =>
        rw [hk] at h
        simp only [cond_true] at h
        revert h
        generalize hq : AV.bound n _ = q
        intro h
        cases q with
        | false => cases h
        | true =>
          simp only [cond_true, Option.some.injEq] at h
          subst h
          exact ⟨rfl, .inr hq⟩
theorem keepT_len (n : Nat) (keep : List Nat) : ∀ (l : List (Option AV)) (k : Nat), (keepT n keep k l).length = l.length
  | [], k => rfl
  | none :: r, k => by simp only [keepT, List.length_cons, keepT_len n keep r]
  | some y :: r, k => by cases y <;> simp only [keepT, List.length_cons, keepT_len n keep r]
theorem keepB_mem (n : Nat) : ∀ (l : List (Nat × List AV × Nat)) (p : Nat × List AV × Nat), p ∈ keepB n l → p ∈ l ∧ p.1 < n ∧ p.2.1.all (AV.b1 n) = true
  | [], p, h => by simp [keepB] at h
  | (b, [], t) :: r, p, h => by
    simp only [keepB] at h
    exact ⟨List.mem_cons_of_mem _ (keepB_mem n r p h).1, (keepB_mem n r p h).2⟩
  | (b, c :: cs, t) :: r, p, h => by
    simp only [keepB] at h
    have up : p ∈ keepB n r → p ∈ (b, c :: cs, t) :: r ∧ p.1 < n ∧ p.2.1.all (AV.b1 n) = true := fun hm => ⟨List.mem_cons_of_mem _ (keepB_mem n r p hm).1, (keepB_mem n r p hm).2⟩
    cases hb : Nat.blt b n with
    | false => rw [hb] at h; exact up (by simpa using h)
    | true =>
      rw [hb] at h
      simp only [cond_true] at h
      cases hc : (c :: cs).all (AV.b1 n) with
      | false => rw [hc] at h; exact up (by simpa using h)
      | true =>
        rw [hc] at h
        simp only [cond_true, List.mem_cons] at h
        rcases h with h | h
        · subst h
          exact ⟨List.mem_cons_self, Nat.le_of_ble_eq_true hb, hc⟩
        · exact up h
theorem keepB_nd (n : Nat) : ∀ (l : List (Nat × List AV × Nat)), (l.map (·.1)).Nodup → ((keepB n l).map (·.1)).Nodup
  | [], _ => by simp [keepB]
  | (b, [], t) :: r, h => by
    simp only [List.map_cons, List.nodup_cons] at h
    simp only [keepB]
    exact keepB_nd n r h.2
  | (b, c :: cs, t) :: r, h => by
    simp only [List.map_cons, List.nodup_cons] at h
    have ih := keepB_nd n r h.2
    simp only [keepB]
    cases Nat.blt b n with
    | false => exact ih
    | true =>
      cases (c :: cs).all (AV.b1 n) with
      | false => exact ih
      | true =>
        simp only [cond_true, List.map_cons, List.nodup_cons]
        refine ⟨fun hm => ?_, ih⟩
        obtain ⟨p, hp, e⟩ := List.mem_map.1 hm
        exact h.1 (List.mem_map.2 ⟨p, (keepB_mem n r p hp).1, e⟩)
theorem pos_at : ∀ {os : List Nat} {b : Nat}, b ∈ os → os[posOf b os]? = some b ∧ posOf b os < os.length
  | [], b, h => by cases h
  | x :: r, b, h => by
    unfold posOf
    cases e : Nat.beq x b with
    | true => exact ⟨by rw [Nat.eq_of_beq_eq_true e]; rfl, by simp⟩
    | false =>
      have : b ∈ r := by
        rcases List.mem_cons.1 h with h | h
        · subst h; simp at e
        · exact h
      obtain ⟨h1, h2⟩ := pos_at this
      exact ⟨by simpa using h1, by simpa using h2⟩
theorem nameT_at (n : Nat) (os : List Nat) : ∀ (l : List (Option AV)) (i : Nat) (x : AV), at_ (nameT n os l) i = some x → (at_ l i = some x ∧ ∀ b, x ≠ .own b) ∨ ∃ b, at_ l i = some (.own b) ∧ b ∈ os ∧ x = .own (n + posOf b os)
  | [], i, x, h => by simp [nameT, at_] at h
  | none :: r, 0, x, h => by simp [nameT, at_] at h
  | none :: r, i + 1, x, h => by simp only [nameT, at_] at h ⊢; exact nameT_at n os r i x h
  | some y :: r, i + 1, x, h => by cases y <;> (simp only [nameT, at_] at h ⊢; exact nameT_at n os r i x h)
  | some y :: r, 0, x, h => by
    cases y
    case own b =>
      simp only [nameT, at_] at h ⊢
      cases hb : os.any (Nat.beq b) with
      | false => rw [hb] at h; cases h
      | true =>
        rw [hb] at h
        simp only [cond_true, Option.some.injEq] at h
        exact .inr ⟨b, rfl, any_mem.1 hb, h.symm⟩
    all_goals
      simp only [nameT, at_, Option.some.injEq] at h ⊢
      exact .inl ⟨h, fun b e => by rw [e] at h; cases h⟩
theorem nameT_len (n : Nat) (os : List Nat) : ∀ (l : List (Option AV)), (nameT n os l).length = l.length
  | [] => rfl
  | none :: r => by simp only [nameT, List.length_cons, nameT_len n os r]
  | some y :: r => by cases y <;> simp only [nameT, List.length_cons, nameT_len n os r]
theorem nameB_mem (n : Nat) (l : List (Nat × List AV × Nat)) (os : List Nat) : ∀ (q : List Nat) (j : Nat) (p : Nat × List AV × Nat), (∀ i, q[i]? = os[j + i]?) → p ∈ nameB n l os j q →
    ∃ k b e c xs, j ≤ k ∧ os[k]? = some b ∧ posOf b os = k ∧ orow l b = some (e, ⟨c, xs⟩) ∧ p = (n + k, [.orow e c xs], 0)
  | [], j, p, hq, h => by simp [nameB] at h
  | b :: q, j, p, hq, h => by
    simp only [nameB] at h
    have hq' : ∀ i, q[i]? = os[j + 1 + i]? := fun i => by have := hq (i + 1); simpa [Nat.add_assoc, Nat.add_comm 1 i] using this
    have up : p ∈ nameB n l os (j + 1) q → ∃ k b e c xs, j ≤ k ∧ os[k]? = some b ∧ posOf b os = k ∧ orow l b = some (e, ⟨c, xs⟩) ∧ p = (n + k, [.orow e c xs], 0) := fun hm => by
      obtain ⟨k, b, e, c, xs, h1, h2⟩ := nameB_mem n l os q (j + 1) p hq' hm
      exact ⟨k, b, e, c, xs, by omega, h2⟩
    cases hp : Nat.beq (posOf b os) j with
    | false => rw [hp] at h; exact up h
    | true =>
      rw [hp] at h
      simp only [cond_true] at h
      split at h
      · rename_i e c xs ho
        rcases List.mem_cons.1 h with h | h
        · exact ⟨j, b, e, c, xs, Nat.le_refl _, by simpa using (hq 0).symm, Nat.eq_of_beq_eq_true hp, ho, h⟩
        · exact up h
      · exact up h
theorem nameB_nd (n : Nat) (l : List (Nat × List AV × Nat)) (os : List Nat) : ∀ (q : List Nat) (j : Nat), (∀ i, q[i]? = os[j + i]?) → ((nameB n l os j q).map (·.1)).Nodup
  | [], j, hq => by simp [nameB]
  | b :: q, j, hq => by
    have hq' : ∀ i, q[i]? = os[j + 1 + i]? := fun i => by have := hq (i + 1); simpa [Nat.add_assoc, Nat.add_comm 1 i] using this
    have ih := nameB_nd n l os q (j + 1) hq'
    simp only [nameB]
    cases Nat.beq (posOf b os) j with
    | false => exact ih
    | true =>
      simp only [cond_true]
      split
      · simp only [List.map_cons, List.nodup_cons]
        refine ⟨fun hm => ?_, ih⟩
        obtain ⟨p, hp, e⟩ := List.mem_map.1 hm
        obtain ⟨k, _, _, _, _, h1, _, _, _, rfl⟩ := nameB_mem n l os q (j + 1) p hq' hp
        simp only at e
        omega
      · exact ih
/-- The names anew. -/
def nameM (n nb : Nat) (os : List Nat) (m : Nm) : Nm := fun b =>
  if b < n then (match m b with
    | some (.blk g) => some (.blk g)
    | _ => none)
  else if nb ≤ b then (match os[b - nb]? with
    | some b0 => if posOf b0 os = b - nb then (match m b0 with
      | some (.row y l) => some (.row y l)
      | _ => none) else none
    | none => none)
  else none
theorem nameM_of {n nb : Nat} {os : List Nat} {b : Nat} {v : NV} (h : nameM n nb os m b = some v) : (b < n ∧ ∃ g, v = .blk g ∧ m b = some v) ∨ (nb ≤ b ∧ ∃ b0 y l, os[b - nb]? = some b0 ∧ posOf b0 os = b - nb ∧ v = .row y l ∧ m b0 = some v) := by
  unfold nameM at h
  split at h
  · rename_i hlt
    split at h
    · rename_i g hg
      simp only [Option.some.injEq] at h
      subst h
      exact .inl ⟨hlt, g, rfl, hg⟩
    · cases h
  · split at h
    · rename_i hle
      split at h
      · rename_i b0 hb0
        split at h
        · rename_i hp
          split at h
          · rename_i y l hy
            simp only [Option.some.injEq] at h
            subst h
            exact .inr ⟨hle, b0, y, l, hb0, hp, rfl, hy⟩
          · cases h
        · cases h
      · cases h
    · cases h
theorem nameM_row {n nb : Nat} (hn : n ≤ nb) {os : List Nat} {b : Nat} (hb : b ∈ os) {y : Value} {l : Bool} (hy : m b = some (.row y l)) : nameM n nb os m (nb + posOf b os) = some (.row y l) := by
  unfold nameM
  rw [if_neg (by omega), if_pos (by omega), Nat.add_sub_cancel_left, (pos_at hb).1]
  simp [hy]
theorem nameM_X {n nb : Nat} {os : List Nat} {k : Nat} (h : XS X0 (nameM n nb os m) k) : XS X0 m k := by
  rcases h with h | ⟨b, v, hb, hv⟩
  · exact .inl h
  · rcases nameM_of hb with ⟨_, _, _, h1⟩ | ⟨_, b0, _, _, _, _, _, h1⟩
    · exact .inr ⟨b, v, h1, hv⟩
    · exact .inr ⟨b0, v, h1, hv⟩
theorem Rel.norm1 (h : Rel X0 gs w0 s a w) (n : Nat) (keep : List Nat) : Rel X0 gs w0 (norm1 n keep s) a w := by
  obtain ⟨m, h⟩ := h
  have hle : n ≤ n + s.np := Nat.le_add_right _ _
  have hm : ∀ b v, b < n → m b = some v → (∃ g, v = .blk g) → ∃ v', nameM n (n + s.np) (ownsAt s.tmps keep) m b = some v' ∧ v.le v' := fun b v hlt hb ⟨g, hg⟩ => by
    subst hg
    exact ⟨.blk g, by unfold nameM; rw [if_pos hlt, hb], rfl⟩
  have mv : ∀ {x : AV} {y : Value}, x.bound n = true → Vis (XS X0 m) w m x y → Vis (XS X0 (nameM n (n + s.np) (ownsAt s.tmps keep) m)) w (nameM n (n + s.np) (ownsAt s.tmps keep) m) x y := fun {x y} hb hv => by
    have key : Vis (XS X0 m) w (fun b => match m b with | some (.blk g) => some (.blk g) | _ => none) x y := by
      have one : ∀ {x : AV} {y : Value}, x.b1 n = true → Vis (XS X0 m) w m x y → Vis (XS X0 m) w (fun b => match m b with | some (.blk g) => some (.blk g) | _ => none) x y := fun {x y} hb hv => by
        cases hv with
        | v _ => exact .v _
        | own h => simp [AV.b1] at hb
        | ptr o h => exact .ptr o (by simp [h])
        | agg hl h => simp [AV.b1] at hb
        | tup hl h => simp [AV.b1] at hb
        | row h => exact .row h
        | elem h => exact .elem h
      have two : ∀ {x : AV} {y : Value}, x.b2 n = true → Vis (XS X0 m) w m x y → Vis (XS X0 m) w (fun b => match m b with | some (.blk g) => some (.blk g) | _ => none) x y := fun {x y} hb hv => by
        cases x with
        | agg xs =>
          cases hv with
          | agg hl h => exact .agg hl fun i x y h1 h2 => one (all_at hb i x h1) (h i x y h1 h2)
        | _ => exact one hb hv
      cases x with
      | tup xs =>
        cases hv with
        | tup hl h => exact .tup hl fun i x y h1 h2 => two (all_at hb i x h1) (h i x y h1 h2)
      | _ => exact two hb hv
    refine key.move (n := n) (fun _ _ _ => rfl) (fun _ _ h => nameM_X h) (Nat.le_refl _) hb (fun b v hlt hv => ?_)
    split at hv
    · rename_i g hg
      simp only [Option.some.injEq] at hv
      subst hv
      exact hm b _ hlt hg ⟨g, rfl⟩
    · cases hv
  have hq : ∀ i, (ownsAt s.tmps keep)[i]? = (ownsAt s.tmps keep)[0 + i]? := fun i => by rw [Nat.zero_add]
  refine ⟨nameM n (n + s.np) (ownsAt s.tmps keep) m, h.defers, by simp only [Ev.norm1, nameT_len, keepT_len]; exact h.size, fun i x hi => ?_, fun b cs t hb => ?_, fun b b' v v' g hb hb' hv hv' => ?_, fun b v hb => ?_, h.world, h.out, ?_, fun p hp => ?_, fun b v g' hb hg => ?_, h.np.1, ?_⟩
  · rcases nameT_at _ _ _ _ _ hi with ⟨h1, h2⟩ | ⟨b, h1, h2, rfl⟩
    · obtain ⟨h3, h4⟩ := keepT_at n keep _ _ _ _ h1
      obtain ⟨y, q1, q2⟩ := h.tmps i x h3
      rcases h4 with ⟨b, rfl⟩ | h4
      · exact absurd rfl (h2 b)
      · exact ⟨y, q1, mv h4 q2⟩
    · obtain ⟨h3, _⟩ := keepT_at n keep _ _ _ _ h1
      obtain ⟨y, q1, q2⟩ := h.tmps i _ h3
      obtain ⟨l, hl⟩ := vis_own q2
      exact ⟨y, q1, .own (nameM_row hle h2 hl)⟩
  · have hmem := mem_look hb
    rcases List.mem_append.1 hmem with hmem | hmem
    · obtain ⟨k, b0, e, c, xs, _, h1, h2, h3, h4⟩ := nameB_mem _ _ _ _ _ _ hq hmem
      simp only [Prod.mk.injEq] at h4
      obtain ⟨rfl, rfl, _⟩ := h4
      obtain ⟨y, hy, hO⟩ := h.row h3
      refine .inr (.inl ⟨e, c, xs, y, rfl, ?_, hO⟩)
      rw [← h2]
      exact nameM_row hle (List.mem_of_getElem? h1) hy
    · obtain ⟨h1, h2, h3⟩ := keepB_mem n _ _ hmem
      rcases h.blks b cs t (look_mem h.nd h1) with e | ⟨e, c, xs, y, e1, _⟩ | ⟨g, ys, t', q1, q2, q3⟩
      · exact .inl e
      · subst e1; simp [AV.b1] at h3
      · obtain ⟨v', z1, z2⟩ := hm b _ h2 q1 ⟨g, rfl⟩
        simp only [NV.le] at z2
        subst z2
        refine .inr (.inr ⟨g, ys, t', z1, q2, q3.1, fun i x y e1 e2 => mv ?_ (q3.2 i x y e1 e2)⟩)
        have := all_at h3 i x e1
        cases x <;> first | exact this | (simp [AV.b1] at this)
  · rcases nameM_of hb with ⟨h1, g1, rfl, h2⟩ | ⟨h1, b0, y, l, h2, h3, rfl, h4⟩
    · rcases nameM_of hb' with ⟨h5, g2, rfl, h6⟩ | ⟨h5, b1, y', l', h6, h7, rfl, h8⟩
      · exact h.inj b b' _ _ g h2 h6 hv hv'
      · have := h.inj b b1 _ _ g h2 h8 hv hv'
        subst this
        rw [h2] at h8
        cases h8
    · rcases nameM_of hb' with ⟨h5, g2, rfl, h6⟩ | ⟨h5, b1, y', l', h6, h7, rfl, h8⟩
      · have := h.inj b0 b' _ _ g h4 h6 hv hv'
        subst this
        rw [h4] at h6
        cases h6
      · have := h.inj b0 b1 _ _ g h4 h8 hv hv'
        subst this
        omega
  · rcases nameM_of hb with ⟨h1, g1, rfl, h2⟩ | ⟨h1, b0, y, l, h2, h3, rfl, h4⟩
    · exact ⟨by simp only [Ev.norm1]; omega, (h.fresh b _ h2).2⟩
    · have := (List.getElem?_eq_some_iff.1 h2).1
      exact ⟨by simp only [Ev.norm1]; omega, (h.fresh b0 _ h4).2⟩
  · simp only [Ev.norm1, List.map_append]
    refine List.nodup_append.2 ⟨nameB_nd _ _ _ _ _ hq, keepB_nd n _ h.nd, fun x hx y hy e => ?_⟩
    obtain ⟨p, hp, rfl⟩ := List.mem_map.1 hx
    obtain ⟨q, hq', rfl⟩ := List.mem_map.1 hy
    obtain ⟨k, b0, e', c, xs, _, h1, h2, h3, rfl⟩ := nameB_mem _ _ _ _ _ _ hq hp
    have := (keepB_mem n _ _ hq').2.1
    simp only at e
    omega
  · rcases List.mem_append.1 hp with hp | hp
    · obtain ⟨k, b0, e', c, xs, _, h1, h2, h3, rfl⟩ := nameB_mem _ _ _ _ _ _ hq hp
      have := (List.getElem?_eq_some_iff.1 h1).1
      simp only [Ev.norm1]
      omega
    · have := (keepB_mem n _ _ hp).2.1
      simp only [Ev.norm1]
      omega
  · have hlt := (List.getElem?_eq_some_iff.1 hg).1
    rcases nameM_of hb with ⟨h1, g1, rfl, h2⟩ | ⟨h1, b0, y, l, h2, h3, rfl, h4⟩
    · exact h.par b _ g' h2 hg
    · have := h.np.1; omega
  · simp only [Ev.norm1]; omega
theorem Rel.norm (h : Rel X0 gs w0 s a w) (n : Nat) (keep fz : List Nat) : Rel X0 gs w0 (norm n keep fz s) a w := by
  obtain ⟨m, h⟩ := h
  exact Rel.norm1 ⟨_, h.freeze _⟩ n keep
/-! ### Code -/
def Out.ex : Out → Exit
  | .normal => .normal
  | .exit i => .exit i
  | .ret => .ret
/-- From a loop's head, its body laid. -/
def Wloop (P : Program) (c : Code) (Q : Exit → Act → World → Prop) (a : Act) (w : World) : Prop :=
  ∀ (b : Frame) (k : List Item) (cs : List Frame), ∃ e a' w', Q e a' w' ∧ Arrives P (lone (b.at a (.code c :: .inLoop c :: k)) cs w) b k cs e a' w'
theorem Wloop.loop {c : Code} {Q : Exit → Act → World → Prop} (h : Wloop P c Q a w) : (Code.loop c).wp P Q a w := fun b k cs =>
  let ⟨e, a', w', hq, hr⟩ := h b k cs
  ⟨e, a', w', hq, .of_steps (.one step_loop) hr⟩
theorem Wloop.round {c : Code} {Q : Exit → Act → World → Prop} (h : c.wp P (Exit.then (Wloop P c Q) Q) a w) : Wloop P c Q a w := by
  intro b k cs
  obtain ⟨e, a₁, w₁, hq, harr⟩ := h b (.inLoop c :: k) cs
  cases e with
  | normal =>
    obtain ⟨e₂, a₂, w₂, hq₂, harr₂⟩ := hq b k cs
    exact ⟨e₂, a₂, w₂, hq₂, .of_steps (Steps.trans harr (.one step_inLoop)) harr₂⟩
  | exit id => exact ⟨_, a₁, w₁, hq, .pass (x := .inLoop c) rfl (fun _ _ => .inl (by simp)) harr⟩
  | goto l => exact ⟨_, a₁, w₁, hq, .pass (x := .inLoop c) rfl (fun _ _ => .inl (by simp)) harr⟩
  | ret => exact ⟨_, a₁, w₁, hq, .pass (x := .inLoop c) rfl (fun _ _ => .inl (by simp)) harr⟩
  | panic ch => exact ⟨_, a₁, w₁, hq, .pass (x := .inLoop c) rfl (fun _ _ => .inl (by simp)) harr⟩
  | outgrown => exact ⟨_, a₁, w₁, hq, .pass (x := .inLoop c) rfl (fun _ _ => .inl (by simp)) harr⟩
def Qat (P : Program) (B : Code) (Q0 : Exit → Act → World → Prop) : Path → Exit → Act → World → Prop
  | [] => Q0
  | i :: q => match codeAt B q with
    | .seq _ b => (match i with
      | 0 => Exit.then (b.wp P (Qat P B Q0 q)) (Qat P B Q0 q)
      | _ => Qat P B Q0 q)
    | .block id _ => Exit.inBlock id (Qat P B Q0 q)
    | .loop c => Exit.then (Wloop P c (Qat P B Q0 q)) (Qat P B Q0 q)
    | _ => Qat P B Q0 q
/-- From a loop's head, or from a place where paths meet. -/
def Wat (P : Program) (c : Code) (Q : Exit → Act → World → Prop) (a : Act) (w : World) : Prop :=
  match c with
  | .loop x => Wloop P x Q a w
  | .seq _ b => b.wp P Q a w
  | _ => True
theorem evalCode_sound (hmx : P.follows .mixedOrders = true) {H : How ρ} (hT : TabOk P H.T) (hC : EnvOk P H.C) {B : Code} {Q0 : Exit → Act → World → Prop}
    (hback : ∀ p s a w, H.back p s = some r → Rel X0 gs w0 s a w → Wat P (codeAt B p) (Qat P B Q0 p) a w) :
    ∀ (c : Code) (q : Path), codeAt B q = c → ∀ (s : St) (a : Act) (w : World) (K : Out → St → Option ρ), (∀ e s' a' w', K e s' = some r → Rel X0 gs w0 s' a' w' → Qat P B Q0 q e.ex a' w') →
      evalCode H q c s K = some r → Rel X0 gs w0 s a w → c.wp P (Qat P B Q0 q) a w := by
  intro c
  induction c with
  | skip => intro q hq s a w K hK hp hr; exact wp_skip (hK .normal s a w hp hr)
  | label l => intro q hq s a w K hK hp hr; exact wp_label (hK .normal s a w hp hr)
  | ret => intro q hq s a w K hK hp hr; exact wp_ret (hK .ret s a w hp hr)
  | exit id => intro q hq s a w K hK hp hr; exact wp_exit (hK (.exit id) s a w hp hr)
  | region id ops d =>
    intro q hq s a w K hK hp hr
    simp only [evalCode] at hp
    cases d with
    | false => exact wp_region_list (evalOps_sound hT hC (fun s a w h1 h2 => hK .normal s a w h1 h2) _ _ _ _ hr hp)
    | true =>
      simp only [cond_true] at hp
      exact region_any hmx hT hC (fun s a w h1 h2 => hK .normal s a w h1 h2) hr hp
  | seq x y ihx ihy =>
    intro q hq s a w K hK hp hr
    simp only [evalCode] at hp
    have hx : codeAt B (0 :: q) = x := by simp only [codeAt, hq, child]
    have hy : codeAt B (1 :: q) = y := by simp only [codeAt, hq, child]
    have q0 : Qat P B Q0 (0 :: q) = Exit.then (y.wp P (Qat P B Q0 q)) (Qat P B Q0 q) := by simp only [Qat, hq]
    have q1 : Qat P B Q0 (1 :: q) = Qat P B Q0 q := by simp only [Qat, hq]
    refine wp_seq ?_
    have := ihx (0 :: q) hx s a w _ (fun e s' a' w' h1 h2 => ?_) hp hr
    · rw [q0] at this; exact this
    · rw [q0]
      cases e with
      | normal =>
        simp only at h1
        split at h1
        · have := ihy (1 :: q) hy s' a' w' K (fun e s'' a'' w'' h3 h4 => by rw [q1]; exact hK e s'' a'' w'' h3 h4) h1 h2
          rw [q1] at this
          exact this
        · have := hback q _ a' w' h1 (h2.norm _ _ _)
          rw [hq] at this
          exact this
      | exit i => exact hK (.exit i) s' a' w' h1 h2
      | ret => exact hK .ret s' a' w' h1 h2
  | cond c x y ihx ihy =>
    intro q hq s a w K hK hp hr
    simp only [evalCode] at hp
    have hx : codeAt B (0 :: q) = x := by simp only [codeAt, hq, child]
    have hy : codeAt B (1 :: q) = y := by simp only [codeAt, hq, child]
    have q0 : Qat P B Q0 (0 :: q) = Qat P B Q0 q := by simp only [Qat, hq]
    have q1 : Qat P B Q0 (1 :: q) = Qat P B Q0 q := by simp only [Qat, hq]
    split at hp
    · rename_i t ht
      obtain ⟨m, hr0⟩ := hr
      have hev := vis_v (ev_sound hr0 ht)
      have hkn : ∀ b, a.eval c = .bool b → Rel X0 gs w0 (s.know c b) a w := fun b hb => by
        cases c with
        | tmp tt =>
          obtain ⟨y, h1, h2⟩ := hr0.tmps tt _ ht
          have hy := vis_v h2
          subst hy
          have : t = b := by rw [hev] at hb; injection hb
          subst this
          exact ⟨m, hr0.ref h1⟩
        | _ => exact ⟨m, hr0⟩
      refine wp_cond_split hev (fun e => ?_) (fun e => ?_)
      · subst e
        have := ihx (0 :: q) hx _ a w K (fun e s'' a'' w'' h3 h4 => by rw [q0]; exact hK e s'' a'' w'' h3 h4) hp (hkn _ hev)
        rw [q0] at this
        exact this
      · subst e
        have := ihy (1 :: q) hy _ a w K (fun e s'' a'' w'' h3 h4 => by rw [q1]; exact hK e s'' a'' w'' h3 h4) hp (hkn _ hev)
        rw [q1] at this
        exact this
    · cases hp
  | block id x ihx =>
    intro q hq s a w K hK hp hr
    simp only [evalCode] at hp
    have hx : codeAt B (0 :: q) = x := by simp only [codeAt, hq, child]
    have q0 : Qat P B Q0 (0 :: q) = Exit.inBlock id (Qat P B Q0 q) := by simp only [Qat, hq]
    refine wp_block ?_
    have := ihx (0 :: q) hx s a w _ (fun e s' a' w' h1 h2 => ?_) hp hr
    · rw [q0] at this; exact this
    · rw [q0]
      cases e with
      | normal => exact hK .normal s' a' w' h1 h2
      | exit i =>
        simp only at h1
        show (if i = id then Qat P B Q0 q .normal a' w' else Qat P B Q0 q (.exit i) a' w')
        cases hb : Nat.beq i id with
        | true =>
          rw [hb] at h1
          rw [if_pos (Nat.eq_of_beq_eq_true hb)]
          exact hK .normal s' a' w' h1 h2
        | false =>
          rw [hb] at h1
          rw [if_neg (Nat.ne_of_beq_eq_false hb)]
          exact hK (.exit i) s' a' w' h1 h2
      | ret => exact hK .ret s' a' w' h1 h2
  | loop x ihx =>
    intro q hq s a w K hK hp hr
    simp only [evalCode] at hp
    have := hback q _ a w hp (hr.norm _ _ _)
    rw [hq] at this
    exact Wloop.loop this
  | _ => intro q hq s a w K hK hp hr; simp [evalCode] at hp
theorem contAt_sound (hmx : P.follows .mixedOrders = true) {H : How ρ} (hT : TabOk P H.T) (hC : EnvOk P H.C) {B : Code} {Q0 : Exit → Act → World → Prop}
    (hback : ∀ p s a w, H.back p s = some r → Rel X0 gs w0 s a w → Wat P (codeAt B p) (Qat P B Q0 p) a w) {F : Out → St → Option ρ} (hF : ∀ e s' a' w', F e s' = some r → Rel X0 gs w0 s' a' w' → Q0 e.ex a' w') :
    ∀ (q : Path) (e : Out) (s : St) (a : Act) (w : World), contAt H B F q e s = some r → Rel X0 gs w0 s a w → Qat P B Q0 q e.ex a w
  | [], e, s, a, w, hp, hr => hF e s a w hp hr
  | i :: q, e, s, a, w, hp, hr => by
    have ih := contAt_sound hmx hT hC hback hF q
    simp only [contAt] at hp
    cases hq : codeAt B q with
    | seq x y =>
      rw [hq] at hp
      simp only [Qat, hq]
      have hy : codeAt B (1 :: q) = y := by simp only [codeAt, hq, child]
      have q1 : Qat P B Q0 (1 :: q) = Qat P B Q0 q := by simp only [Qat, hq]
      cases i with
      | zero =>
        cases e with
        | normal =>
          simp only at hp
          split at hp
          · have := evalCode_sound hmx hT hC hback y (1 :: q) hy s a w _ (fun e s' a' w' h1 h2 => by rw [q1]; exact ih e s' a' w' h1 h2) hp hr
            rw [q1] at this
            exact this
          · have := hback q _ a w hp (hr.norm _ _ _)
            rw [hq] at this
            exact this
        | exit j => exact ih (.exit j) s a w hp hr
        | ret => exact ih .ret s a w hp hr
      | succ i => cases e <;> exact ih _ s a w hp hr
    | block id x =>
      rw [hq] at hp
      simp only [Qat, hq]
      cases e with
      | normal => exact ih .normal s a w hp hr
      | exit j =>
        simp only at hp
        show (if j = id then Qat P B Q0 q .normal a w else Qat P B Q0 q (.exit j) a w)
        cases hb : Nat.beq j id with
        | true =>
          rw [hb] at hp
          rw [if_pos (Nat.eq_of_beq_eq_true hb)]
          exact ih .normal s a w hp hr
        | false =>
          rw [hb] at hp
          rw [if_neg (Nat.ne_of_beq_eq_false hb)]
          exact ih (.exit j) s a w hp hr
      | ret => exact ih .ret s a w hp hr
    | loop c =>
      rw [hq] at hp
      simp only [Qat, hq]
      cases e with
      | normal =>
        have := hback q _ a w hp (hr.norm _ _ _)
        rw [hq] at this
        exact this
      | exit j => exact ih (.exit j) s a w hp hr
      | ret => exact ih .ret s a w hp hr
    | _ => rw [hq] at hp; simp only [Qat, hq]; exact ih e s a w hp hr
theorem run_sound (hmx : P.follows .mixedOrders = true) {H : How ρ} (hT : TabOk P H.T) (hC : EnvOk P H.C) {B : Code} {Q0 : Exit → Act → World → Prop} {F : Out → St → Option ρ} (hF : ∀ e s' a' w', F e s' = some r → Rel X0 gs w0 s' a' w' → Q0 e.ex a' w') :
    ∀ (k : Nat) (p : Path) (s : St) (a : Act) (w : World), run H B F k p s = some r → Rel X0 gs w0 s a w → Wat P (codeAt B p) (Qat P B Q0 p) a w
  | 0, p, s, a, w, hp, hr => by simp [run] at hp
  | k + 1, p, s, a, w, hp, hr => by
    have ih := run_sound hmx hT hC hF (H := H) (B := B) k
    simp only [run, evalRound] at hp
    cases hc : codeAt B p with
    | loop c =>
      rw [hc] at hp
      simp only at hp
      have hx : codeAt B (0 :: p) = c := by simp only [codeAt, hc, child]
      have q0 : Qat P B Q0 (0 :: p) = Exit.then (Wloop P c (Qat P B Q0 p)) (Qat P B Q0 p) := by simp only [Qat, hc]
      rw [hx] at hp
      have := evalCode_sound (H := { H with back := run H B F k }) hmx hT hC ih c (0 :: p) hx s a w _ (fun e s' a' w' h1 h2 => contAt_sound (H := { H with back := run H B F k }) hmx hT hC ih hF (0 :: p) e s' a' w' h1 h2) hp hr
      rw [q0] at this
      exact .round this
    | seq x y =>
      rw [hc] at hp
      simp only at hp
      have hy : codeAt B (1 :: p) = y := by simp only [codeAt, hc, child]
      have q1 : Qat P B Q0 (1 :: p) = Qat P B Q0 p := by simp only [Qat, hc]
      have := evalCode_sound (H := { H with back := run H B F k }) hmx hT hC ih y (1 :: p) hy s a w _ (fun e s' a' w' h1 h2 => contAt_sound (H := { H with back := run H B F k }) hmx hT hC ih hF (1 :: p) e s' a' w' h1 h2) hp hr
      rw [q1] at this
      exact this
    | _ => trivial
end
end Go.Proofs.Ytneceomekgophaa.Ev
