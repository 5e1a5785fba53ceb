import Derived.Test.YtneceomekgophaaEvSound9
set_option linter.unusedVariables false
set_option linter.unusedSimpArgs false
namespace Go.Proofs.Ytneceomekgophaa.Ev
open Go Go.RowKit Go.Proofs Go.Proofs.YtneceomekgophaaW.PrintWords Go.Proofs.YtneceomekgophaaW.PrintLast
section
variable {P : Program} {T : List (Nat × TyI)} {X0 : Nat → Prop} {gs : List Nat} {w0 w : World} {m : Nm} {s s' : St} {a : Act} {ρ : Type} {r : ρ} {C : List (Nat × CallW ρ)} {ops : Array Oper}
/-! ### Guards -/
def gd (ops : Array Oper) (o : Oper) (s : St) : Option Bool :=
  match o.guard with
  | none => some true
  | some (j, want) => match ops.toList[j]? with
    | some g => (match g.dst with
      | some t => (match at_ s.tmps t with
        | some (.v (.bool b)) => some (b == want)
        | some (.v (.tuple _)) => some false
        | _ => none)
      | none => none)
    | none => none
theorem set_self : ∀ {l : List (Option AV)} {t : Nat} {x : AV}, at_ l t = some x → set_ l t (some x) = l
  | [], _, _, h => rfl
  | y :: r, 0, x, h => by simp only [at_] at h; subst h; rfl
  | y :: r, t + 1, x, h => by simp only [at_] at h; simp only [set_, set_self h]
theorem ref_self {t : Nat} {b : Bool} (h : at_ s.tmps t = some (.v (.bool b))) : s.ref t b = s := by
  unfold St.ref
  rw [set_self h]
theorem guarded_gd {o : Oper} {A B : St → Option ρ} (hg : guarded ops.toList o s A B = some r) : (gd ops o s = some true ∧ A s = some r) ∨ (gd ops o s = some false ∧ B s = some r) := by
  unfold guarded at hg
  unfold gd
  split at hg
  · rename_i e; exact .inl ⟨by rw [e], hg⟩
  · rename_i j want e
    rw [e]
    simp only
    split at hg
    · rename_i g hj
      rw [hj]
      simp only
      split at hg
      · rename_i t ht
        rw [ht]
        simp only
        split at hg
        · rename_i b hb
          rw [hb]
          simp only
          cases want <;> cases b <;> simp only [cond_true, cond_false] at hg <;> rw [ref_self hb] at hg
          · exact .inl ⟨rfl, hg⟩
          · exact .inr ⟨rfl, hg⟩
          · exact .inr ⟨rfl, hg⟩
          · exact .inl ⟨rfl, hg⟩
        · rename_i vs hb
          rw [hb]
          exact .inr ⟨rfl, hg⟩
        · cases hg
      · cases hg
    · cases hg
theorem gd_congr {o : Oper} (h : Agree ops o s s') : gd ops o s = gd ops o s' := by
  unfold gd
  cases hg : o.guard with
  | none => rfl
  | some p =>
    obtain ⟨j, want⟩ := p
    simp only
    cases hj : ops.toList[j]? with
    | none => rfl
    | some g =>
      simp only
      cases ht : g.dst with
      | none => rfl
      | some t =>
        simp only
        have : at_ s.tmps t = at_ s'.tmps t := h t (by
          unfold Oper.looksAt
          refine List.mem_append_right _ ?_
          have hj' : ops[j]? = some g := by simpa using hj
          simp [hg, hj', ht])
        rw [this]
theorem gd_wanted {o : Oper} {b : Bool} (h : Rel0 X0 gs w0 m s a w) (hg : gd ops o s = some b) : Region.wanted o (yielded ops a.tmps) = b := by
  unfold gd at hg
  unfold Region.wanted
  split at hg
  · rename_i e; simp only [Option.some.injEq] at hg; subst hg; rw [e]
  · rename_i j want e
    split at hg
    · rename_i g hj
      split at hg
      · rename_i t ht
        have hj' : ops[j]? = some g := by simpa using hj
        split at hg
        · rename_i b' hb
          obtain ⟨y, h1, h2⟩ := h.tmps t _ hb
          have hy := vis_v h2
          subst hy
          have hyd : yielded ops a.tmps j = some b' := by simp [yielded, hj', ht, h1]
          simp only [Option.some.injEq] at hg
          subst hg
          simp only [e, hyd]
          cases b' <;> cases want <;> rfl
        · rename_i vs hb
          obtain ⟨y, h1, h2⟩ := h.tmps t _ hb
          have hy := vis_v h2
          subst hy
          have hyd : yielded ops a.tmps j = none := by simp [yielded, hj', ht, h1]
          simp only [Option.some.injEq] at hg
          subst hg
          simp only [e, hyd]
          cases want <;> rfl
        · cases hg
      · cases hg
    · cases hg
/-! ### What is left to do -/
structure Tr extends Dn where
  e : Ef
/-- An operation's effect, and the blocks that it names. -/
def Eg (T : List (Nat × TyI)) (C : List (Nat × CallW ρ)) (ops : Array Oper) (s : St) (p : Tr) : Prop :=
  (gd ops p.o s = some true ∧ Eff T C s p.o p.e ∧ p.tb = (match p.e.new with | none => [] | some q => [q.1]) ++ touch s p.o.op ∧ p.wb = (match p.e.new with | none => [] | some q => [q.1]) ++ writes T s p.o.op) ∨
  (gd ops p.o s = some false ∧ p.e = ⟨.v undef, [], none⟩ ∧ p.tb = [] ∧ p.wb = [])
theorem Eg.names {p : Tr} (h : Eg T C ops s p) : (∀ b ∈ p.e.names, b ∈ p.wb) ∧ ∀ b ∈ p.wb, b ∈ p.tb := by
  rcases h with ⟨_, he, h3, h4⟩ | ⟨_, h2, h3, h4⟩
  · rw [h3, h4]
    refine ⟨fun b hb => ?_, fun b hb => ?_⟩
    · rcases List.mem_append.1 hb with hb | hb
      · exact List.mem_append_left _ hb
      · exact List.mem_append_right _ (he.names b hb)
    · rcases List.mem_append.1 hb with hb | hb
      · exact List.mem_append_left _ hb
      · exact List.mem_append_right _ (writes_touch _ b hb)
  · rw [h3, h4, h2]; exact ⟨fun b hb => (by cases hb), fun b hb => hb⟩
theorem Eg.congr {p : Tr} (h : Eg T C ops s p) (ha : Agree ops p.o s s') (hb : ∀ b ∈ p.tb, look s.blks b = look s'.blks b) : Eg T C ops s' p := by
  rcases h with ⟨hg, he, h3, h4⟩ | ⟨hg, h2, h3, h4⟩
  · have ht := touch_congr (T := T) (o := p.o.op) ha.ev
    exact .inl ⟨by rw [← gd_congr ha]; exact hg, he.congr ha.ev (fun b hm => hb b (by rw [h3]; exact List.mem_append_right _ hm)), by rw [h3, ht.1], by rw [h4, ht.2]⟩
  · exact .inr ⟨by rw [← gd_congr ha]; exact hg, h2, h3, h4⟩
structure Same (s s' : St) : Prop where
  tmps : s.tmps = s'.tmps
  look : ∀ b, look s.blks b = look s'.blks b
  next : s.next = s'.next
  np : s.np = s'.np
  fst : (s.blks.map (·.1)).Perm (s'.blks.map (·.1))
theorem Same.refl (s : St) : Same s s := ⟨rfl, fun _ => rfl, rfl, rfl, .refl _⟩
theorem Same.symm (h : Same s s') : Same s' s := ⟨h.tmps.symm, fun b => (h.look b).symm, h.next.symm, h.np.symm, h.fst.symm⟩
theorem Same.trans {s'' : St} (h : Same s s') (k : Same s' s'') : Same s s'' := ⟨h.tmps.trans k.tmps, fun b => (h.look b).trans (k.look b), h.next.trans k.next, h.np.trans k.np, h.fst.trans k.fst⟩
theorem Same.app (h : Same s s') (d : Option Tmp) (e : Ef) : Same (app s d e) (app s' d e) := by
  refine ⟨by rw [app_tmps, app_tmps, h.tmps], fun b => app_look_congr (h.look b), by rw [app_next, app_next, h.next], by rw [app_np, app_np, h.np], ?_⟩
  rw [app_fst, app_fst]
  exact h.fst.append_left _
theorem Same.rel (h : Same s s') (hr : Rel0 X0 gs w0 m s a w) : Rel0 X0 gs w0 m s' a w :=
  ⟨hr.defers, by rw [← h.tmps]; exact hr.size, fun i x hi => hr.tmps i x (by rw [h.tmps]; exact hi), fun b cs t hb => hr.blks b cs t (by rw [h.look]; exact hb), hr.inj, fun b g hb => by rw [← h.next]; exact hr.fresh b g hb, hr.world, hr.out,
    h.fst.nodup_iff.1 hr.nd, fun p hp => by
      have : p.1 ∈ s.blks.map (·.1) := h.fst.mem_iff.2 (List.mem_map.2 ⟨p, hp, rfl⟩)
      obtain ⟨q, hq1, hq2⟩ := List.mem_map.1 this
      have := hr.names q hq1
      rw [← h.next, ← hq2]; exact this, hr.par, by rw [← h.np, ← h.next]; exact hr.np⟩
def Run (T : List (Nat × TyI)) (C : List (Nat × CallW ρ)) (ops : Array Oper) : List Tr → St → St → Prop
  | [], s, s' => Same s s'
  | p :: L, s, s' => Eg T C ops s p ∧ Run T C ops L (app s p.o.dst p.e) s'
theorem Run.same : ∀ {L : List Tr} {s s' t : St}, Run T C ops L s t → Same s s' → Run T C ops L s' t
  | [], s, s', t, h, hs => hs.symm.trans h
  | p :: L, s, s', t, h, hs => ⟨h.1.congr (fun i _ => by rw [hs.tmps]) fun b _ => hs.look b, h.2.same (hs.app _ _)⟩
theorem set_comm : ∀ (l : List (Option AV)) (i j : Nat) (x y : Option AV), i ≠ j → set_ (set_ l i x) j y = set_ (set_ l j y) i x
  | [], _, _, _, _, _ => rfl
  | _ :: r, 0, 0, _, _, h => absurd rfl h
  | _ :: r, 0, j + 1, _, _, _ => rfl
  | _ :: r, i + 1, 0, _, _, _ => rfl
  | z :: r, i + 1, j + 1, x, y, h => by simp only [set_]; rw [set_comm r i j x y (fun e => h (by rw [e]))]
theorem disj_spec {a b : List Nat} (h : disj a b = true) : ∀ x ∈ a, x ∉ b := by
  intro x hx hb
  have := List.all_eq_true.1 h x hx
  simp only [Bool.not_eq_true', ] at this
  have h2 : b.any (Nat.beq x) = true := List.any_eq_true.2 ⟨x, hb, by simp⟩
  rw [this] at h2
  cases h2
theorem app_agree {q : Oper} {d : Option Tmp} {e : Ef} (h : ∀ t, d = some t → t ∉ q.looksAt ops) : Agree ops q (app s d e) s := by
  intro t ht
  rw [app_tmps]
  cases d with
  | none => rfl
  | some t' => exact at_set_ne _ _ _ _ (fun e1 => h t' rfl (e1 ▸ ht))
/-- Two that are apart may change places. -/
theorem swap {p q : Tr} (hp : Eg T C ops s p) (hq : Eg T C ops (app s p.o.dst p.e) q) (hi : indep ops p.toDn q.toDn = true) :
    Eg T C ops s q ∧ Eg T C ops (app s q.o.dst q.e) p ∧ Same (app (app s p.o.dst p.e) q.o.dst q.e) (app (app s q.o.dst q.e) p.o.dst p.e) := by
  simp only [indep, Bool.and_eq_true] at hi
  obtain ⟨⟨hap, hd1⟩, hd2⟩ := hi
  obtain ⟨a1, a2, a3⟩ := Oper.apart_spec hap
  have d1 := disj_spec hd1
  have d2 := disj_spec hd2
  have hpn := hp.names
  have hqn := hq.names
  have hq' : Eg T C ops s q := hq.congr (app_agree a1) fun b hb => app_look_ne fun hb' => d1 b (hpn.1 b hb') hb
  refine ⟨hq', hp.congr (fun t ht => (app_agree (s := s) (e := q.e) a3 t ht).symm) (fun b hb => (app_look_ne fun hb' => d2 b hb (hqn.1 b hb')).symm), ?_, fun b => ?_, ?_, by simp only [app_np], ?_⟩
  · simp only [app_tmps]
    cases hpd : p.o.dst with
    | none => rfl
    | some t =>
      cases hqd : q.o.dst with
      | none => rfl
      | some t' => exact set_comm _ _ _ _ _ (fun e => a2 t hpd (by rw [hqd, e]))
  · by_cases hb : b ∈ q.e.names
    · have hbp : b ∉ p.e.names := fun hb' => d1 b (hpn.1 b hb') (hqn.2 b (hqn.1 b hb))
      rw [app_look_ne (s := app s q.o.dst q.e) hbp]
      exact app_look_congr (app_look_ne hbp)
    · rw [app_look_ne hb]
      exact app_look_congr (app_look_ne hb).symm
  · simp only [app_next]
    cases p.e.new <;> cases q.e.new <;> simp only <;> omega
  · simp only [app_fst]
    rw [← List.append_assoc, ← List.append_assoc]
    exact (List.perm_append_comm).append_right _
theorem Run.front : ∀ {A : List Tr} {p : Tr} {B : List Tr} {s t : St}, Run T C ops (A ++ p :: B) s t → (∀ x ∈ A, indep ops x.toDn p.toDn = true) → Eg T C ops s p ∧ Run T C ops (A ++ B) (app s p.o.dst p.e) t
  | [], p, B, s, t, h, _ => h
  | x :: A, p, B, s, t, h, hi => by
    obtain ⟨h1, h2⟩ := h
    obtain ⟨h3, h4⟩ := Run.front (A := A) h2 fun y hy => hi y (List.mem_cons_of_mem _ hy)
    obtain ⟨h5, h6, h7⟩ := swap h1 h3 (hi x List.mem_cons_self)
    exact ⟨h5, h6, h4.same h7⟩
end
section
variable {P : Program} {T : List (Nat × TyI)} {X0 : Nat → Prop} {gs : List Nat} {w0 w : World} {m : Nm} {s s' : St} {a : Act} {ρ : Type} {r : ρ} {C : List (Nat × CallW ρ)} {ops : Array Oper}
def Ord (ops : Array Oper) (p q : Tr) : Prop :=
  p.i < q.i ∧ wOk ops p.toDn q.toDn = true ∧ ∀ x y, p.e.new = some x → q.e.new = some y → x.1 ≠ y.1
theorem waits_spec {o : Oper} {k : Nat} (h : waitsFor o k = true) : ∃ e ∈ o.after, Region.binds .any e = true ∧ e.on = k := by
  unfold waitsFor at h
  obtain ⟨e, he, hb⟩ := List.any_eq_true.1 h
  simp only [Bool.and_eq_true] at hb
  exact ⟨e, Array.mem_def.2 he, hb.1, Nat.eq_of_beq_eq_true hb.2⟩
/-- What waits for another one comes up behind it. -/
theorem waitsT_listed {listed : Array Bool} (hdc : ∀ k o, ops[k]? = some o → listed.getD k false = true → ∀ e ∈ o.after, Region.binds .any e = true → listed.getD e.on false = true) : ∀ (n : Nat) (o : Oper) (k : Nat), (∀ e ∈ o.after, Region.binds .any e = true → listed.getD e.on false = true) → waitsT ops n o k = true → listed.getD k false = true
  | 0, o, k, _, h => by cases h
  | n + 1, o, k, ho, h => by
    simp only [waitsT] at h
    obtain ⟨e, he, hb⟩ := List.any_eq_true.1 h
    simp only [Bool.and_eq_true, Bool.or_eq_true] at hb
    have h1 := ho e (Array.mem_def.2 he) hb.1
    rcases hb.2 with h2 | h2
    · rw [← Nat.eq_of_beq_eq_true h2]; exact h1
    · cases h3 : ops[e.on]? with
      | none => rw [h3] at h2; cases h2
      | some o' =>
        rw [h3] at h2
        exact waitsT_listed hdc n o' k (hdc e.on o' h3 h1) h2
theorem any_sim (r : ρ) (hT : TabOk P T) (hC : EnvOk P C) {Q : Exit → Act → World → Prop} {sE : St} (hQ : ∀ a w, Rel X0 gs w0 sE a w → Q .normal a w) :
    ∀ (n : Nat) (L : List Tr) (listed : Array Bool) (s : St) (a : Act) (w : World) (m : Nm), L.length = n → listed.size = ops.size → (∀ k o, ops[k]? = some o → listed.getD k false = true → ∀ e ∈ o.after, Region.binds .any e = true → listed.getD e.on false = true) → (∀ k, listed.getD k true = false ↔ k ∈ L.map (·.i)) →
      (∀ p ∈ L, ops[p.i]? = some p.o ∧ ∀ e ∈ p.o.after, Region.binds .any e = true → e.on < p.i) → L.Pairwise (Ord ops) →
      (∀ p ∈ L, ∀ x, p.e.new = some x → m x.1 = none ∧ (∀ q ∈ s.blks, q.1 ≠ x.1) ∧ gs.length ≤ x.1) → Rel0 X0 gs w0 m s a w → Run T C ops L s sE → wpAny P .any ops Q n listed a w
  | 0, L, listed, s, a, w, m, hn, hsz, hdc, hL, hops, hord, hnew, hr, hrun => by
    have : L = [] := List.eq_nil_of_length_eq_zero hn
    subst this
    refine ⟨?_, hQ a w ⟨m, Same.rel hrun hr⟩⟩
    refine List.eq_nil_iff_forall_not_mem.2 fun k hk => ?_
    have := (hL k).1 (mem_ready.1 hk).1
    cases this
  | n + 1, L, listed, s, a, w, m, hn, hsz, hdc, hL, hops, hord, hnew, hr, hrun => by
    have inb : ∀ {j : Nat}, j < ops.size → listed.getD j true = listed.getD j false := fun {j} hj => by
      have : j < listed.size := by rw [hsz]; exact hj
      simp [this]
    refine ⟨fun h0 => ?_, fun i hi => ?_⟩
    · cases L with
      | nil => simp at hn
      | cons p L =>
        exfalso
        obtain ⟨h1, h2⟩ := hops p List.mem_cons_self
        have hlt := (Array.getElem?_eq_some_iff.1 h1).1
        have : p.i ∈ Region.ready .any ops listed := mem_ready.2 ⟨(hL p.i).2 (by simp), p.o, h1, fun e he hb => by
          have hlt2 := h2 e he hb
          rw [← inb (by omega)]
          cases hx : listed.getD e.on true with
          | true => rfl
          | false =>
            obtain ⟨q, hq, hqi⟩ := List.mem_map.1 ((hL e.on).1 hx)
            rcases List.mem_cons.1 hq with rfl | hq
            · omega
            · have := ((List.pairwise_cons.1 hord).1 q hq).1
              omega⟩
        rw [h0] at this
        cases this
    · obtain ⟨hun, o, ho, hall⟩ := mem_ready.1 hi
      obtain ⟨p, hp, hpi⟩ := List.mem_map.1 ((hL i).1 hun)
      obtain ⟨A, B, rfl⟩ := List.append_of_mem hp
      have hpo := (hops p hp).1
      rw [hpi, ho] at hpo
      simp only [Option.some.injEq] at hpo
      subst hpo
      have hind : ∀ x ∈ A, indep ops x.toDn p.toDn = true := fun x hx => by
        have hox := ((List.pairwise_append.1 hord).2.2 x hx p List.mem_cons_self)
        have h2 : listed.getD x.i true = false := (hL x.i).2 (List.mem_map.2 ⟨x, List.mem_append_left _ hx, rfl⟩)
        have hlt := (Array.getElem?_eq_some_iff.1 (hops x (List.mem_append_left _ hx)).1).1
        rw [inb hlt] at h2
        have hw := hox.2.1
        unfold wOk at hw
        simp only [Bool.or_eq_true] at hw
        rcases hw with hw | hw | hw
        · obtain ⟨e, he, hb, hon⟩ := waits_spec hw
          have h1 := hall e he hb
          rw [hon] at h1
          exact absurd (h1.symm.trans h2) (by simp)
        · exact hw
        · have h1 := waitsT_listed hdc 3 p.o x.i hall hw
          exact absurd (h1.symm.trans h2) (by simp)
      obtain ⟨hg, hrest⟩ := hrun.front hind
      have hsub : (A ++ B).Sublist (A ++ p :: B) := List.Sublist.append_left (List.sublist_cons_self p B) A
      have hmem : ∀ q ∈ A ++ B, q ∈ A ++ p :: B := fun q hq => hsub.subset hq
      have hne : ∀ q ∈ A ++ B, q.i ≠ p.i ∧ ∀ x y, p.e.new = some x → q.e.new = some y → x.1 ≠ y.1 := fun q hq => by
        rcases List.mem_append.1 hq with hq | hq
        · have := (List.pairwise_append.1 hord).2.2 q hq p List.mem_cons_self
          exact ⟨Nat.ne_of_lt this.1, fun x y h1 h2 => (this.2.2 y x h2 h1).symm⟩
        · have := (List.pairwise_cons.1 (List.pairwise_append.1 hord).2.1).1 q hq
          exact ⟨Nat.ne_of_gt this.1, fun x y h1 h2 => this.2.2 x y h1 h2⟩
      have next : ∀ a' w' m', (∀ b, b ∉ (match p.e.new with | none => [] | some q => [q.1]) → m b = none → m' b = none) → Rel0 X0 gs w0 m' (app s p.o.dst p.e) a' w' → wpAny P .any ops Q n (listed.setIfInBounds i true) a' w' := fun a' w' m' hm hr' => by
        refine any_sim r hT hC hQ n (A ++ B) _ _ a' w' m' (by simp at hn ⊢; omega) (by simp [hsz]) (fun k o1 ho1 hk1 e1 he1 hb1 => ?_) (fun k => ?_) (fun q hq => hops q (hmem q hq)) (hord.sublist hsub) (fun q hq x hx => ?_) hr' hrest
        · have hlt := (Array.getElem?_eq_some_iff.1 ho).1
          have up : ∀ j, listed.getD j false = true → (listed.setIfInBounds i true).getD j false = true := fun j hj => by
            by_cases hij : i = j
            · subst hij; simp [hsz, hlt]
            · rw [getD_set_ne false hij]; exact hj
          by_cases hk : i = k
          · subst hk
            rw [ho] at ho1
            simp only [Option.some.injEq] at ho1
            subst ho1
            exact up _ (hall e1 he1 hb1)
          · rw [getD_set_ne false hk] at hk1
            exact up _ (hdc k o1 ho1 hk1 e1 he1 hb1)
        · by_cases hk : i = k
          · subst hk
            have hlt := (Array.getElem?_eq_some_iff.1 ho).1
            constructor
            · intro h; simp [hsz, hlt] at h
            · intro h
              obtain ⟨q, hq, hqi⟩ := List.mem_map.1 h
              exact absurd (hqi.trans hpi.symm) (hne q hq).1
          · rw [getD_set_ne true hk, hL k]
            simp only [List.map_append, List.map_cons, List.mem_append, List.mem_cons, hpi]
            constructor
            · rintro (h | h | h)
              · exact .inl h
              · exact absurd h.symm hk
              · exact .inr h
            · rintro (h | h)
              · exact .inl h
              · exact .inr (.inr h)
        · obtain ⟨z1, z2, z3⟩ := hnew q (hmem q hq) x hx
          refine ⟨hm x.1 ?_ z1, fun p' hp' e => ?_, z3⟩
          · cases hpn : p.e.new with
            | none => simp
            | some y => simp only [List.mem_singleton]; exact fun e => (hne q hq).2 y x hpn hx e.symm
          · have : p'.1 ∈ (app s p.o.dst p.e).blks.map (·.1) := List.mem_map.2 ⟨p', hp', rfl⟩
            rw [app_fst] at this
            rcases List.mem_append.1 this with h1 | h1
            · cases hpn : p.e.new with
              | none => rw [hpn] at h1; cases h1
              | some y =>
                rw [hpn] at h1
                simp only [List.mem_singleton] at h1
                exact (hne q hq).2 y x hpn hx (h1.symm.trans e)
            · obtain ⟨q', hq1, hq2⟩ := List.mem_map.1 h1
              exact z2 q' hq1 (hq2.trans e)
      unfold wpOp
      rw [ho]
      simp only
      rcases hg with ⟨hgd, heff, _, _⟩ | ⟨hgd, he, _⟩
      · rw [if_pos (gd_wanted hr hgd)]
        refine .inl ?_
        exact heff.wp r hT hC hr (hnew p hp) _ _ next
      · rw [if_neg (by rw [gd_wanted hr hgd]; simp)]
        have := next (a.put p.o.dst undef) w m (fun _ _ h => h) (by
          rw [he]
          exact hr.put _ (.v _))
        exact this
theorem Eff.new_of {o : Oper} {e : Ef} (he : Eff T C s o e) : (isNew T o = false → e.new = none) ∧ (isNew T o = true → ∃ q, e.new = some q) := by
  cases he with
  | pure h1 h2 =>
    refine ⟨fun _ => rfl, fun h => ?_⟩
    exfalso
    unfold special at h1
    unfold isNew at h
    split at h <;> (rename_i ho; try rw [ho] at h1) <;> try (simp at h1; done)
    split at h1 <;> first | (cases h1; done) | (rw [h] at h1; cases h1)
  | box b ho hx hro => exact ⟨fun h => by simp [isNew, ho, hro] at h, fun _ => ⟨_, rfl⟩⟩
  | robox ho hx hro => exact ⟨fun _ => rfl, fun h => by simp [isNew, ho, hro] at h⟩
  | alloc b ho => exact ⟨fun h => by simp [isNew, ho] at h, fun _ => ⟨_, rfl⟩⟩
  | slice b ho => exact ⟨fun h => by simp [isNew, ho] at h, fun _ => ⟨_, rfl⟩⟩
  | append b ho => exact ⟨fun h => by simp [isNew, ho] at h, fun _ => ⟨_, rfl⟩⟩
  | nil b ho =>
    refine ⟨fun h => ?_, fun _ => ⟨_, rfl⟩⟩
    unfold isNew at h
    split at h <;> first | (cases h; done) | (rw [ho] at h; cases h; done) | (rename_i hop; unfold nilOf at ho; rw [hop] at ho; simp at ho)
  | store ho => exact ⟨fun _ => rfl, fun h => by simp [isNew, ho, nilOf] at h⟩
  | call ho => exact ⟨fun _ => rfl, fun h => by simp [isNew, ho, nilOf] at h⟩
theorem okE_spec {dn : List Dn} {q : Dn} (h : okE ops dn q = true) : (∀ e ∈ q.o.after, Region.binds .any e = true → e.on < q.i) ∧ ∀ d ∈ dn, wOk ops d q = true := by
  unfold okE at h
  simp only [Bool.and_eq_true] at h
  refine ⟨fun e he hb => ?_, fun d hd => ?_⟩
  · have := List.all_eq_true.1 h.1 e (Array.mem_def.1 he)
    rw [hb] at this
    simpa using this
  · have := List.all_eq_true.1 h.2 d hd
    exact this
theorem evalAny_run (hC : EnvOk P C) {K : St → Option ρ} : ∀ (l : List Oper) (k : Nat) (dn : List Dn) (s : St), (∀ j, l[j]? = ops.toList[k + j]?) → evalAny T C ops l k dn s K = some r →
    ∃ (L : List Tr) (sE : St), K sE = some r ∧ Run T C ops L s sE ∧ L.map (·.i) = List.range' k l.length ∧ (∀ p ∈ L, ops[p.i]? = some p.o ∧ ∀ e ∈ p.o.after, Region.binds .any e = true → e.on < p.i) ∧ L.Pairwise (Ord ops) ∧
      (∀ p ∈ L, ∀ d ∈ dn, wOk ops d p.toDn = true) ∧ (∀ p ∈ L, ∀ x, p.e.new = some x → s.next ≤ x.1)
  | [], k, dn, s, hl, h => ⟨[], s, h, Same.refl s, rfl, fun _ h => (by cases h), .nil, fun _ h => (by cases h), fun _ h => (by cases h)⟩
  | o :: l, k, dn, s, hl, h => by
    have ho : ops[k]? = some o := by simpa using (hl 0).symm
    have hl' : ∀ j, l[j]? = ops.toList[k + 1 + j]? := fun j => by have := hl (j + 1); simpa [Nat.add_assoc, Nat.add_comm 1 j] using this
    have cons : ∀ (p : Tr), p.i = k → p.o = o → Eg T C ops s p → (∀ x, p.e.new = some x → x.1 = s.next) → okE ops dn p.toDn = true → evalAny T C ops l (k + 1) (p.toDn :: dn) (app s o.dst p.e) K = some r →
        ∃ (L : List Tr) (sE : St), K sE = some r ∧ Run T C ops L s sE ∧ L.map (·.i) = List.range' k (o :: l).length ∧ (∀ p ∈ L, ops[p.i]? = some p.o ∧ ∀ e ∈ p.o.after, Region.binds .any e = true → e.on < p.i) ∧ L.Pairwise (Ord ops) ∧
          (∀ p ∈ L, ∀ d ∈ dn, wOk ops d p.toDn = true) ∧ (∀ p ∈ L, ∀ x, p.e.new = some x → s.next ≤ x.1) := fun p hi hpo hg hnew hok h => by
      obtain ⟨L, sE, h1, h2, h3, h4, h5, h6, h7⟩ := evalAny_run hC l (k + 1) _ _ hl' h
      obtain ⟨o1, o2⟩ := okE_spec hok
      have hle : ∀ x, x ∈ L → s.next ≤ (app s o.dst p.e).next := fun x _ => by rw [app_next]; split <;> omega
      refine ⟨p :: L, sE, h1, ⟨hg, by rw [hpo]; exact h2⟩, ?_, fun q hq => ?_, List.pairwise_cons.2 ⟨fun q hq => ⟨?_, ?_, fun x y hx hy => ?_⟩, h5⟩, fun q hq d hd => ?_, fun q hq x hx => ?_⟩
      · simp only [List.map_cons, h3, hi, List.length_cons, List.range'_succ]
      · rcases List.mem_cons.1 hq with rfl | hq
        · exact ⟨by rw [hi, ho, hpo], o1⟩
        · exact h4 q hq
      · have : q.i ∈ L.map (·.i) := List.mem_map.2 ⟨q, hq, rfl⟩
        rw [h3, List.mem_range'_1] at this
        omega
      · exact h6 q hq p.toDn List.mem_cons_self
      · have := h7 q hq y hy
        rw [app_next, hx] at this
        simp only at this
        omega
      · rcases List.mem_cons.1 hq with rfl | hq
        · exact o2 d hd
        · exact h6 q hq d (List.mem_cons_of_mem _ hd)
      · rcases List.mem_cons.1 hq with rfl | hq
        · rw [hnew x hx]; exact Nat.le_refl _
        · exact Nat.le_trans (hle q hq) (h7 q hq x hx)
    simp only [evalAny] at h
    rcases guarded_gd h with ⟨hgd, h⟩ | ⟨hgd, h⟩
    · cases hok : okE ops dn ⟨k, o, (tw T s o).1, (tw T s o).2⟩ with
      | false => rw [hok] at h; cases h
      | true =>
        rw [hok] at h
        simp only [cond_true] at h
        obtain ⟨e, h1, h2, h3⟩ := step_eff hC h
        refine cons ⟨⟨k, o, (tw T s o).1, (tw T s o).2⟩, e⟩ rfl rfl (.inl ⟨hgd, h1, ?_⟩) h3 hok h2
        cases hn : isNew T o with
        | false => exact ⟨by simp [tw, hn, h1.new_of.1 hn], by simp [tw, hn, h1.new_of.1 hn]⟩
        | true =>
          obtain ⟨q, hq⟩ := h1.new_of.2 hn
          exact ⟨by simp [tw, hn, hq, h3 q hq], by simp [tw, hn, hq, h3 q hq]⟩
    · cases hok : okE ops dn ⟨k, o, [], []⟩ with
      | false => rw [hok] at h; cases h
      | true =>
        rw [hok] at h
        simp only [cond_true] at h
        exact cons ⟨⟨k, o, [], []⟩, ⟨.v undef, [], none⟩⟩ rfl rfl (.inr ⟨hgd, rfl, rfl, rfl⟩) (fun x hx => by cases hx) hok h
/-- **A region that draws its order.** -/
theorem region_any (hmx : P.follows .mixedOrders = true) (hT : TabOk P T) (hC : EnvOk P C) {id : Nat} {Q : Exit → Act → World → Prop} {K : St → Option ρ} (hK : ∀ s a w, K s = some r → Rel X0 gs w0 s a w → Q .normal a w)
    (h : Rel X0 gs w0 s a w) (hp : evalAny T C ops ops.toList 0 [] s K = some r) : (Code.region id ops true).wp P Q a w := by
  obtain ⟨L, sE, h1, h2, h3, h4, h5, h6, h7⟩ := evalAny_run hC ops.toList 0 [] s (fun j => by simp) hp
  obtain ⟨m, hr⟩ := h
  refine wp_region_any hmx ?_
  refine any_sim r hT hC (fun a w => hK sE a w h1) ops.size L _ s a _ m ?_ (by simp) (fun k o ho hk e he hb => ?_) (fun k => ?_) h4 h5 (fun p hp x hx => ?_) (hr.grow (Upd.drew w (w.drawn + 1))) h2
  · have := congrArg List.length h3
    simpa using this
  · exfalso
    by_cases hlt : k < ops.size
    · simp [hlt] at hk
    · simp [hlt] at hk
  · rw [h3, List.mem_range'_1]
    simp only [Nat.zero_le, true_and, Nat.zero_add, Array.length_toList]
    by_cases hk : k < ops.size
    · simp [hk]
    · simp [hk]
  · have hle := h7 p hp x hx
    refine ⟨?_, fun q hq e => ?_, ?_⟩
    · cases hm : m x.1 with
      | none => rfl
      | some n => have := (hr.fresh _ n hm).1; omega
    · have := hr.names q hq; omega
    · have := hr.np; omega
end
end Go.Proofs.Ytneceomekgophaa.Ev
