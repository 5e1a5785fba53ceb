import Derived.Test.YtneceomekgophaaEvSound6
set_option linter.unusedVariables false
set_option linter.unusedSimpArgs false
namespace Go.Proofs.Ytneceomekgophaa.Ev
open Go Go.RowKit Go.Proofs Go.Proofs.YtneceomekgophaaW.PrintWords Go.Proofs.YtneceomekgophaaW.PrintLast
section
variable {ρ : Type} {T : List (Nat × TyI)}
theorem intOp_bind (op : BinOp) (k k' : IntKind) (a b : Int) (K : AV → Option ρ) : intOp op k a k' b K = (intOp op k a k' b some).bind K := by
  unfold intOp
  cases op <;> simp only <;> first
    | (cases decide (b < 0) <;> rfl)
    | (cases decide (k = k') <;> first | rfl | (simp only [cond_true]; cases decide (b = 0) <;> rfl))
theorem mxI_bind (k : IntKind) (f : Int → Int → Int) (K : AV → Option ρ) : ∀ (l : List (Option AV)) (a : Int), mxI k K f a l = (mxI k some f a l).bind K
  | [], a => rfl
  | x :: r, a => by
    unfold mxI
    split
    · rename_i h; cases h
    · rename_i k' b r' h
      cases h
      cases decide (k = k') with
      | true => simp only [cond_true]; exact mxI_bind k f K r _
      | false => rfl
    · rfl
theorem cond_bind {α β : Type} (b : Bool) (x y : Option α) (K : α → Option β) : (cond b x y).bind K = cond b (x.bind K) (y.bind K) := by cases b <;> rfl
theorem pureOp_bind (s : St) (o : Op) (K : AV → Option ρ) : pureOp T s o K = (pureOp T s o some).bind K := by
  unfold pureOp
  split
  all_goals first
    | rfl
    | (split <;> first | rfl | exact intOp_bind _ _ _ _ _ _ | exact mxI_bind _ _ _ _ _ | (split <;> first | rfl | exact intOp_bind _ _ _ _ _ _ | (split <;> first | rfl | (split <;> rfl))) | (rename_i b x y _ _ _; cases b <;> rfl))
    | (repeat' split
       all_goals first | rfl | (simp only [cond_bind, Option.bind_some, Option.bind_none]; done) | (simp only [cond_bind, Option.bind_some, Option.bind_none]; split <;> rfl) | exact intOp_bind _ _ _ _ _ _)
theorem buildCells_congr {s s' : St} {fs : List (Nat × Nat × Bool)} : ∀ {l : List (Nat × Operand)} {cs : List AV}, (∀ p ∈ l, s.ev p.2 = s'.ev p.2) → buildCells s fs cs l = buildCells s' fs cs l
  | [], cs, h => rfl
  | (i, x) :: r, cs, h => by
    have h1 : s.ev x = s'.ev x := h (i, x) List.mem_cons_self
    have ih : ∀ cs, buildCells s fs cs r = buildCells s' fs cs r := fun cs => buildCells_congr fun p hp => h p (List.mem_cons_of_mem _ hp)
    unfold buildCells
    rw [h1]
    split
    · simp only [ih]
    · rfl
theorem decRow_congr {s s' : St} {c : RKc} {sz : Nat} : ∀ {l : List (Nat × Operand)} {i : Nat}, (∀ p ∈ l, s.ev p.2 = s'.ev p.2) → decRow s c sz i l = decRow s' c sz i l
  | [], i, h => rfl
  | (j, x) :: r, i, h => by
    have h1 : s.ev x = s'.ev x := h (j, x) List.mem_cons_self
    have ih : ∀ i, decRow s c sz i r = decRow s' c sz i r := fun i => decRow_congr fun p hp => h p (List.mem_cons_of_mem _ hp)
    unfold decRow
    rw [h1, ih]
theorem pureOp_congr {s s' : St} {o : Op} {K : AV → Option ρ} (hev : ∀ x ∈ o.operands, s.ev x = s'.ev x) (hlk : ∀ b ∈ touch s o, look s.blks b = look s'.blks b) :
    pureOp T s o K = pureOp T s' o K := by
  have hargs : ∀ c : Call, o = .call c → c.args.toList.map s.ev = c.args.toList.map s'.ev := fun c hc => by
    refine List.map_congr_left fun x hx => hev x ?_
    subst hc
    simp only [Op.operands, Call.operands]
    split <;> simp_all
  cases o
  all_goals simp only [Op.operands, Array.mem_def] at hev
  case call c =>
    have ha := hargs c rfl
    unfold pureOp
    split
    all_goals first
      | (rename_i h; cases h; done)
      | skip
    · rename_i args tys h
      cases h
      simp only at ha
      split
      · rename_i x ty hx _
        have he : s.ev x = s'.ev x := by rw [hx] at ha; simpa using ha
        have hbl : ∀ b, s.ev x = some (.own b) → orow s.blks b = orow s'.blks b := fun b hb => by
          unfold orow
          rw [hlk b (by simp [touch, hx, ptrOf, hb])]
        rw [← he]
        split
        · rfl
        · rename_i b _ hb
          rw [hbl b hb]
        · rfl
      · rename_i hno
        rfl
    · rename_i args tys h
      cases h
      simp only at ha
      simp only [ha]
    · rename_i args tys h
      cases h
      simp only at ha
      simp only [ha]
    · rename_i h1 h2 h3
      simp_all
  case build t ps =>
    have hb : ∀ fs z, buildCells s fs z ps.toList = buildCells s' fs z ps.toList := fun fs z => buildCells_congr fun p hp => hev _ (List.mem_map.2 ⟨p, hp, rfl⟩)
    simp only [pureOp, hb]
  case load t x =>
    have h1 := hev x (by simp)
    simp only [pureOp, ← h1]
    split
    · rename_i b p _ hx
      unfold blk
      rw [hlk b (by simp [touch, ptrOf, hx])]
    · rfl
    · rfl
  all_goals simp [pureOp, hev]
end
/-! ### What an operation does to a state -/
structure Ef where
  x : AV
  sets : List (Nat × List AV)
  new : Option (Nat × List AV × Nat)
def setAll (l : List (Nat × List AV × Nat)) : List (Nat × List AV) → List (Nat × List AV × Nat)
  | [] => l
  | (b, ds) :: r => setAll (setBlk l b ds) r
def app (s : St) (d : Option Tmp) (e : Ef) : St :=
  St.put (match e.new with
    | none => { s with blks := setAll s.blks e.sets }
    | some p => { s with blks := p :: setAll s.blks e.sets, next := max s.next (p.1 + 1) }) d e.x
section
variable {P : Program} {T : List (Nat × TyI)} {X0 : Nat → Prop} {gs : List Nat} {w0 w : World} {m : Nm} {s : St} {a : Act} {ρ : Type} {r : ρ} {C : List (Nat × CallW ρ)}
def special (T : List (Nat × TyI)) (o : Oper) : Bool :=
  match o.op with
  | .box .. => true
  | .alloc _ => true
  | .store .. => true
  | .buildSlice .. => true
  | .call { callee := .value (.func _), .. } => true
  | .call { callee := .builtin .append, .. } => true
  | _ => (nilOf T o).isSome
inductive Eff (T : List (Nat × TyI)) (C : List (Nat × CallW ρ)) (s : St) (o : Oper) : Ef → Prop
  | pure {x : AV} : special T o = false → pureOp T s o.op some = some x → Eff T C s o ⟨x, [], none⟩
  | box {t : Nat} {x : Operand} {y : AV} (b : Nat) : o.op = .box t x → s.ev x = some y → roCode T t = none → y.flat.all AV.one = true → Eff T C s o ⟨.ptr b 0, [], some (b, y.flat, t)⟩
  | robox {t : Nat} {x : Operand} {y : AV} {c : RKc} {z : c.T} : o.op = .box t x → s.ev x = some y → roCode T t = some c → c.dec y.flat = some (z, []) → y.flat.all AV.one = true → Eff T C s o ⟨.elem c z 0, [], none⟩
  | alloc {t : Nat} {i : TyI} (b : Nat) : o.op = .alloc t → look T t = some i → Eff T C s o ⟨.ptr b 0, [], some (b, i.zero.map .v, t)⟩
  | nil {e : Nat} {c : RKc} (b : Nat) : nilOf T o = some (e, c) → Eff T C s o ⟨.own b, [], some (b, [.orow e c []], 0)⟩
  | store {t b p t' : Nat} {x y : Operand} {i : TyI} {v : AV} {cs cs' : List AV} : o.op = .store t x y → look T t = some i → s.ev x = some (.ptr b p) → s.ev y = some v → Nat.beq i.size v.flat.length = true →
      blk s.blks b = some (cs, t') → v.flat.all AV.one = true → fillAt cs p v.flat = some cs' → Eff T C s o ⟨.v undef, [(b, cs')], none⟩
  | slice {t len e : Nat} {parts : Array (Nat × Operand)} {ty te : TyI} {c : RKc} {xs : List c.T} (b : Nat) : o.op = .buildSlice t len parts → look T t = some ty → ty.kind = .slice e → look T e = some te → te.code = some c →
      decRow s c te.size 0 parts.toList = some xs → (Nat.beq len parts.toList.length && Nat.blt 0 len && Nat.ble (len * te.size) 1000 && Nat.beq te.size c.sz && c.noList) = true → Eff T C s o ⟨.own b, [], some (b, [.orow e c xs], 0)⟩
  | append {t e e1 b b' : Nat} {x y : Operand} {ty ie : TyI} {c : RKc} {xs ys : List c.T} (nb : Nat) : o.op = .call { callee := .builtin .append, args := #[x, y], argTypes := #[t, t] } → s.ev x = some (.own b) → s.ev y = some (.own b') → look T t = some ty → ty.kind = .slice e → look T e = some ie →
      orow s.blks b = some (e, ⟨c, xs⟩) → orow s.blks b' = some (e1, ⟨c, ys⟩) → 0 < ys.length → ie.size = c.sz → ie.zero.length = c.sz → 0 < ie.bytes → (xs ++ ys).length * ie.bytes ≤ 140737488355328 → Eff T C s o ⟨.own nb, [(b, [])], some (nb, [.orow e c (xs ++ ys)], 0)⟩
  | call {f : Nat} {args : Array Operand} {tys : Array TypeId} {W : CallW ρ} {M : List Arg → Option (AV × List (List AV))} {xs : List Arg} {bs fs rs : List Nat} {ret : AV} {outs : List (List AV)} {l : List (Nat × List AV × Nat)} :
      o.op = .call { callee := .value (.func f), args := args, argTypes := tys } → look C f = some W → (∀ xs K, W xs K = (M xs).bind fun p => K p.1 p.2) → argsOf T s args.toList tys.toList = some (xs, bs, fs, rs) → (dupFree (fs ++ bs) && bs.all fun b => !(rs.any (Nat.beq b))) = true → M xs = some (ret, outs) →
      (ret.bound 0 && outs.all (fun cs => cs.all (AV.b1 0)) && (isNil rs || (ret.pl && outs.all fun cs => cs.all AV.pl0))) = true → setBlks (ends s.blks fs) bs outs = some l → Eff T C s o ⟨ret, fs.map (fun b => (b, [])) ++ bs.zip outs, none⟩
theorem setBlks_all : ∀ {bs : List Nat} {outs : List (List AV)} {l l' : List (Nat × List AV × Nat)}, setBlks l bs outs = some l' → setAll l (bs.zip outs) = l' ∧ bs.length = outs.length
  | [], [], l, l', h => by simp only [setBlks, Option.some.injEq] at h; exact ⟨h, rfl⟩
  | b :: bs, ds :: outs, l, l', h => by
    simp only [setBlks] at h
    obtain ⟨h1, h2⟩ := setBlks_all h
    exact ⟨h1, by simp [h2]⟩
  | [], _ :: _, _, _, h => by simp [setBlks] at h
  | _ :: _, [], _, _, h => by simp [setBlks] at h
theorem all_setBlks : ∀ {bs : List Nat} {outs : List (List AV)} (l : List (Nat × List AV × Nat)), bs.length = outs.length → setBlks l bs outs = some (setAll l (bs.zip outs))
  | [], [], l, h => rfl
  | b :: bs, ds :: outs, l, h => by simp only [setBlks, List.zip_cons_cons, setAll]; exact all_setBlks _ (by simpa using h)
  | [], _ :: _, _, h => by simp at h
  | _ :: _, [], _, h => by simp at h
theorem setAll_ends : ∀ (fs : List Nat) (l : List (Nat × List AV × Nat)) (r : List (Nat × List AV)), setAll l (fs.map (fun b => (b, [])) ++ r) = setAll (ends l fs) r
  | [], _, _ => rfl
  | f :: fs, l, r => by simp only [List.map_cons, List.cons_append, setAll, ends]; exact setAll_ends fs _ r
theorem step_pure {o : Oper} (hs : special T o = false) (K : St → Option ρ) : stepOp T C o s K = pureOp T s o.op fun x => K (s.put o.dst x) := by
  have hn : nilOf T o = none := by
    unfold special at hs
    split at hs
    all_goals first
      | (cases hs; done)
      | skip
    exact Option.not_isSome_iff_eq_none.1 (by rw [hs]; simp)
  unfold special at hs
  unfold stepOp
  split
  all_goals first
    | (rename_i ho; rw [ho] at hs; simp at hs; done)
    | (rw [hn])
/-- What is stepped through has an effect. -/
theorem step_eff (hC : EnvOk P C) {o : Oper} {K : St → Option ρ} (hp : stepOp T C o s K = some r) :
    ∃ e, Eff T C s o e ∧ K (app s o.dst e) = some r ∧ (∀ p, e.new = some p → p.1 = s.next) := by
  have hmax : max s.next (s.next + 1) = s.next + 1 := by omega
  by_cases hsp : special T o = false
  · rw [step_pure hsp, pureOp_bind] at hp
    obtain ⟨x, h1, h2⟩ := Option.bind_eq_some_iff.mp hp
    exact ⟨_, .pure hsp h1, h2, fun p h => by cases h⟩
  · unfold stepOp at hp
    split at hp
    · rename_i t x ho
      split at hp
      · rename_i y c hx hro
        split at hp
        · rename_i z hdec
          cases hall : y.flat.all AV.one with
          | false => rw [hall] at hp; cases hp
          | true =>
            rw [hall] at hp
            exact ⟨_, .robox ho hx hro hdec hall, hp, fun p h => by cases h⟩
        · cases hp
      · rename_i y hx hro
        cases hall : y.flat.all AV.one with
        | false => rw [hall] at hp; cases hp
        | true =>
          rw [hall] at hp
          refine ⟨_, .box s.next ho hx hro hall, ?_, fun p h => by cases h; rfl⟩
          simpa only [app, setAll, hmax, cond_true] using hp
      · cases hp
    · rename_i t ho
      split at hp
      · rename_i i ht
        refine ⟨_, .alloc s.next ho ht, ?_, fun p h => by cases h; rfl⟩
        simpa only [app, setAll, hmax] using hp
      · cases hp
    · rename_i t x y ho
      split at hp
      · rename_i i b p v ht hx hy
        cases hsz : Nat.beq i.size v.flat.length with
        | false => rw [hsz] at hp; cases hp
        | true =>
          rw [hsz] at hp
          simp only [cond_true] at hp
          split at hp
          · rename_i cs t' hb
            cases hall : v.flat.all AV.one with
            | false => rw [hall] at hp; cases hp
            | true =>
              rw [hall] at hp
              simp only [cond_true] at hp
              split at hp
              · rename_i cs' hf
                exact ⟨_, .store ho ht hx hy hsz hb hall hf, hp, fun p h => by cases h⟩
              · cases hp
          · cases hp
      · cases hp
    · rename_i t len parts ho
      split at hp
      · rename_i e _ _ ht
        split at hp
        · rename_i sz _ _ _ _ c _ hte
          split at hp
          · rename_i xs hd
            cases hc : (Nat.beq len parts.toList.length && Nat.blt 0 len && Nat.ble (len * sz) 1000 && Nat.beq sz c.sz && c.noList) with
            | false => rw [hc] at hp; cases hp
            | true =>
              rw [hc] at hp
              refine ⟨_, .slice s.next ho ht rfl hte rfl hd hc, ?_, fun p h => by cases h; rfl⟩
              simpa only [app, setAll, hmax, cond_true] using hp
          · cases hp
        · cases hp
      · cases hp
    · rename_i f args tys ho
      split at hp
      · rename_i W xs bs fs rs hW hxs
        cases hd : (dupFree (fs ++ bs) && bs.all fun b => !(rs.any (Nat.beq b))) with
        | false => rw [hd] at hp; cases hp
        | true =>
          rw [hd] at hp
          simp only [cond_true] at hp
          obtain ⟨M, hM, _⟩ := hC f W hW
          rw [hM] at hp
          obtain ⟨⟨ret, outs⟩, h3, h4⟩ := Option.bind_eq_some_iff.mp hp
          simp only at h4
          cases hc : (ret.bound 0 && outs.all (fun cs => cs.all (AV.b1 0)) && (isNil rs || (ret.pl && outs.all fun cs => cs.all AV.pl0))) with
          | false => rw [hc] at h4; cases h4
          | true =>
            rw [hc] at h4
            simp only [cond_true] at h4
            split at h4
            · rename_i l hl
              have hsa := setBlks_all hl
              refine ⟨_, .call ho hW hM hxs hd h3 hc hl, ?_, fun p h => by cases h⟩
              simpa only [app, setAll_ends, hsa.1] using h4
            · cases h4
      · cases hp
    · rename_i args tys ho
      split at hp
      · rename_i x y t t' hax hty
        split at hp
        · rename_i b b' e' _ _ hx hy ht
          split at hp
          · rename_i e c xs e1 c' y1 ys ie hb hb' hie
            cases hc : (Nat.beq t t' && Nat.beq e e' && Nat.beq ie.size c.sz && Nat.beq ie.zero.length c.sz && Nat.blt 0 ie.bytes) with
            | false => rw [hc] at hp; cases hp
            | true =>
              rw [hc] at hp
              simp only [cond_true] at hp
              simp only [Bool.and_eq_true] at hc
              obtain ⟨⟨⟨⟨c1, c2⟩, c3⟩, c4⟩, c5⟩ := hc
              have e1' := Nat.eq_of_beq_eq_true c1
              have e2' := Nat.eq_of_beq_eq_true c2
              have e3' := Nat.eq_of_beq_eq_true c3
              have e4' := Nat.eq_of_beq_eq_true c4
              have e5' : 0 < ie.bytes := Nat.lt_of_lt_of_le Nat.zero_lt_one (by simpa [Nat.blt] using c5)
              subst e1' e2'
              split at hp
              · rename_i zs hz
                unfold catOf at hz
                split at hz
                · rename_i hcc
                  subst hcc
                  simp only [Option.some.injEq] at hz
                  subst hz
                  cases hr : decide ((xs ++ y1 :: ys).length * ie.bytes ≤ 140737488355328) with
                  | false => rw [hr] at hp; cases hp
                  | true =>
                    rw [hr] at hp
                    have ho' : o.op = .call { callee := .builtin .append, args := #[x, y], argTypes := #[t, t] } := by
                      rw [ho]
                      obtain ⟨l⟩ := args
                      obtain ⟨l'⟩ := tys
                      simp only at hax hty
                      subst hax hty
                      rfl
                    refine ⟨_, .append s.next ho' hx hy ht rfl hie hb hb' (by simp) e3' e4' e5' (of_decide_eq_true hr), ?_, fun p h => by cases h; rfl⟩
                    simpa only [app, setAll, hmax, cond_true] using hp
                · cases hz
              · cases hp
          · cases hp
        · cases hp
      · cases hp
    · rename_i h1 h2 h3 h4 h5 h6
      split at hp
      · rename_i e c hn
        refine ⟨_, .nil s.next hn, ?_, fun p h => by cases h; rfl⟩
        simpa only [app, setAll, hmax] using hp
      · rename_i hn
        exfalso
        apply hsp
        unfold special
        split
        · rename_i ho; exact absurd ho (h1 _ _)
        · rename_i ho; exact absurd ho (h2 _)
        · rename_i ho; exact absurd ho (h3 _ _ _)
        · rename_i ho; exact absurd ho (h4 _ _ _)
        · rename_i ho; exact absurd ho (h5 _ _ _)
        · rename_i ho; exact absurd ho (h6 _ _)
        · rw [hn]; rfl
end
end Go.Proofs.Ytneceomekgophaa.Ev
