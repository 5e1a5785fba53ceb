/- What the models of the law FnIntervals come to: numbers and lists alone. -/
import Derived.Test.YtneceomekgophaaEvPure0
set_option linter.unusedVariables false
set_option linter.unusedSimpArgs false
namespace Go.Proofs.Ytneceomekgophaa.Ev
open Go Go.RowKit Go.Proofs Go.Proofs.YtneceomekgophaaW.PrintWords
/-! ### what is asked of intervals: both sides tell the same -/
theorem isPlaces_eq (a : Int) : impl_isPlaces.f a = some (decide (0 ≤ a ∧ a ≤ 24)) := by
  unfold impl_isPlaces.f impl_isPlaces.g; rw [inside_eq]; rfl
theorem isDyadic_eq (n k : Int) : impl_isDyadic.f n k = some (dyB n k) := by
  unfold impl_isDyadic.f impl_isDyadic.g dyB; simp only [isPlaces_eq, inside_eq, Option.bind_some, bne_two, cnd4, decide_eq_true_eq]
  split <;> (try split) <;> (try split) <;> rfl
theorem sgn_le (x : Int) : sgnI x ≤ 0 ↔ x ≤ 0 := by
  unfold sgnI; split
  · omega
  · split <;> omega
theorem dec_sgn (x y : Int) : decide (sgnI (x - y) ≤ 0) = decide (x ≤ y) := by
  by_cases h : x ≤ y
  · rw [decide_eq_true h, decide_eq_true ((sgn_le _).2 (by omega))]
  · rw [decide_eq_false h, decide_eq_false (fun h' => h (by have := (sgn_le _).1 h'; omega))]
theorem dec_sgn_lt (x y : Int) : decide (sgnI (x - y) < 0) = decide (x < y) := by
  by_cases h : x < y
  · rw [decide_eq_true h, decide_eq_true ((sgn_lt _).2 (by omega))]
  · rw [decide_eq_false h, decide_eq_false (fun h' => h (by have := (sgn_lt _).1 h'; omega))]
theorem isInterval_ev (i : IV) : Et (fun z zn => impl_isInterval.f z i.1.1 i.1.2 i.2.1 i.2.2) (ivG i) := by
  unfold impl_isInterval.f impl_isInterval.g ivG; simp only [cnd4]
  refine Et_bindS (isDyadic_eq _ _) (Et_if (fun h1 => Et_bindS (isDyadic_eq _ _) (Et_if (fun h2 => ?_) (fun h2 => ?_))) (fun h1 => ?_))
  · have r1 := dyB_range _ _ h1
    have r2 := dyB_range _ _ h2
    refine Et.bind (compareD_ev _ _ _ _ r1.2 r1.1 r2.2 r2.1) (Et_eq (Et.now _) ?_)
    rw [show dB i.1 = true from h1, show dB i.2 = true from h2, dec_sgn]; rfl
  · rw [show dB i.1 = true from h1, show dB i.2 = false from Bool.eq_false_iff.2 h2]; exact Et.now _
  · rw [show dB i.1 = false from Bool.eq_false_iff.2 h1]; exact Et.now _
theorem ivGood_ev (i : IV) : Et (fun z zn => spec_ivGood.f z i.1.1 i.1.2 i.2.1 i.2.2) (ivG i) := by
  unfold spec_ivGood.f spec_ivGood.g ivG; simp only [cnd4]
  refine Et_bindS (dyGood_eq _ _) (Et_if (fun h1 => Et_bindS (dyGood_eq _ _) (Et_if (fun h2 => ?_) (fun h2 => ?_))) (fun h1 => ?_))
  · have r1 := dyB_range _ _ h1
    have r2 := dyB_range _ _ h2
    refine Et.bind (dyCmp_ev _ _ _ _ r1.2 r1.1 r2.2 r2.1) (Et_eq (Et.now _) ?_)
    rw [show dB i.1 = true from h1, show dB i.2 = true from h2, dec_sgn]; rfl
  · rw [show dB i.1 = true from h1, show dB i.2 = false from Bool.eq_false_iff.2 h2]; exact Et.now _
  · rw [show dB i.1 = false from Bool.eq_false_iff.2 h1]; exact Et.now _
theorem ivTwo_ev (i k : IV) : Et (fun z zn => spec_ivTwo.f z i.1.1 i.1.2 i.2.1 i.2.2 k.1.1 k.1.2 k.2.1 k.2.2) (ivG i && ivG k) := by
  unfold spec_ivTwo.f spec_ivTwo.g; simp only [cnd4]
  refine Et.bind (ivGood_ev i) ?_
  cases ivG i with
  | true => exact Et_if (fun _ => Et.bind (ivGood_ev k) (Et.now _)) (fun h => absurd rfl h)
  | false => exact Et_if (fun h => by cases h) (fun _ => Et.now _)
/-- What is told of two valid intervals. -/
def G2 {α : Type} (i k : IV) (r d : α) : α := if (ivG i && ivG k) = true then r else d
theorem gate_impl {α : Type} {i k : IV} {g : Nat → Nat → Option α} {r d : α} (h : ivG i = true → ivG k = true → Et g r) :
    Et (fun z zn => (impl_isInterval.f z i.1.1 i.1.2 i.2.1 i.2.2).bind fun t => if t = true then (impl_isInterval.f z k.1.1 k.1.2 k.2.1 k.2.2).bind fun t => if t = true then g z zn else some d else some d) (G2 i k r d) := by
  unfold G2
  refine Et.bind (isInterval_ev i) (Et_if (fun h1 => Et.bind (isInterval_ev k) (Et_if (fun h2 => ?_) (fun h2 => ?_))) (fun h1 => ?_))
  · rw [if_pos (by rw [h1, h2]; rfl)]; exact h h1 h2
  · rw [if_neg (by rw [h1]; simpa using h2)]; exact Et.now _
  · rw [if_neg (by rw [Bool.eq_false_iff.2 h1]; simp)]; exact Et.now _
theorem gate_spec {α : Type} {i k : IV} {g : Nat → Nat → Option α} {r d : α} (h : ivG i = true → ivG k = true → Et g r) :
    Et (fun z zn => (spec_ivTwo.f z i.1.1 i.1.2 i.2.1 i.2.2 k.1.1 k.1.2 k.2.1 k.2.2).bind fun t => if t = true then g z zn else some d) (G2 i k r d) := by
  unfold G2
  refine Et.bind (ivTwo_ev i k) (Et_if (fun h1 => ?_) (fun h1 => ?_))
  · rw [if_pos h1]
    rw [Bool.and_eq_true] at h1
    exact h h1.1 h1.2
  · rw [if_neg h1]; exact Et.now _
theorem res_eq {o : Option IV} {x : IV} {ok : Bool} (h : stepOk true o x ok) : (impl_reckoner_result.f ok x.1.1 x.1.2 x.2.1 x.2.2).bind (fun t => some (t.1, t.2.1, t.2.2.1, t.2.2.2.1, t.2.2.2.2.1)) = some (flo o) := by
  obtain ⟨_, h1, h2⟩ := h
  cases ok with
  | true => rw [h2 rfl]; rfl
  | false =>
    cases o with
    | none => rfl
    | some y => simp at h1
theorem res_ev {o : Option IV} {x : IV} {ok : Bool} (h : stepOk true o x ok) : Et (fun _ _ => (impl_reckoner_result.f ok x.1.1 x.1.2 x.2.1 x.2.2).bind fun t => some (t.1, t.2.1, t.2.2.1, t.2.2.2.1, t.2.2.2.2.1)) (flo o) := by
  simp only [res_eq h]; exact Et.now _
abbrev R5 := Int × Int × Int × Int × Bool
def z5 : R5 := (0, 0, 0, 0, false)
theorem addI_impl (i k : IV) : Et (fun z zn => impl_AddIntervals.f z i.1.1 i.1.2 i.2.1 i.2.2 k.1.1 k.1.2 k.2.1 k.2.2) (G2 i k (flo (IADD i k)) z5) := by
  unfold impl_AddIntervals.f impl_AddIntervals.g; simp only [cnd3]
  refine gate_impl fun h1 h2 => ?_
  obtain ⟨x, ok, e1, e2⟩ := add_ev true (ivG_B h1).1 (ivG_B h2).1
  exact Et.bind e1 (res_ev e2)
theorem addI_spec (i k : IV) : Et (fun z zn => spec_AddIntervals.f z i.1.1 i.1.2 i.2.1 i.2.2 k.1.1 k.1.2 k.2.1 k.2.2) (G2 i k (flo (IADD i k)) z5) := by
  unfold spec_AddIntervals.f spec_AddIntervals.g; simp only [cnd3]
  exact gate_spec fun h1 h2 => Et.bind (ivAdd_ev (ivG_B h1).1 (ivG_B h2).1) (Et.now _)
/-- A difference. -/
def ngI (k : IV) : IV := (ng k.2, ng k.1)
theorem ngI_B {k : IV} (h : ivB k) : ivB (ngI k) := ⟨dB_ng h.2, dB_ng h.1⟩
theorem sub_ev (ok : Bool) {i k : IV} (hi : ivB i) (hk : ivB k) : ∃ x ok', Et (fun z zn => impl_reckoner_subtract.f z ok i.1.1 i.1.2 i.2.1 i.2.2 k.1.1 k.1.2 k.2.1 k.2.2) (fl5 x ok') ∧ stepOk ok (IADD i (ngI k)) x ok' := by
  obtain ⟨x, ok', e1, e2⟩ := add_ev ok hi (ngI_B hk)
  refine ⟨x, ok', ?_, e2⟩
  have p1 := sum_ev ok hi.1 (dB_ng hk.2)
  have p2 := sum_ev (KP ok (SUp i.1 (ng k.2))).2.2 hi.2 (dB_ng hk.1)
  have e3 : Et (fun z zn => impl_reckoner_add.f z ok i.1.1 i.1.2 i.2.1 i.2.2 (ngI k).1.1 (ngI k).1.2 (ngI k).2.1 (ngI k).2.2) ((KP ok (SUp i.1 (ng k.2))).1, (KP ok (SUp i.1 (ng k.2))).2.1, (KP (KP ok (SUp i.1 (ng k.2))).2.2 (SUp i.2 (ng k.1))).1, (KP (KP ok (SUp i.1 (ng k.2))).2.2 (SUp i.2 (ng k.1))).2.1, (KP (KP ok (SUp i.1 (ng k.2))).2.2 (SUp i.2 (ng k.1))).2.2) := by
    unfold impl_reckoner_add.f impl_reckoner_add.g
    exact Et.bind p1 (Et.bind p2 (Et.now _))
  rw [Et_unique e1 e3]
  unfold impl_reckoner_subtract.f impl_reckoner_subtract.g
  generalize KP (KP ok (SUp i.1 (ng k.2))).2.2 (SUp i.2 (ng k.1)) = B at *
  exact Et_bindS (minus_eq hk.2) (Et.bind p1 (Et_bindS (minus_eq hk.1) (Et.bind p2 (Et.now _))))
theorem subI_impl (i k : IV) : Et (fun z zn => impl_SubtractIntervals.f z i.1.1 i.1.2 i.2.1 i.2.2 k.1.1 k.1.2 k.2.1 k.2.2) (G2 i k (flo (IADD i (ngI k))) z5) := by
  unfold impl_SubtractIntervals.f impl_SubtractIntervals.g; simp only [cnd3]
  refine gate_impl fun h1 h2 => ?_
  obtain ⟨x, ok, e1, e2⟩ := sub_ev true (ivG_B h1).1 (ivG_B h2).1
  exact Et.bind e1 (res_ev e2)
theorem subI_spec (i k : IV) : Et (fun z zn => spec_SubtractIntervals.f z i.1.1 i.1.2 i.2.1 i.2.2 k.1.1 k.1.2 k.2.1 k.2.2) (G2 i k (flo (IADD i (ngI k))) z5) := by
  unfold spec_SubtractIntervals.f spec_SubtractIntervals.g; simp only [cnd3]
  refine gate_spec fun h1 h2 => Et.bind (a := flo (IADD i (ngI k))) ?_ (Et.now _)
  have hk := (ivG_B h2).1
  unfold spec_ivSub.f spec_ivSub.g
  refine Et_bindS (show spec_ivMinus.f k.1.1 k.1.2 k.2.1 k.2.2 = some (fl4 (ngI k)) from ?_) (Et.bind (ivAdd_ev (ivG_B h1).1 (ngI_B hk)) (Et.now _))
  unfold spec_ivMinus.f spec_ivMinus.g
  rw [dyMinus_eq hk.2, dyMinus_eq hk.1]; rfl
theorem mulI_impl (i k : IV) : Et (fun z zn => impl_MultiplyIntervals.f z i.1.1 i.1.2 i.2.1 i.2.2 k.1.1 k.1.2 k.2.1 k.2.2) (G2 i k (flo (IMUL i k)) z5) := by
  unfold impl_MultiplyIntervals.f impl_MultiplyIntervals.g; simp only [cnd3]
  refine gate_impl fun h1 h2 => ?_
  obtain ⟨x, ok, e1, e2⟩ := multiply_ev true (ivG_B h1).1 (ivG_B h2).1
  exact Et.bind e1 (res_ev e2)
theorem mulI_spec (i k : IV) : Et (fun z zn => spec_MultiplyIntervals.f z i.1.1 i.1.2 i.2.1 i.2.2 k.1.1 k.1.2 k.2.1 k.2.2) (G2 i k (flo (IMUL i k)) z5) := by
  unfold spec_MultiplyIntervals.f spec_MultiplyIntervals.g; simp only [cnd3]
  exact gate_spec fun h1 h2 => Et.bind (ivMul_ev (ivG_B h1).1 (ivG_B h2).1) (Et.now _)
theorem hulI_impl (i k : IV) : Et (fun z zn => impl_HullOf.f z i.1.1 i.1.2 i.2.1 i.2.2 k.1.1 k.1.2 k.2.1 k.2.2) (G2 i k (fl5 (HUL i k) true) z5) := by
  unfold impl_HullOf.f impl_HullOf.g; simp only [cnd3]
  refine gate_impl fun h1 h2 => ?_
  have a := (ivG_B h1).1
  have b := (ivG_B h2).1
  exact Et.bind (lesser_ev a.1 b.1) (Et.bind (greater_ev a.2 b.2) (Et.now _))
theorem hulI_spec (i k : IV) : Et (fun z zn => spec_HullOf.f z i.1.1 i.1.2 i.2.1 i.2.2 k.1.1 k.1.2 k.2.1 k.2.2) (G2 i k (fl5 (HUL i k) true) z5) := by
  unfold spec_HullOf.f spec_HullOf.g; simp only [cnd3]
  refine gate_spec fun h1 h2 => ?_
  have a := (ivG_B h1).1
  have b := (ivG_B h2).1
  have he := ends_ev i.1 [i.2, k.1, k.2] (by simp) (by
    intro y hy
    simp only [List.mem_cons, List.not_mem_nil, or_false] at hy
    rcases hy with rfl | rfl | rfl | rfl
    · exact a.1
    · exact a.2
    · exact b.1
    · exact b.2)
  simp only [List.foldl_cons, List.foldl_nil] at he
  rw [HUL_spec h1 h2] at he
  refine Et.bind (a := fl4 (HUL i k)) ?_ (Et.now _)
  generalize HUL i k = H at *
  unfold spec_ivHull.f spec_ivHull.g
  exact Et.bind he (Et.now _)
/-- What both have. -/
def ICOM (i k : IV) : Option IV := if dV (lessP i.2 k.2) < dV (grtP i.1 k.1) then none else some (grtP i.1 k.1, lessP i.2 k.2)
theorem comI_impl (i k : IV) : Et (fun z zn => impl_CommonPart.f z i.1.1 i.1.2 i.2.1 i.2.2 k.1.1 k.1.2 k.2.1 k.2.2) (G2 i k (flo (ICOM i k)) z5) := by
  unfold impl_CommonPart.f impl_CommonPart.g; simp only [cnd3]
  refine gate_impl fun h1 h2 => Et.bind (a := flo (ICOM i k)) ?_ (Et.now _)
  have a := (ivG_B h1).1
  have b := (ivG_B h2).1
  have m1 := grtP_dB a.1 b.1
  have m2 := lessP_dB a.2 b.2
  have q1 := greater_ev a.1 b.1
  have q2 := lesser_ev a.2 b.2
  unfold ICOM impl_commonPart.f impl_commonPart.g; simp only [cnd4, decide_eq_true_eq]
  generalize grtP i.1 k.1 = u at *
  generalize lessP i.2 k.2 = v at *
  have r1 := dB_range m1
  have r2 := dB_range m2
  refine Et.bind q1 (Et.bind q2 (Et.bind (compareD_ev u.1 u.2 v.1 v.2 r1.2 r1.1 r2.2 r2.1) (Et_if (fun h => ?_) (fun h => ?_))))
  · have := (sgn_gt _).1 h
    rw [if_pos (show dV v < dV u by unfold dV; omega)]; exact Et.now _
  · have := mt (sgn_gt _).2 h
    rw [if_neg (show ¬ dV v < dV u by unfold dV; omega)]; exact Et.now _
theorem comI_spec (i k : IV) : Et (fun z zn => spec_CommonPart.f z i.1.1 i.1.2 i.2.1 i.2.2 k.1.1 k.1.2 k.2.1 k.2.2) (G2 i k (flo (ICOM i k)) z5) := by
  unfold spec_CommonPart.f spec_CommonPart.g; simp only [cnd3]
  refine gate_spec fun h1 h2 => Et.bind (a := flo (ICOM i k)) ?_ (Et.now _)
  have a := (ivG_B h1).1
  have b := (ivG_B h2).1
  have m1 := grtP_dB a.1 b.1
  have m2 := lessP_dB a.2 b.2
  have pair : ∀ x y : Int × Int, dB x = true → dB y = true → ∀ w ∈ [x, y], dB w = true := by
    intro x y hx hy w hw
    simp only [List.mem_cons, List.not_mem_nil, or_false] at hw
    rcases hw with rfl | rfl <;> assumption
  have e1 := ends_ev i.1 [k.1] (by simp) (pair _ _ a.1 b.1)
  have e2 := ends_ev i.2 [k.2] (by simp) (pair _ _ a.2 b.2)
  simp only [List.foldl_cons, List.foldl_nil] at e1 e2
  unfold ICOM spec_ivCommon.f spec_ivCommon.g; simp only [cnd4, decide_eq_true_eq]
  generalize grtP i.1 k.1 = u at *
  generalize lessP i.2 k.2 = v at *
  have r1 := dB_range m1
  have r2 := dB_range m2
  refine Et.bind e1 (Et.bind e2 (Et.bind (dyCmp_ev u.1 u.2 v.1 v.2 r1.2 r1.1 r2.2 r2.1) (Et_if (fun h => ?_) (fun h => ?_))))
  · have := (sgn_gt _).1 h
    rw [if_pos (show dV v < dV u by unfold dV; omega)]; exact Et.now _
  · have := mt (sgn_gt _).2 h
    rw [if_neg (show ¬ dV v < dV u by unfold dV; omega)]; exact Et.now _
def IWI (i k : IV) : Bool := decide (dV k.1 < dV i.1) && decide (dV i.2 < dV k.2)
theorem witI_impl (i k : IV) : Et (fun z zn => impl_IsWithin.f z i.1.1 i.1.2 i.2.1 i.2.2 k.1.1 k.1.2 k.2.1 k.2.2) (G2 i k (IWI i k, true) (false, false)) := by
  unfold impl_IsWithin.f impl_IsWithin.g; simp only [cnd3]
  refine gate_impl fun h1 h2 => ?_
  have a := (ivG_B h1).1
  have b := (ivG_B h2).1
  have ra := dB_range a.1; have rb := dB_range a.2; have rc := dB_range b.1; have rd := dB_range b.2
  simp only [cnd4]
  refine Et.bind (compareD_ev _ _ _ _ rc.2 rc.1 ra.2 ra.1) ?_
  rw [dec_sgn_lt]
  refine Et_if (fun h => Et.bind (compareD_ev _ _ _ _ rb.2 rb.1 rd.2 rd.1) (Et_eq (Et.now _) ?_)) (fun h => Et_eq (Et.now _) ?_)
  · rw [dec_sgn_lt]; unfold IWI dV; rw [h]; rfl
  · unfold IWI dV; rw [Bool.eq_false_iff.2 h]; rfl
theorem witI_spec (i k : IV) : Et (fun z zn => spec_IsWithin.f z i.1.1 i.1.2 i.2.1 i.2.2 k.1.1 k.1.2 k.2.1 k.2.2) (G2 i k (IWI i k, true) (false, false)) := by
  unfold spec_IsWithin.f spec_IsWithin.g; simp only [cnd3]
  refine gate_spec fun h1 h2 => Et.bind (a := IWI i k) ?_ (Et.now _)
  have a := (ivG_B h1).1
  have b := (ivG_B h2).1
  have ra := dB_range a.1; have rb := dB_range a.2; have rc := dB_range b.1; have rd := dB_range b.2
  unfold spec_ivInside.f spec_ivInside.g; simp only [cnd4]
  refine Et.bind (dyCmp_ev _ _ _ _ rc.2 rc.1 ra.2 ra.1) ?_
  rw [dec_sgn_lt]
  refine Et_if (fun h => Et.bind (dyCmp_ev _ _ _ _ rb.2 rb.1 rd.2 rd.1) (Et_eq (Et.now _) ?_)) (fun h => Et_eq (Et.now _) ?_)
  · rw [dec_sgn_lt]; unfold IWI dV; rw [h]; rfl
  · unfold IWI dV; rw [Bool.eq_false_iff.2 h]; rfl
theorem isI_ev (i : IV) : Et (fun z zn => impl_IsInterval.f z i.1.1 i.1.2 i.2.1 i.2.2) (ivG i) := by
  unfold impl_IsInterval.f impl_IsInterval.g
  exact Et.bind (isInterval_ev i) (Et.now _)
theorem dyTwo_eq (a b : Int × Int) : spec_dyTwo.f a.1 a.2 b.1 b.2 = some (dB a && dB b) := by
  unfold spec_dyTwo.f spec_dyTwo.g dB
  rw [dyGood_eq, Option.bind_some]
  cases dyB a.1 a.2 with
  | true => rw [cond_true, dyGood_eq]; rfl
  | false => rfl
theorem qUp_ev {a b : Int × Int} (ha : dB a = true) (hb : dB b = true) : Et (fun z zn => laws_qUp.f z a.1 a.2 b.1 b.2) (sgnI (dV a - dV b)) := by
  have ra := dB_range ha; have rb := dB_range hb
  unfold laws_qUp.f laws_qUp.g
  refine Et.bind (a := (sgnI (dV a - dV b), true)) ?_ (Et.now _)
  unfold spec_CompareDyadic.f spec_CompareDyadic.g; simp only [cnd3]
  refine Et_bindS (dyTwo_eq a b) ?_
  rw [ha, hb]
  exact Et_if (fun _ => Et.bind (dyCmp_ev _ _ _ _ ra.2 ra.1 rb.2 rb.1) (Et.now _)) (fun h => absurd rfl h)
theorem qIn_ev {i : IV} {a : Int × Int} (hi : ivB i) (ha : dB a = true) : Et (fun z zn => laws_qIn.f z i.1.1 i.1.2 i.2.1 i.2.2 a.1 a.2) (decide (dV i.1 ≤ dV a) && decide (dV a ≤ dV i.2)) := by
  unfold laws_qIn.f laws_qIn.g; simp only [cnd4]
  refine Et.bind (qUp_ev hi.1 ha) ?_
  rw [dec_sgn]
  refine Et_if (fun h => Et.bind (qUp_ev ha hi.2) (Et_eq (Et.now _) ?_)) (fun h => Et_eq (Et.now _) ?_)
  · rw [dec_sgn, h]; rfl
  · rw [Bool.eq_false_iff.2 h]; rfl
/-- One lies in another one. -/
def inI (i k : IV) : Bool := (decide (dV k.1 ≤ dV i.1) && decide (dV i.1 ≤ dV k.2)) && (decide (dV k.1 ≤ dV i.2) && decide (dV i.2 ≤ dV k.2))
theorem qPart_ev {i k : IV} (hi : ivB i) (hk : ivB k) : Et (fun z zn => laws_qPart.f z i.1.1 i.1.2 i.2.1 i.2.2 k.1.1 k.1.2 k.2.1 k.2.2) (inI i k) := by
  unfold laws_qPart.f laws_qPart.g inI; simp only [cnd4]
  refine Et.bind (qIn_ev hk hi.1) ?_
  refine Et_if (fun h => Et.bind (qIn_ev hk hi.2) (Et_eq (Et.now _) ?_)) (fun h => Et_eq (Et.now _) ?_)
  · rw [h]; rfl
  · rw [Bool.eq_false_iff.2 h]; rfl
theorem mulD_ev {a b : Int × Int} (ha : dB a = true) (hb : dB b = true) : Et (fun z zn => spec_MultiplyDyadic.f z a.1 a.2 b.1 b.2) (PRp a b) := by
  unfold spec_MultiplyDyadic.f spec_MultiplyDyadic.g; simp only [cnd3]
  refine Et_bindS (dyTwo_eq a b) ?_
  rw [ha, hb]
  exact Et_if (fun _ => Et.bind (dyMulP ha hb) (Et.now _)) (fun h => absurd rfl h)
/-! ### the draws come to an end -/
/-- Bytes. -/
def BY (c : List Int) : Prop := ∀ x ∈ c, 0 ≤ x ∧ x < 256
theorem rd_mem (l : List Int) (i : Nat) (h : i < l.length) : rd l (i : Int) ∈ l := by
  have : rd l (i : Int) = l[i] := by simp [rd, h]
  rw [this]; exact List.getElem_mem h
theorem and255 (a : Int) : 0 ≤ andI .u64 a 255 ∧ andI .u64 a 255 ≤ 255 := by
  have h64 : IntKind.u64.bits = 64 := rfl
  have e : (BitVec.ofInt IntKind.u64.bits 255).toNat = 255 := by decide
  unfold andI
  simp only [BitVec.toNat_and, e]
  have h : (BitVec.ofInt IntKind.u64.bits a).toNat &&& 255 ≤ 255 := Nat.and_le_right
  rw [u64r _ ⟨by omega, by omega⟩]
  omega
theorem and255w (a : Int) : 0 ≤ wrap64 (andI .u64 a 255) ∧ wrap64 (andI .u64 a 255) < 256 := by
  have := and255 a
  generalize andI .u64 a 255 = y at *
  unfold wrap64; omega
theorem cur_next (c : List Int) (hc : BY c) (a s : Int) (h : 0 ≤ a ∧ a ≤ 4611686018427387904) : ∃ r s', spec_l1Cur_next.f c a s = some (r, c, a + 1, s') ∧ 0 ≤ r ∧ r < 256 := by
  have w1 : wrap64 (a + 1) = a + 1 := by unfold wrap64; omega
  have hr : a < (c.length : Int) → 0 ≤ rd c a ∧ rd c a < 256 := by
    intro hl
    obtain ⟨i, rfl⟩ := Int.eq_ofNat_of_zero_le h.1
    exact hc _ (rd_mem c i (by omega))
  unfold spec_l1Cur_next.f spec_l1Cur_next.g spec_l1Cur_next.j101
  simp only [cnd4, decide_eq_true_eq, w1]
  by_cases h1 : a < (c.length : Int)
  · have hr := hr h1
    rw [if_pos h1, if_pos h.1, if_pos h1]
    by_cases h2 : a + 1 ≤ (c.length : Int)
    · rw [if_pos h2]
      exact ⟨_, _, rfl, by unfold wrap64; omega, by unfold wrap64; omega⟩
    · rw [if_neg h2]
      exact ⟨_, _, rfl, (and255w _).1, (and255w _).2⟩
  · rw [if_neg h1]
    by_cases h2 : a + 1 ≤ (c.length : Int)
    · rw [if_pos h2]; exact ⟨_, _, rfl, by omega, by omega⟩
    · rw [if_neg h2]
      exact ⟨_, _, rfl, (and255w _).1, (and255w _).2⟩
theorem cur_pick (c : List Int) (hc : BY c) (a s n M : Int) (h : 0 ≤ a ∧ a ≤ M) (hM : M ≤ 4000000000000000000) (hn : 1 ≤ n) : ∃ r a' s', spec_l1Cur_pick.f c a s n = some (r, c, a', s') ∧ (0 ≤ r ∧ r < n) ∧ (0 ≤ a' ∧ a' ≤ M + 2) := by
  have tm : ∀ x : Int, 0 ≤ x → 0 ≤ Int.tmod x n ∧ Int.tmod x n < n := fun x hx => ⟨Int.tmod_nonneg n hx, Int.tmod_lt_of_pos x (by omega)⟩
  unfold spec_l1Cur_pick.f spec_l1Cur_pick.g
  simp only [cnd4, decide_eq_true_eq]
  by_cases h1 : n ≤ 1
  · rw [if_pos h1]; exact ⟨_, _, _, rfl, ⟨by omega, by omega⟩, ⟨h.1, by omega⟩⟩
  · rw [if_neg h1]
    obtain ⟨r, s1, e1, r0, r1⟩ := cur_next c hc a s ⟨h.1, by omega⟩
    rw [e1, Option.bind_some]
    by_cases h2 : 200 < n
    · rw [if_pos h2]
      obtain ⟨q, s2, e2, q0, q1⟩ := cur_next c hc (a + 1) s1 ⟨by omega, by omega⟩
      simp only
      rw [e2, Option.bind_some, if_neg (by omega)]
      exact ⟨_, a + 1 + 1, s2, rfl, tm _ (by unfold wrap64; omega), ⟨by omega, by omega⟩⟩
    · rw [if_neg h2, if_neg (by omega)]
      exact ⟨_, a + 1, s1, rfl, tm _ r0, ⟨by omega, by omega⟩⟩
theorem cur_among (c : List Int) (hc : BY c) (a s M : Int) (l : List Int) (h : 0 ≤ a ∧ a ≤ M) (hM : M ≤ 4000000000000000000) (hl : 1 ≤ l.length) : ∃ r a' s', spec_l1Cur_among.f c a s l = some (r, c, a', s') ∧ r ∈ l ∧ (0 ≤ a' ∧ a' ≤ M + 2) := by
  obtain ⟨i, a', s', e, hi, ha⟩ := cur_pick c hc a s (l.length : Int) M h hM (by omega)
  unfold spec_l1Cur_among.f spec_l1Cur_among.g
  simp only [cnd4, decide_eq_true_eq]
  rw [e, Option.bind_some, if_pos hi.1, if_pos hi.2]
  refine ⟨_, _, _, rfl, ?_, ha⟩
  obtain ⟨j, rfl⟩ := Int.eq_ofNat_of_zero_le hi.1
  exact rd_mem l j (by omega)
theorem cur_one (c : List Int) (hc : BY c) (a s n M : Int) (h : 0 ≤ a ∧ a ≤ M) (hM : M ≤ 4000000000000000000) (hn : 1 ≤ n) : ∃ r a' s', spec_l1Cur_one.f c a s n = some (r, c, a', s') ∧ (0 ≤ a' ∧ a' ≤ M + 2) := by
  obtain ⟨i, a', s', e, hi, ha⟩ := cur_pick c hc a s n M h hM hn
  unfold spec_l1Cur_one.f spec_l1Cur_one.g
  rw [e, Option.bind_some]
  exact ⟨_, _, _, rfl, ha⟩
theorem cur_dy_end (p : Bool) (c : List Int) (a s : Int) (k : Nat) (R : Int) : ∃ d : Int × Int, Et (fun z _ => spec_l1Cur_dyadic.j110 z (FIT k R).2.2 p c a s (FIT k R).1 (FIT k R).2.1) (d.1, d.2, c, a, s) ∧ dB d = true := by
  have hd := FIT_dB k R
  generalize FIT k R = r at *
  obtain ⟨x, y, ok⟩ := r
  unfold spec_l1Cur_dyadic.j110
  cases ok with
  | true => exact ⟨(x, y), Et.now _, hd⟩
  | false =>
    refine ⟨(1, 0), ?_, rfl⟩
    show Et (fun _ _ => (spec_dyInt.f 1).bind fun t => some (t.1, t.2, c, a, s)) _
    exact Et_bindS (show spec_dyInt.f 1 = some (1, 0) from rfl) (Et.now _)
theorem cur_dyadic (c : List Int) (hc : BY c) (a s M : Int) (h : 0 ≤ a ∧ a ≤ M) (hM : M ≤ 3000000000000000000) : ∃ (d : Int × Int) (a' s' : Int), Et (fun z _ => spec_l1Cur_dyadic.f z c a s) (d.1, d.2, c, a', s') ∧ dB d = true ∧ (0 ≤ a' ∧ a' ≤ M + 14) := by
  obtain ⟨r1, a1, s1, e1, p1, q1⟩ := cur_pick c hc a s 65 M h (by omega) (by omega)
  obtain ⟨r2, a2, s2, e2, p2, q2⟩ := cur_pick c hc a1 s1 60000 (M + 2) q1 (by omega) (by omega)
  obtain ⟨r3, a3, s3, e3, p3, q3⟩ := cur_among c hc a2 s2 (M + 2 + 2) [0, 1, (-1), 3, (-5), 7, wrap64 (r1 - 32), wrap64 (r2 - 30000)] q2 (by omega) (by simp)
  obtain ⟨r4, a4, s4, e4, p4, q4⟩ := cur_among c hc a3 s3 (M + 2 + 2 + 2) [0, 0, 1, 2, 3, 8, 16, 24] q3 (by omega) (by decide)
  obtain ⟨b5, a5, s5, e5, q5⟩ := cur_one c hc a4 s4 16 (M + 2 + 2 + 2 + 2) q4 (by omega) (by omega)
  have h3 : -60000 ≤ r3 ∧ r3 ≤ 60000 := by
    rw [show wrap64 (r1 - 32) = r1 - 32 by unfold wrap64; omega, show wrap64 (r2 - 30000) = r2 - 30000 by unfold wrap64; omega] at p3
    simp at p3; omega
  have h4 : 0 ≤ r4 ∧ r4 ≤ 24 := by simp at p4; omega
  have f1 := dyMake_fit r4.toNat r3 (by omega) (by omega)
  rw [Int.toNat_of_nonneg h4.1] at f1
  unfold spec_l1Cur_dyadic.f spec_l1Cur_dyadic.g
  simp only [cnd4]
  cases b5 with
  | true =>
    obtain ⟨r6, a6, s6, e6, p6, q6⟩ := cur_among c hc a5 s5 (M + 2 + 2 + 2 + 2 + 2) [1099511627776, (-1099511627776), 1099511627775, (-1099511627775)] q5 (by omega) (by decide)
    obtain ⟨r7, a7, s7, e7, p7, q7⟩ := cur_among c hc a6 s6 (M + 2 + 2 + 2 + 2 + 2 + 2) [0, 1, 24] q6 (by omega) (by decide)
    have h6 : -1099511627776 ≤ r6 ∧ r6 ≤ 1099511627776 := by simp at p6; omega
    have h7 : 0 ≤ r7 ∧ r7 ≤ 24 := by simp at p7; omega
    have f2 := dyMake_fit r7.toNat r6 (by omega) (by omega)
    rw [Int.toNat_of_nonneg h7.1] at f2
    obtain ⟨d, g1, g2⟩ := cur_dy_end true c a7 s7 r7.toNat r6
    exact ⟨d, a7, s7, Et_bindS e1 (Et_bindS e2 (Et_bindS e3 (Et_bindS e4 (Et.bind f1 (Et_bindS e5 (Et_if (fun _ => Et_bindS e6 (Et_bindS e7 (Et.bind f2 g1))) (fun h => absurd rfl h))))))), g2, by omega⟩
  | false =>
    obtain ⟨d, g1, g2⟩ := cur_dy_end false c a5 s5 r4.toNat r3
    exact ⟨d, a5, s5, Et_bindS e1 (Et_bindS e2 (Et_bindS e3 (Et_bindS e4 (Et.bind f1 (Et_bindS e5 (Et_if (fun h => by cases h) (fun _ => g1))))))), g2, by omega⟩
theorem cur_anyDyadic (c : List Int) (hc : BY c) (a s M : Int) (h : 0 ≤ a ∧ a ≤ M) (hM : M ≤ 2000000000000000000) : ∃ (d : Int × Int) (a' s' : Int), Et (fun z _ => spec_l1Cur_anyDyadic.f z c a s) (d.1, d.2, c, a', s') ∧ (0 ≤ a' ∧ a' ≤ M + 20) := by
  obtain ⟨d, a1, s1, e1, _, q1⟩ := cur_dyadic c hc a s M h (by omega)
  obtain ⟨r2, a2, s2, e2, p2, q2⟩ := cur_pick c hc a1 s1 30 (M + 14) q1 (by omega) (by omega)
  unfold spec_l1Cur_anyDyadic.f spec_l1Cur_anyDyadic.g
  simp only [cnd4, decide_eq_true_eq]
  by_cases h0 : r2 = 0
  · obtain ⟨r3, a3, s3, e3, p3, q3⟩ := cur_among c hc a2 s2 (M + 14 + 2) [(-1), 25, 4611686018427387904] q2 (by omega) (by decide)
    exact ⟨(d.1, r3), a3, s3, Et.bind e1 (Et_bindS e2 (Et_if (fun _ => Et_bindS e3 (Et.now _)) (fun h => absurd h0 h))), by omega⟩
  · by_cases h1 : r2 = 1
    · obtain ⟨r3, a3, s3, e3, p3, q3⟩ := cur_among c hc a2 s2 (M + 14 + 2) [1099511627777, (-1099511627777), (-9223372036854775808)] q2 (by omega) (by decide)
      exact ⟨(r3, d.2), a3, s3, Et.bind e1 (Et_bindS e2 (Et_if (fun h => absurd h h0) (fun _ => Et_if (fun _ => Et_bindS e3 (Et.now _)) (fun h => absurd h1 h)))), by omega⟩
    · by_cases h2 : r2 = 2
      · obtain ⟨r3, a3, s3, e3, p3, q3⟩ := cur_pick c hc a2 s2 9 (M + 14 + 2) q2 (by omega) (by omega)
        obtain ⟨r4, a4, s4, e4, p4, q4⟩ := cur_pick c hc a3 s3 4 (M + 14 + 2 + 2) q3 (by omega) (by omega)
        exact ⟨(_, _), a4, s4, Et.bind e1 (Et_bindS e2 (Et_if (fun h => absurd h h0) (fun _ => Et_if (fun h => absurd h h1) (fun _ => Et_if (fun _ => Et_bindS e3 (Et_bindS e4 (Et.now _))) (fun h => absurd h2 h))))), by omega⟩
      · exact ⟨d, a2, s2, Et.bind e1 (Et_bindS e2 (Et_if (fun h => absurd h h0) (fun _ => Et_if (fun h => absurd h h1) (fun _ => Et_if (fun h => absurd h h2) (fun _ => Et.now _))))), by omega⟩
/-! ### intervals drawn -/
theorem cur_iv_j106 (c : List Int) (hc : BY c) (a s M : Int) (h : 0 ≤ a ∧ a ≤ M) (hM : M ≤ 3000000000000000000) {x y : Int × Int} (hx : dB x = true) (hy : dB y = true) (u : List Int × Int × Int) (p : Bool) : ∃ (i : IV) (a' s' : Int), Et (fun z _ => spec_l1Cur_interval.j106 z (x.1, x.2, u) p c a s y.1 y.2) (i.1.1, i.1.2, i.2.1, i.2.2, c, a', s') ∧ (0 ≤ a' ∧ a' ≤ M + 2) := by
  obtain ⟨b1, a1, s1, e1, q1⟩ := cur_one c hc a s 6 M h (by omega) (by omega)
  have he : ∀ y : Int × Int, dB y = true → Et (fun z zn => spec_ivEnds.f z [(x.1, x.2), (y.1, y.2)]) (fl4 (lessP x y, grtP x y)) := fun y hy => by
    have := ends_ev x [y] (by simp) (by
      intro w hw
      simp only [List.mem_cons, List.not_mem_nil, or_false] at hw
      rcases hw with rfl | rfl <;> assumption)
    simpa only [List.foldl_cons, List.foldl_nil] using this
  unfold spec_l1Cur_interval.j106 spec_l1Cur_interval.j114
  simp only [cnd4]
  cases b1 with
  | true => exact ⟨(lessP x x, grtP x x), a1, s1, Et_bindS e1 (Et_if (fun _ => Et.bind (he x hx) (Et.now _)) (fun h => absurd rfl h)), q1⟩
  | false => exact ⟨(lessP x y, grtP x y), a1, s1, Et_bindS e1 (Et_if (fun h => by cases h) (fun _ => Et.bind (he y hy) (Et.now _))), q1⟩
theorem cur_interval (c : List Int) (hc : BY c) (a s M : Int) (h : 0 ≤ a ∧ a ≤ M) (hM : M ≤ 2000000000000000000) : ∃ (i : IV) (a' s' : Int), Et (fun z _ => spec_l1Cur_interval.f z c a s) (i.1.1, i.1.2, i.2.1, i.2.2, c, a', s') ∧ (0 ≤ a' ∧ a' ≤ M + 40) := by
  obtain ⟨x, a1, s1, e1, hx, q1⟩ := cur_dyadic c hc a s M h (by omega)
  obtain ⟨y, a2, s2, e2, hy, q2⟩ := cur_dyadic c hc a1 s1 (M + 14) q1 (by omega)
  obtain ⟨b3, a3, s3, e3, q3⟩ := cur_one c hc a2 s2 3 (M + 14 + 14) q2 (by omega) (by omega)
  unfold spec_l1Cur_interval.f spec_l1Cur_interval.g
  simp only [cnd4]
  cases b3 with
  | false =>
    obtain ⟨i, a4, s4, e4, q4⟩ := cur_iv_j106 c hc a3 s3 (M + 14 + 14 + 2) q3 (by omega) hx hy (c, a1, s1) false
    exact ⟨i, a4, s4, Et.bind e1 (Et.bind e2 (Et_bindS e3 (Et_if (fun h => by cases h) (fun _ => e4)))), by omega⟩
  | true =>
    obtain ⟨r4, a4, s4, e4, p4, q4⟩ := cur_among c hc a3 s3 (M + 14 + 14 + 2) [0, 3, 8] q3 (by omega) (by decide)
    have hb : dB (1, r4) = true := by
      simp only [List.mem_cons, List.not_mem_nil, or_false] at p4
      rcases p4 with rfl | rfl | rfl <;> rfl
    have ad := dyAddP hx hb
    have adB := SUp_dB x (1, r4)
    generalize SUp x (1, r4) = w at *
    obtain ⟨n, k, o⟩ := w
    cases o with
    | true =>
      obtain ⟨i, a5, s5, e5, q5⟩ := cur_iv_j106 c hc a4 s4 (M + 14 + 14 + 2 + 2) q4 (by omega) hx (y := (n, k)) adB (c, a1, s1) true
      exact ⟨i, a5, s5, Et.bind e1 (Et.bind e2 (Et_bindS e3 (Et_if (fun _ => Et_bindS e4 (Et.bind ad (Et_if (fun _ => e5) (fun h => absurd rfl h)))) (fun h => absurd rfl h)))), by omega⟩
    | false =>
      obtain ⟨i, a5, s5, e5, q5⟩ := cur_iv_j106 c hc a4 s4 (M + 14 + 14 + 2 + 2) q4 (by omega) hx hy (c, a1, s1) true
      exact ⟨i, a5, s5, Et.bind e1 (Et.bind e2 (Et_bindS e3 (Et_if (fun _ => Et_bindS e4 (Et.bind ad (Et_if (fun h => by cases h) (fun _ => e5)))) (fun h => absurd rfl h)))), by omega⟩
theorem cur_anyInterval (c : List Int) (hc : BY c) (a s M : Int) (h : 0 ≤ a ∧ a ≤ M) (hM : M ≤ 1000000000000000000) : ∃ (i : IV) (a' s' : Int), Et (fun z _ => spec_l1Cur_anyInterval.f z c a s) (i.1.1, i.1.2, i.2.1, i.2.2, c, a', s') ∧ (0 ≤ a' ∧ a' ≤ M + 70) := by
  obtain ⟨i, a1, s1, e1, q1⟩ := cur_interval c hc a s M h (by omega)
  obtain ⟨r2, a2, s2, e2, p2, q2⟩ := cur_pick c hc a1 s1 24 (M + 40) q1 (by omega) (by omega)
  obtain ⟨d, a3, s3, e3, q3⟩ := cur_anyDyadic c hc a2 s2 (M + 40 + 2) q2 (by omega)
  unfold spec_l1Cur_anyInterval.f spec_l1Cur_anyInterval.g
  simp only [cnd4, decide_eq_true_eq]
  by_cases h0 : r2 = 0
  · exact ⟨(d, i.2), a3, s3, Et.bind e1 (Et_bindS e2 (Et_if (fun _ => Et.bind e3 (Et.now _)) (fun h => absurd h0 h))), by omega⟩
  · by_cases h1 : r2 = 1
    · exact ⟨(i.1, d), a3, s3, Et.bind e1 (Et_bindS e2 (Et_if (fun h => absurd h h0) (fun _ => Et_if (fun _ => Et.bind e3 (Et.now _)) (fun h => absurd h1 h)))), by omega⟩
    · by_cases h2 : r2 = 2
      · exact ⟨(i.2, i.1), a2, s2, Et.bind e1 (Et_bindS e2 (Et_if (fun h => absurd h h0) (fun _ => Et_if (fun h => absurd h h1) (fun _ => Et_if (fun _ => Et.now _) (fun h => absurd h2 h))))), by omega⟩
      · exact ⟨i, a2, s2, Et.bind e1 (Et_bindS e2 (Et_if (fun h => absurd h h0) (fun _ => Et_if (fun h => absurd h h1) (fun _ => Et_if (fun h => absurd h h2) (fun _ => Et.now _))))), by omega⟩
def fl8 (i k : IV) : Int × Int × Int × Int × Int × Int × Int × Int := (i.1.1, i.1.2, i.2.1, i.2.2, k.1.1, k.1.2, k.2.1, k.2.2)
theorem draw_addI (c : List Int) (hc : BY c) : ∃ i k : IV, Et (fun z _ => spec_DrawAddIntervals.f z c) (fl8 i k) := by
  obtain ⟨i, a1, s1, e1, q1⟩ := cur_anyInterval c hc 0 0 0 ⟨by omega, by omega⟩ (by omega)
  obtain ⟨b2, a2, s2, e2, q2⟩ := cur_one c hc a1 s1 10 (0 + 70) q1 (by omega) (by omega)
  obtain ⟨k, a3, s3, e3, q3⟩ := cur_anyInterval c hc a2 s2 (0 + 70 + 2) q2 (by omega)
  unfold spec_DrawAddIntervals.f spec_DrawAddIntervals.g
  simp only [cnd4]
  cases b2 with
  | true => exact ⟨i, i, Et.bind e1 (Et_bindS e2 (Et_if (fun _ => Et.now _) (fun h => absurd rfl h)))⟩
  | false => exact ⟨i, k, Et.bind e1 (Et_bindS e2 (Et_if (fun h => by cases h) (fun _ => Et.bind e3 (Et.now _))))⟩
theorem HUL_within {i k : IV} (hi : ivG i = true) (hk : ivG k = true) (h : IWI i k = true) : HUL i k = k := by
  unfold IWI at h
  simp only [Bool.and_eq_true, decide_eq_true_eq] at h
  have e1 : lessP i.1 k.1 = k.1 := by unfold lessP; rw [if_pos h.1]
  have e2 : grtP i.2 k.2 = k.2 := by unfold grtP; rw [if_pos h.2]
  unfold HUL
  rw [e1, e2]
theorem HUL_in {i k : IV} (hi : ivG i = true) (hk : ivG k = true) : ivB (HUL i k) ∧ inI i (HUL i k) = true ∧ inI k (HUL i k) = true := by
  obtain ⟨⟨a1, a2⟩, a3⟩ := ivG_B hi
  obtain ⟨⟨b1, b2⟩, b3⟩ := ivG_B hk
  refine ⟨⟨lessP_dB a1 b1, grtP_dB a2 b2⟩, ?_, ?_⟩ <;>
  · unfold inI HUL
    simp only [Bool.and_eq_true, decide_eq_true_eq, dV_less, dV_grt]
    refine ⟨⟨?_, ?_⟩, ?_, ?_⟩ <;> split <;> omega
theorem COM_in {i k x : IV} (hi : ivG i = true) (hk : ivG k = true) (h : ICOM i k = some x) : ivB x ∧ inI x i = true ∧ inI x k = true := by
  obtain ⟨⟨a1, a2⟩, a3⟩ := ivG_B hi
  obtain ⟨⟨b1, b2⟩, b3⟩ := ivG_B hk
  unfold ICOM at h
  split at h
  · cases h
  · rename_i hn
    simp only [Option.some.injEq] at h
    subst h
    refine ⟨⟨grtP_dB a1 b1, lessP_dB a2 b2⟩, ?_, ?_⟩ <;>
    · unfold inI
      simp only [dV_less, dV_grt] at hn
      simp only [Bool.and_eq_true, decide_eq_true_eq, dV_less, dV_grt]
      generalize dV i.1 = p1 at *; generalize dV i.2 = p2 at *; generalize dV k.1 = p3 at *; generalize dV k.2 = p4 at *
      refine ⟨⟨?_, ?_⟩, ?_, ?_⟩ <;> (repeat' split at hn) <;> (repeat' split) <;> omega
theorem ngI_G {k : IV} (h : ivG k = true) : ivG (ngI k) = true := by
  obtain ⟨b, l⟩ := ivG_B h
  refine ivG_of (ngI_B b) ?_
  show dV (ng k.2) ≤ dV (ng k.1)
  rw [dV_ng, dV_ng]; omega
theorem SUB_back {i k s b : IV} (hi : ivG i = true) (hk : ivG k = true) (h : IADD i (ngI k) = some s) (h' : IADD s k = some b) : inI i b = true := by
  obtain ⟨bi, li⟩ := ivG_B hi
  obtain ⟨bk, lk⟩ := ivG_B hk
  have v1 := IADD_val bi (ngI_B bk) h
  have v2 := IADD_val (IADD_B h) bk h'
  have n1 : dV (ngI k).1 = -dV k.2 := dV_ng _
  have n2 : dV (ngI k).2 = -dV k.1 := dV_ng _
  unfold inI
  simp only [Bool.and_eq_true, decide_eq_true_eq]
  omega
theorem g2 {i k : IV} (h1 : ivG i = true) (h2 : ivG k = true) {α : Type} (r d : α) : G2 i k r d = r := by unfold G2; rw [if_pos (by rw [h1, h2]; rfl)]
theorem both_G {i k : IV} {G : Bool} (hG : G = (ivG i && ivG k)) (g : G = true) : ivG i = true ∧ ivG k = true := by rw [hG, Bool.and_eq_true] at g; exact g
theorem eq_self4 (a b c d : Int) : (decide (a = a) && (decide (b = b) && (decide (c = c) && (decide (d = d) && true)))) = true := by simp
theorem FI6 (i k a su s df m pr h hu c co : IV) (G x7 x9 xw : Bool) (hG : G = (ivG i && ivG k)) (hh : G = true → hu = HUL i k) (h7 : x7 = true → G = true ∧ ICOM i k = some co) (h9 : x9 = true → xw = true → G = true ∧ IWI i k = true) : Et (fun z zn => laws_FnIntervals.l6 z zn G x7 x9 xw i.1.1 i.1.2 i.2.1 i.2.2 k.1.1 k.1.2 k.2.1 k.2.2 a.1.1 a.1.2 a.2.1 a.2.2 su.1.1 su.1.2 su.2.1 su.2.2 s.1.1 s.1.2 s.2.1 s.2.2 df.1.1 df.1.2 df.2.1 df.2.2 m.1.1 m.1.2 m.2.1 m.2.2 pr.1.1 pr.1.2 pr.2.1 pr.2.2 h.1.1 h.1.2 h.2.1 h.2.2 hu.1.1 hu.1.2 hu.2.1 hu.2.2 c.1.1 c.1.2 c.2.1 c.2.2 co.1.1 co.1.2 co.2.1 co.2.2) true := by
  refine Et.step (fun z zn => rfl) ?_
  simp only [laws_FnIntervals.l6_s, laws_FnIntervals.s6, cnd3]; simp only [cnd4, decide_eq_true_eq]
  have fin : Et (fun (z zn : Nat) => if x9 = true then (if xw = true then (if G = true then some (decide (hu.1.1 = k.1.1) && (decide (hu.1.2 = k.1.2) && (decide (hu.2.1 = k.2.1) && (decide (hu.2.2 = k.2.2) && true)))) else some false) else some true) else some true) true := by
    refine Et_if (fun a9 => Et_if (fun aw => ?_) (fun _ => Et.now _)) (fun _ => Et.now _)
    obtain ⟨g, w⟩ := h9 a9 aw
    obtain ⟨gi, gk⟩ := both_G hG g
    have e : hu = k := by rw [hh g]; exact HUL_within gi gk w
    rw [e, eq_self4]
    exact Et_if (fun _ => Et.now _) (fun h => absurd g h)
  refine Et_if (fun a7 => ?_) (fun _ => fin)
  obtain ⟨g, e⟩ := h7 a7
  obtain ⟨gi, gk⟩ := both_G hG g
  obtain ⟨c1, c2, c3⟩ := COM_in gi gk e
  have q1 := qPart_ev c1 (ivG_B gi).1
  have q2 := qPart_ev c1 (ivG_B gk).1
  rw [c2] at q1; rw [c3] at q2
  exact Et.bind q1 (Et_if (fun _ => Et.bind q2 (Et_if (fun _ => fin) (fun h => absurd rfl h))) (fun h => absurd rfl h))
theorem FI5 (i k a su s df m pr h hu c co : IV) (G x7 x9 xw : Bool) (hG : G = (ivG i && ivG k)) (hh : G = true → hu = HUL i k) (h7 : x7 = true → G = true ∧ ICOM i k = some co) (h9 : x9 = true → xw = true → G = true ∧ IWI i k = true) : Et (fun z zn => laws_FnIntervals.l5 z zn G x7 x9 xw i.1.1 i.1.2 i.2.1 i.2.2 k.1.1 k.1.2 k.2.1 k.2.2 a.1.1 a.1.2 a.2.1 a.2.2 su.1.1 su.1.2 su.2.1 su.2.2 s.1.1 s.1.2 s.2.1 s.2.2 df.1.1 df.1.2 df.2.1 df.2.2 m.1.1 m.1.2 m.2.1 m.2.2 pr.1.1 pr.1.2 pr.2.1 pr.2.2 h.1.1 h.1.2 h.2.1 h.2.2 hu.1.1 hu.1.2 hu.2.1 hu.2.2 c.1.1 c.1.2 c.2.1 c.2.2 co.1.1 co.1.2 co.2.1 co.2.2) true := by
  have nx := FI6 i k a su s df m pr h hu c co G x7 x9 xw hG hh h7 h9
  refine Et.step (fun z zn => rfl) ?_
  simp only [laws_FnIntervals.l5_s, laws_FnIntervals.s5, cnd3]; simp only [cnd4, decide_eq_true_eq]
  refine Et_if (fun g => ?_) (fun _ => nx)
  obtain ⟨gi, gk⟩ := both_G hG g
  obtain ⟨b, e1, e2⟩ := HUL_in gi gk
  rw [← hh g] at b e1 e2
  have q1 := qPart_ev (ivG_B gi).1 b
  have q2 := qPart_ev (ivG_B gk).1 b
  rw [e1] at q1; rw [e2] at q2
  exact Et.bind q1 (Et_if (fun _ => Et.bind q2 (Et_if (fun _ => nx) (fun h => absurd rfl h))) (fun h => absurd rfl h))
theorem FI8 (i k a su s df m pr h hu c co : IV) (o : IV) (G x7 x9 xw : Bool) (hp : ivB i) (hk : ivB k) (hm : IMUL i k = some pr) (x : Int × Int) (hx : x = i.1 ∨ x = i.2) (L : List (Int × Int)) (n ii : Int) (hn : Et (fun z zn => laws_FnIntervals.l7 z zn G x7 x9 xw L n (wrap64 (ii + 1)) i.1.1 i.1.2 i.2.1 i.2.2 k.1.1 k.1.2 k.2.1 k.2.2 a.1.1 a.1.2 a.2.1 a.2.2 su.1.1 su.1.2 su.2.1 su.2.2 s.1.1 s.1.2 s.2.1 s.2.2 df.1.1 df.1.2 df.2.1 df.2.2 m.1.1 m.1.2 m.2.1 m.2.2 pr.1.1 pr.1.2 pr.2.1 pr.2.2 h.1.1 h.1.2 h.2.1 h.2.2 hu.1.1 hu.1.2 hu.2.1 hu.2.2 c.1.1 c.1.2 c.2.1 c.2.2 co.1.1 co.1.2 co.2.1 co.2.2 o.1.1 o.1.2 o.2.1 o.2.2) true) (d : Nat) : ∀ j : Nat, j + d = 2 → Et (fun z zn => laws_FnIntervals.l8 z zn G x7 x9 xw L n ii [(k.1.1, k.1.2), (k.2.1, k.2.2)] 2 (j : Int) i.1.1 i.1.2 i.2.1 i.2.2 k.1.1 k.1.2 k.2.1 k.2.2 a.1.1 a.1.2 a.2.1 a.2.2 su.1.1 su.1.2 su.2.1 su.2.2 s.1.1 s.1.2 s.2.1 s.2.2 df.1.1 df.1.2 df.2.1 df.2.2 m.1.1 m.1.2 m.2.1 m.2.2 pr.1.1 pr.1.2 pr.2.1 pr.2.2 h.1.1 h.1.2 h.2.1 h.2.2 hu.1.1 hu.1.2 hu.2.1 hu.2.2 c.1.1 c.1.2 c.2.1 c.2.2 co.1.1 co.1.2 co.2.1 co.2.2 o.1.1 o.1.2 o.2.1 o.2.2 x.1 x.2) true := by
  induction d with
  | zero =>
    intro j hj
    refine Et.step (fun z zn => rfl) ?_
    simp only [laws_FnIntervals.l8_s, laws_FnIntervals.s8, cnd3]; simp only [cnd4, decide_eq_true_eq]
    exact Et_if (fun h => by omega) (fun _ => hn)
  | succ d ih =>
    intro j hj
    have nx := ih (j + 1) (by omega)
    rw [← wrap_next j (by omega)] at nx
    obtain ⟨y, hy, hy2⟩ : ∃ y : Int × Int, [(k.1.1, k.1.2), (k.2.1, k.2.2)].getD j (0, 0) = y ∧ (y = k.1 ∨ y = k.2) := by
      match j, hj with
      | 0, _ => exact ⟨_, rfl, .inl rfl⟩
      | 1, _ => exact ⟨_, rfl, .inr rfl⟩
      | n + 2, hj => omega
    have hxB : dB x = true := by rcases hx with rfl | rfl; exact hp.1; exact hp.2
    have hyB : dB y = true := by rcases hy2 with rfl | rfl; exact hk.1; exact hk.2
    have hin := IMUL_in hp hk hm hx hy2
    have md := mulD_ev hxB hyB
    have mB := PRp_dB x y
    have q := qIn_ev (i := pr) (IMUL_B hm) mB
    rw [decide_eq_true hin.1, decide_eq_true hin.2] at q
    generalize PRp x y = w at *
    refine Et.step (fun z zn => rfl) ?_
    simp only [laws_FnIntervals.l8_s, laws_FnIntervals.s8, cnd3]; simp only [cnd4, decide_eq_true_eq]
    simp only [getD_at, hy]
    refine Et_if (fun _ => Et_if (fun _ => Et_if (fun _ => Et.bind md (Et_if (fun _ => Et.bind q (Et_if (fun _ => nx) (fun h => absurd rfl h))) (fun _ => nx))) (fun h => by exfalso; apply h; simp; omega)) (fun h => by omega)) (fun h => by omega)
theorem FI7 (i k a su s df m pr h hu c co : IV) (o : IV) (G x7 x9 xw : Bool) (hG : G = (ivG i && ivG k)) (hh : G = true → hu = HUL i k) (h7 : x7 = true → G = true ∧ ICOM i k = some co) (h9 : x9 = true → xw = true → G = true ∧ IWI i k = true) (hp : ivB i) (hk : ivB k) (hm : IMUL i k = some pr) (d : Nat) : ∀ j : Nat, j + d = 2 → Et (fun z zn => laws_FnIntervals.l7 z zn G x7 x9 xw [(i.1.1, i.1.2), (i.2.1, i.2.2)] 2 (j : Int) i.1.1 i.1.2 i.2.1 i.2.2 k.1.1 k.1.2 k.2.1 k.2.2 a.1.1 a.1.2 a.2.1 a.2.2 su.1.1 su.1.2 su.2.1 su.2.2 s.1.1 s.1.2 s.2.1 s.2.2 df.1.1 df.1.2 df.2.1 df.2.2 m.1.1 m.1.2 m.2.1 m.2.2 pr.1.1 pr.1.2 pr.2.1 pr.2.2 h.1.1 h.1.2 h.2.1 h.2.2 hu.1.1 hu.1.2 hu.2.1 hu.2.2 c.1.1 c.1.2 c.2.1 c.2.2 co.1.1 co.1.2 co.2.1 co.2.2 o.1.1 o.1.2 o.2.1 o.2.2) true := by
  induction d with
  | zero =>
    intro j hj
    have nx := FI5 i k a su s df m pr h hu c co G x7 x9 xw hG hh h7 h9
    refine Et.step (fun z zn => rfl) ?_
    simp only [laws_FnIntervals.l7_s, laws_FnIntervals.s7, cnd3]; simp only [cnd4, decide_eq_true_eq]
    exact Et_if (fun h => by omega) (fun _ => nx)
  | succ d ih =>
    intro j hj
    have nx := ih (j + 1) (by omega)
    rw [← wrap_next j (by omega)] at nx
    obtain ⟨y, hy, hy2⟩ : ∃ y : Int × Int, [(i.1.1, i.1.2), (i.2.1, i.2.2)].getD j (0, 0) = y ∧ (y = i.1 ∨ y = i.2) := by
      match j, hj with
      | 0, _ => exact ⟨_, rfl, .inl rfl⟩
      | 1, _ => exact ⟨_, rfl, .inr rfl⟩
      | n + 2, hj => omega
    have q := FI8 i k a su s df m pr h hu c co o G x7 x9 xw hp hk hm y hy2 _ 2 (j : Int) nx 2 0 (by omega)
    refine Et.step (fun z zn => rfl) ?_
    simp only [laws_FnIntervals.l7_s, laws_FnIntervals.s7, cnd3]; simp only [cnd4, decide_eq_true_eq]
    simp only [getD_at, hy]
    exact Et_if (fun _ => Et_if (fun _ => Et_if (fun _ => q) (fun h => by exfalso; apply h; simp; omega)) (fun h => by omega)) (fun h => by omega)
theorem R5_ex (v : R5) : ∃ x o, v = fl5 x o := ⟨((v.1, v.2.1), (v.2.2.1, v.2.2.2.1)), v.2.2.2.2, rfl⟩
theorem fl5_inj {x y : IV} {o p : Bool} (h : fl5 x o = fl5 y p) : x = y ∧ o = p := by
  obtain ⟨⟨a, b⟩, c, d⟩ := x
  obtain ⟨⟨a', b'⟩, c', d'⟩ := y
  simp only [fl5, Prod.mk.injEq] at h
  obtain ⟨rfl, rfl, rfl, rfl, rfl⟩ := h
  exact ⟨rfl, rfl⟩
theorem flo_some {o : Option IV} {x : IV} (h : flo o = fl5 x true) : o = some x := by
  cases o with
  | none => exact absurd (congrArg (fun q : R5 => q.2.2.2.2) h) (by simp [flo, fl5])
  | some y => rw [(fl5_inj (x := y) (y := x) (o := true) (p := true) h).1]
theorem G2_some {i k : IV} {o : Option IV} {x : IV} {p : Bool} (h : G2 i k (flo o) z5 = fl5 x p) (hp : p = true) : (ivG i && ivG k) = true ∧ o = some x := by
  subst hp
  unfold G2 at h
  split at h
  · rename_i g; exact ⟨g, flo_some h⟩
  · exact absurd (congrArg (fun q : R5 => q.2.2.2.2) h) (by simp [z5, fl5])
theorem FI4 (i k a su s df m pr h hu c co : IV) (G x3 x7 x9 xw : Bool) (hG : G = (ivG i && ivG k)) (hh : G = true → hu = HUL i k) (h7 : x7 = true → G = true ∧ ICOM i k = some co) (h9 : x9 = true → xw = true → G = true ∧ IWI i k = true) (h3 : x3 = true → G = true ∧ IMUL i k = some pr) : Et (fun z zn => laws_FnIntervals.l4 z zn x3 G x7 x9 xw i.1.1 i.1.2 i.2.1 i.2.2 k.1.1 k.1.2 k.2.1 k.2.2 a.1.1 a.1.2 a.2.1 a.2.2 su.1.1 su.1.2 su.2.1 su.2.2 s.1.1 s.1.2 s.2.1 s.2.2 df.1.1 df.1.2 df.2.1 df.2.2 m.1.1 m.1.2 m.2.1 m.2.2 pr.1.1 pr.1.2 pr.2.1 pr.2.2 h.1.1 h.1.2 h.2.1 h.2.2 hu.1.1 hu.1.2 hu.2.1 hu.2.2 c.1.1 c.1.2 c.2.1 c.2.2 co.1.1 co.1.2 co.2.1 co.2.2) true := by
  have nx := FI5 i k a su s df m pr h hu c co G x7 x9 xw hG hh h7 h9
  refine Et.step (fun z zn => rfl) ?_
  simp only [laws_FnIntervals.l4_s, laws_FnIntervals.s4, cnd3]; simp only [cnd4, decide_eq_true_eq]
  refine Et_if (fun hx => ?_) (fun _ => nx)
  obtain ⟨g, e⟩ := h3 hx
  obtain ⟨gi, gk⟩ := both_G hG g
  have q := mulI_impl k i
  rw [g2 gk gi, IMUL_comm, e, show flo (some pr) = fl5 pr true from rfl] at q
  have f7 := FI7 i k a su s df m pr h hu c co pr G x7 x9 xw hG hh h7 h9 (ivG_B gi).1 (ivG_B gk).1 e 2 0 (by omega)
  refine Et.bind q ?_
  simp only [fl5]
  exact Et_if (fun _ => Et_if (fun _ => f7) (fun hx => by simp at hx)) (fun hx => by simp at hx)
theorem FI3 (i k a su s df m pr h hu c co : IV) (G x1 x3 x7 x9 xw : Bool) (hG : G = (ivG i && ivG k)) (hh : G = true → hu = HUL i k) (h7 : x7 = true → G = true ∧ ICOM i k = some co) (h9 : x9 = true → xw = true → G = true ∧ IWI i k = true) (h3 : x3 = true → G = true ∧ IMUL i k = some pr) (h1 : x1 = true → G = true ∧ IADD i (ngI k) = some s) : Et (fun z zn => laws_FnIntervals.l3 z zn x1 x3 G x7 x9 xw i.1.1 i.1.2 i.2.1 i.2.2 k.1.1 k.1.2 k.2.1 k.2.2 a.1.1 a.1.2 a.2.1 a.2.2 su.1.1 su.1.2 su.2.1 su.2.2 s.1.1 s.1.2 s.2.1 s.2.2 df.1.1 df.1.2 df.2.1 df.2.2 m.1.1 m.1.2 m.2.1 m.2.2 pr.1.1 pr.1.2 pr.2.1 pr.2.2 h.1.1 h.1.2 h.2.1 h.2.2 hu.1.1 hu.1.2 hu.2.1 hu.2.2 c.1.1 c.1.2 c.2.1 c.2.2 co.1.1 co.1.2 co.2.1 co.2.2) true := by
  have nx := FI4 i k a su s df m pr h hu c co G x3 x7 x9 xw hG hh h7 h9 h3
  refine Et.step (fun z zn => rfl) ?_
  simp only [laws_FnIntervals.l3_s, laws_FnIntervals.s3, cnd3]; simp only [cnd4, decide_eq_true_eq]
  refine Et_if (fun hx => ?_) (fun _ => nx)
  obtain ⟨g, e⟩ := h1 hx
  obtain ⟨gi, gk⟩ := both_G hG g
  have gs := IADD_G gi (ngI_G gk) e
  have q := addI_impl s k
  rw [g2 gs gk] at q
  cases eb : IADD s k with
  | none =>
    rw [eb] at q
    refine Et.bind q ?_
    simp only [flo]
    exact Et_if (fun hx => by simp at hx) (fun _ => nx)
  | some b =>
    rw [eb] at q
    refine Et.bind q ?_
    simp only [flo]
    have q1 := qPart_ev (ivG_B gi).1 (IADD_B eb)
    rw [SUB_back gi gk e eb] at q1
    exact Et_if (fun _ => Et.bind q1 (Et_if (fun _ => nx) (fun hx => by simp at hx))) (fun _ => nx)
theorem FI2 (i k a s m h c : IV) (ok x1 x3 G x7 : Bool) (hG : G = (ivG i && ivG k)) (hh : G = true → h = HUL i k) (h0 : ok = true → G = true ∧ IADD i k = some a) (h1 : x1 = true → G = true ∧ IADD i (ngI k) = some s) (h3 : x3 = true → G = true ∧ IMUL i k = some m) (h7 : G2 i k (flo (ICOM i k)) z5 = fl5 c x7) : Et (fun z zn => laws_FnIntervals.l2 z zn ok ok x1 x1 x3 x3 G G x7 i.1.1 i.1.2 i.2.1 i.2.2 k.1.1 k.1.2 k.2.1 k.2.2 a.1.1 a.1.2 a.2.1 a.2.2 a.1.1 a.1.2 a.2.1 a.2.2 s.1.1 s.1.2 s.2.1 s.2.2 s.1.1 s.1.2 s.2.1 s.2.2 m.1.1 m.1.2 m.2.1 m.2.2 m.1.1 m.1.2 m.2.1 m.2.2 h.1.1 h.1.2 h.2.1 h.2.2 h.1.1 h.1.2 h.2.1 h.2.2 c.1.1 c.1.2 c.2.1 c.2.2) true := by
  have qc := comI_spec i k
  rw [h7] at qc
  have w1 := witI_impl i k
  have w2 := witI_spec i k
  obtain ⟨⟨xw, x9⟩, ew⟩ : ∃ p : Bool × Bool, G2 i k (IWI i k, true) (false, false) = p := ⟨_, rfl⟩
  rw [ew] at w1 w2
  have h7' : x7 = true → G = true ∧ ICOM i k = some c := fun e => by
    obtain ⟨g, e'⟩ := G2_some h7 e
    exact ⟨hG.trans g, e'⟩
  have h9 : x9 = true → xw = true → G = true ∧ IWI i k = true := fun e9 e => by
    subst e9; subst e
    unfold G2 at ew
    split at ew
    · rename_i g
      exact ⟨hG.trans g, (Prod.mk.inj ew).1⟩
    · cases ew
  have nx := FI3 i k a a s s m m h h c c G x1 x3 x7 x9 xw hG hh h7' h9 h3 h1
  refine Et.step (fun z zn => rfl) ?_
  simp only [laws_FnIntervals.l2_s, laws_FnIntervals.s2, cnd3]; simp only [cnd4, decide_eq_true_eq]
  refine Et.bind qc (Et.bind w1 (Et.bind w2 ?_))
  simp only [fl5, eq_self4, beq_self_eq_true, decide_true, Bool.and_self, if_true]
  refine Et_if (fun e => ?_) (fun _ => nx)
  obtain ⟨g, e1⟩ := h0 e
  obtain ⟨gi, gk⟩ := both_G hG g
  have q := addI_impl k i
  rw [g2 gk gi, IADD_comm, e1, show flo (some a) = fl5 a true from rfl] at q
  have q2 := isI_ev a
  rw [IADD_G gi gk e1] at q2
  refine Et.bind q ?_
  simp only [fl5, eq_self4]
  exact Et_if (fun _ => Et_if (fun _ => Et.bind q2 (Et_if (fun _ => nx) (fun hx => by simp at hx))) (fun hx => by simp at hx)) (fun hx => by simp at hx)
theorem FI1 (i k a s : IV) (ok x1 G : Bool) (hG : G = (ivG i && ivG k)) (h0 : ok = true → G = true ∧ IADD i k = some a) (h1 : x1 = true → G = true ∧ IADD i (ngI k) = some s) : Et (fun z zn => laws_FnIntervals.l1 z zn ok ok x1 x1 i.1.1 i.1.2 i.2.1 i.2.2 k.1.1 k.1.2 k.2.1 k.2.2 a.1.1 a.1.2 a.2.1 a.2.2 a.1.1 a.1.2 a.2.1 a.2.2 s.1.1 s.1.2 s.2.1 s.2.2 s.1.1 s.1.2 s.2.1 s.2.2) true := by
  obtain ⟨m, x3, em⟩ := R5_ex (G2 i k (flo (IMUL i k)) z5)
  obtain ⟨h, x5, eh⟩ := R5_ex (G2 i k (fl5 (HUL i k) true) z5)
  obtain ⟨c, x7, ec⟩ := R5_ex (G2 i k (flo (ICOM i k)) z5)
  have m1 := mulI_impl i k
  have m2 := mulI_spec i k
  have q1 := hulI_impl i k
  have q2 := hulI_spec i k
  have c1 := comI_impl i k
  rw [em] at m1 m2; rw [eh] at q1 q2; rw [ec] at c1
  have e5 : x5 = G ∧ (G = true → h = HUL i k) := by
    rw [hG]
    unfold G2 at eh
    split at eh
    · rename_i g
      obtain ⟨e1, e2⟩ := fl5_inj eh
      exact ⟨e2.symm.trans g.symm, fun _ => e1.symm⟩
    · rename_i g
      have := congrArg (fun q : R5 => q.2.2.2.2) eh
      simp only [z5, fl5] at this
      rw [← this]
      exact ⟨by simpa using g, fun e => absurd e g⟩
  obtain ⟨rfl, hh⟩ := e5
  have nx := FI2 i k a s m h c ok x1 x3 x5 x7 hG hh h0 h1 (fun e => by
    obtain ⟨g, e'⟩ := G2_some em e
    exact ⟨hG.trans g, e'⟩) ec
  refine Et.step (fun z zn => rfl) ?_
  simp only [laws_FnIntervals.l1_s, laws_FnIntervals.s1]
  refine Et.bind m1 ?_
  refine Et.bind m2 ?_
  refine Et.bind q1 ?_
  refine Et.bind q2 ?_
  exact Et.bind c1 nx
theorem FI0 (l : List Int) (x : Bool) (hl : BY l) : Et (fun z zn => laws_FnIntervals.l0 z zn l x) true := by
  obtain ⟨i, k, hd⟩ := draw_addI l hl
  obtain ⟨a, ok, ea⟩ := R5_ex (G2 i k (flo (IADD i k)) z5)
  obtain ⟨s, x1, es⟩ := R5_ex (G2 i k (flo (IADD i (ngI k))) z5)
  have a1 := addI_impl i k
  have a2 := addI_spec i k
  have s1 := subI_impl i k
  have s2 := subI_spec i k
  rw [ea] at a1 a2; rw [es] at s1 s2
  have nx := FI1 i k a s ok x1 (ivG i && ivG k) rfl (fun e => G2_some ea e) (fun e => G2_some es e)
  refine Et.step (fun z zn => rfl) ?_
  simp only [laws_FnIntervals.l0_s, laws_FnIntervals.s0, cnd3]; simp only [cnd4, decide_eq_true_eq]
  refine Et_if (fun _ => Et.now _) (fun _ => ?_)
  refine Et.bind hd ?_
  refine Et.bind a1 ?_
  refine Et.bind a2 ?_
  refine Et.bind s1 ?_
  exact Et.bind s2 nx
theorem FI (l0 l1 : List Int) (h : BY l0) : ∃ k, laws_FnIntervals.f k l0 l1 = some true := by
  obtain ⟨K, hK⟩ := FI0 l0 (decide (1048576 < (wr .i64 ((l0.length : Int) + (l1.length : Int))))) h
  exact ⟨K, hK K K (Nat.le_refl _) (Nat.le_refl _)⟩
end Go.Proofs.Ytneceomekgophaa.Ev
