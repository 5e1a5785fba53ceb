/- The program's IsMarkNumber returns what the reference's returns, for every argument; the argument reads afterwards as it did. No condition. -/
import Derived.Test.YtipnbjamkhhmbaaRows
import Derived.Test.YtipnbjamkhhmbaaPFnExactIsMarkNumberx
import Derived.WalkKit
import Derived.ProofKit
import Derived.OpenShut
import Derived.ShutString
import Derived.ChangeOld
import Derived.Below
import Derived.SizedLaws
import Derived.Lib.SmallJoins
namespace Go.Proofs.Ytipnbjamkhhmbaa.PFnExactIsMarkNumber
theorem l1In_eq (a b c : Int) : spec_l1In.f a b c = some (decide (b ≤ a ∧ a ≤ c)) := by
  unfold spec_l1In.f; by_cases h : b ≤ a <;> simp [h]
theorem inside_eq (a b c : Int) : impl_inside.f a b c = some (decide (b ≤ a ∧ a ≤ c)) := by
  unfold impl_inside.f; by_cases h : b ≤ a <;> simp [h]
theorem isPlaces_eq (a : Int) : impl_isPlaces.f a = some (decide (0 ≤ a ∧ a ≤ 24)) := by
  unfold impl_isPlaces.f; rw [inside_eq]; rfl
def goodB (n k : Int) : Bool := if decide (0 ≤ k ∧ k ≤ 24) then (if decide ((-1099511627776) ≤ n ∧ n ≤ 1099511627776) then (if k = 0 then true else (Int.tmod n 2 != 0)) else false) else false
theorem dyGood_eq (n k : Int) : spec_dyGood.f n k = some (goodB n k) := by
  unfold spec_dyGood.f goodB; simp only [l1In_eq, Option.bind_some]
  split <;> (try split) <;> (try split) <;> simp_all
theorem isDyadic_eq (n k : Int) : impl_isDyadic.f n k = some (goodB n k) := by
  unfold impl_isDyadic.f goodB; simp only [isPlaces_eq, inside_eq, Option.bind_some]
  split <;> (try split) <;> (try split) <;> simp_all
theorem mark_eq (n k : Int) : ∃ b, spec_IsMarkNumber.f n k = some b ∧ impl_IsMarkNumber.f n k = some b := by
  refine ⟨if goodB n k then (if k ≤ 12 then decide ((-16777216) ≤ n ∧ n ≤ 16777216) else false) else false, ?_, ?_⟩
  · unfold spec_IsMarkNumber.f spec_stMark.f; simp only [dyGood_eq, l1In_eq, Option.bind_some]
    split <;> (try split) <;> simp_all
  · unfold impl_IsMarkNumber.f impl_isMark.f; simp only [isDyadic_eq, inside_eq, Option.bind_some]
    split <;> (try split) <;> simp_all
theorem pure_law (n k : Int) : laws_FnExactIsMarkNumber.f n k = some true := by
  obtain ⟨b, h1, h2⟩ := mark_eq n k
  unfold laws_FnExactIsMarkNumber.f laws_toDyadic.f
  simp [h1, h2]
end Go.Proofs.Ytipnbjamkhhmbaa.PFnExactIsMarkNumber
namespace Go.Proofs.Ytipnbjamkhhmbaa.fnExactIsMarkNumber
open Go.ChangeShapes Go.WideShapes Go.ChangeAt Go.RowKit Go.Joins
theorem own : ownKnob Try.prog.godebug = none := by kernel_rfl
theorem laidOut : laidOutB Try.prog = true := by kernel_rfl
set_option maxRecDepth 100000 in
theorem lifted (os : Os) (started : os.Started) (H : Type) (enc : TypeId × Value → H) :
    ReturnsInHanded {} Try.checked os 3 .any (Rows.fnExactIsMarkNumberSpec.pre6 enc Try.prog Try.f3 Rows.fnExactIsMarkNumberRow.domain false) (Rows.fnExactIsMarkNumberSpec.post enc Try.prog Try.f3 false true false false) := by
  refine returnsInHanded_of_change_sized (C := Try.checked) own started (by kernel_rfl) Try.func3
    (ChangeSpec.witness6 (enc := enc) (C := Try.checked) false ⟨#[], #[.agg #[.int .i64 0, .int .i64 0]], []⟩ 8 (by kernel_rfl) (by kernel_rfl) (by kernel_rfl) (by kernel_rfl)) ?_
  intro W base args ds gs before hval0 hW hcnd hsz0 _
  have hval : ∀ (j : Nat) t v, Try.f3.params[j]? = some t → args[j]? = some v → Value.okWide Try.prog W .any base t v := hval0
  have hW' := hW
  obtain ⟨p, q, hA0, hV, rfl, hfz, hnd⟩ := hW
  have hA : DataW.TrodAll enc Try.prog W 0 (fun _ => true) true Try.f3.params.toList args.toList ds p := hA0
  rw [Try.params3] at hA hval
  obtain ⟨v0, vs0, d0, ds0, p0, q0, hargs, rfl, rfl, h0, r0⟩ := trodAll_cons hA
  obtain ⟨rfl, rfl, rfl⟩ := trodAll_nil r0
  obtain rfl : args = #[v0] := by cases args; simp_all
  obtain ⟨rfl, rfl⟩ := trodVars_none hV
  have k0 := h0
  have lt0 : ∀ x ∈ p0, x.block < W.heap.size := by obtain ⟨m, hm⟩ := k0; exact DataW.trod_lt m _ _ _ hm
  obtain ⟨c0, c1, y0, y1, m, rfl, rfl, rfl, hy0, hy1⟩ := open_agg2 Try.underlying23 (by kernel_rfl) (by kernel_rfl) (hval 0 23 v0 rfl rfl) h0
  obtain ⟨a, e0, rfl, wa⟩ := DataW.trod_int Try.underlying3 hy0
  obtain ⟨b, e1, rfl, wb⟩ := DataW.trod_int Try.underlying3 hy1
  simp at e0 e1
  subst e0 e1
  clear hA0 hval0 hsz0
  refine (PFnExactIsMarkNumber.laws_FnExactIsMarkNumber.calls a b true W (PFnExactIsMarkNumber.pure_law a b)).mono fun e W' ⟨he, bel⟩ => ?_
  subst he
  exact ⟨_, rfl, _, _, _, [], _, [], hW', trodAll_mk1 (shut_bool Try.underlying4 _), (trodAll_cons_mk (Below.trod laidOut (by kernel_rfl) (of_decide_eq_true (by kernel_rfl)) k0 bel lt0) trodAll_mk0), rfl, bel.frame _, fun h => by cases h⟩
theorem over : Rows.fnExactIsMarkNumberRow.holds Try.pinned (OpenSpec.ofChange Rows.fnExactIsMarkNumberSpec) :=
  OpenClaim.holds_of_wide 3 Try.f3 rfl rfl rfl rfl rfl rfl rfl ⟨rfl, rfl, rfl, rfl, rfl⟩ rfl rfl rfl rfl rfl (by kernel_rfl) Try.func3 (by kernel_rfl)
    (of_decide_eq_true (by kernel_rfl)) (by unfold Func.isWrapper; first | (rw [if_pos (by decide +kernel)]; kernel_rfl) | (rw [if_neg (by decide +kernel)]; exact ⟨rfl, rfl⟩))
    (fun os started H enc _ => lifted os started H enc)
theorem proved : Rows.FnExactIsMarkNumberSaid := over
end Go.Proofs.Ytipnbjamkhhmbaa.fnExactIsMarkNumber
namespace Go.Proofs.Ytipnbjamkhhmbaa
/-- The row, under a short name, for the claim. -/
theorem fnExactIsMarkNumber_holds : Rows.FnExactIsMarkNumberSaid := fnExactIsMarkNumber.proved
#print axioms fnExactIsMarkNumber_holds
end Go.Proofs.Ytipnbjamkhhmbaa
