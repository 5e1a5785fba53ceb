/- The program's SidesOver returns what the reference's returns, for all arguments; they read afterwards as they did. No condition. -/
import Derived.Test.YtalcohajbcijlaaRows
import Derived.Test.YtalcohajbcijlaaZSidesOverLSidesOver
import Derived.Test.YtalcohajbcijlaaZSidesOverPureSidesOver
import Derived.WalkKit
import Derived.ProofKit
import Derived.OpenShut
import Derived.ShutString
import Derived.ChangeOld
import Derived.Below
import Derived.SizedLaws
import Derived.Lib.SmallJoins
import Derived.Test.YtalcohajbcijlaaZSidesOverWSized
namespace Go.Proofs.Ytalcohajbcijlaa.fnExactSidesOver
open Go.ChangeShapes Go.WideShapes Go.ChangeAt Go.RowKit Go.Joins
open Go.ChangeMaps (open_string shut_string)
open Go.Proofs.YtalcohajbcijlaaW.PrintWords Go.Proofs.Ytalcohajbcijlaa.QSid
set_option linter.unusedVariables false
theorem own : ownKnob Try.prog.godebug = none := by kernel_rfl
theorem laidOut : laidOutB Try.prog = true := by kernel_rfl
def IsRow (k : IntKind) (w : World) (a : Option Addr) (len cap : Nat) (zs : List Int) : Prop :=
  (a = none ∧ len = 0 ∧ cap = 0 ∧ zs = []) ∨
  ∃ x, a = some x ∧ len ≤ cap ∧ cap ≤ maxLen ∧ zs.length = cap ∧ (∀ i, i < zs.length → w.cell? (x.add i) = some (.int k (zs.getD i 0))) ∧ ∀ n ∈ zs, (Lit.int k n).wf = true
theorem open_C {H : Type} {enc : TypeId × Value → H} {P : Program} {w : World} {sp : Nat → Bool} {held : Bool} {α : Type} (d : Kd α) {t e : TypeId} {fuel : Nat} {cs : List Value} {x : DataW H × List MemPlace}
    (ht : P.underlying t = some (.slice e)) (he : P.cellsOf e = d.sz) (z : α) (conv : ∀ n cs y, DataW.trod enc P w 0 sp held n e cs = some y → ∃ a : α, d.K w a cs)
    (h : DataW.trod enc P w 0 sp held fuel t cs = some x) : ∃ A c xs, cs = [.slice A xs.length c] ∧ xs.length ≤ c ∧ Kd.C d w A xs.length xs := by
  rcases DataW.trod_slice ht h with ⟨rfl, _⟩ | ⟨a, len, cap, elems, rest, n, _, rfl, rfl, hb, hl, hm, hlen, hel, hsp, hns⟩
  · exact ⟨none, 0, [], rfl, Nat.le_refl _, rfl, Nat.zero_le _, fun h => absurd h (Nat.lt_irrefl 0)⟩
  · have each : ∀ i : Nat, i < len → ∃ p c, w.cells? 0 (a.add (i * d.sz)) d.sz = some c ∧ d.K w p c := by
      intro i hi
      have h1 := hel i hi
      rw [he] at h1
      rw [List.getElem?_eq_getElem (by omega), Option.bind_eq_some_iff] at h1
      obtain ⟨c, h2, h3⟩ := h1
      obtain ⟨p, hp⟩ := conv _ _ _ h3
      exact ⟨p, c, h2, hp⟩
    let f : Nat → α := fun i => if hi : i < len then (each i hi).choose else z
    have hf : ∀ i, i < len → ∃ c, w.cells? 0 (a.add (i * d.sz)) d.sz = some c ∧ d.K w (f i) c := by
      intro i hi
      have h1 := (each i hi).choose_spec
      have e : f i = (each i hi).choose := dif_pos hi
      rw [e]; exact h1
    refine ⟨some a, cap, (List.range len).map f, by simp, by simpa using hl, by simp, ?_, fun _ => ⟨a, rfl, fun j p hj => ?_⟩⟩
    · simp only [List.length_map, List.length_range]; exact Nat.le_trans hl hm
    · have hj' : j < len := by
        have := (List.getElem?_eq_some_iff.1 hj).1
        simpa using this
      rw [List.getElem?_map, List.getElem?_range hj'] at hj
      obtain rfl : f j = p := by simpa using hj
      obtain ⟨c, h1, h2⟩ := hf j hj'
      refine ⟨c, d.K_len h2, h2, fun i u hu => ?_⟩
      have h3 := (World.cells?_some h1).2.2 i (by have := (List.getElem?_eq_some_iff.1 hu).1; have := d.K_len h2; omega)
      rw [hu] at h3
      have e : (a.add (j * d.sz)).add i = a.add (j * d.sz + i) := by
        unfold Addr.add
        by_cases h1 : j * d.sz = 0
        · rw [if_pos h1, h1, Nat.zero_add]
        · by_cases h2 : i = 0
          · rw [if_neg h1, if_pos h2, h2, Nat.add_zero, if_neg h1]
          · rw [if_neg h1, if_neg h2, if_neg (by omega)]; simp [Nat.add_assoc]
      rw [e] at h3
      exact h3
set_option maxRecDepth 100000 in
theorem lifted (os : Os) (started : os.Started) (H : Type) (enc : TypeId × Value → H) :
    ReturnsInHanded {} Try.checked os 4 .any (Rows.fnExactSidesOverSpec.pre6 enc Try.prog Try.f4 Rows.fnExactSidesOverRow.domain false) (Rows.fnExactSidesOverSpec.post enc Try.prog Try.f4 false true false false) := by
  refine returnsInHanded_of_change_sized (C := Try.checked) own started (by kernel_rfl) Try.func4
    (ChangeSpec.witness6 (enc := enc) (C := Try.checked) false ⟨#[], #[.agg #[.int .i64 0, .slice none 0 0, .slice none 0 0]], []⟩ 8 (by kernel_rfl) (by kernel_rfl) (by kernel_rfl) (by kernel_rfl)) ?_
  intro W base args ds gs before hval0 hW hcnd hsz0 _
  have hsz : (DataW.weightsEach Try.prog (Try.f4.params.toList ++ Rows.fnExactSidesOverSpec.plain.varTypes Try.prog) (ds ++ gs)).all (· ≤ reachBytes) = true := hsz0
  have hval : ∀ (j : Nat) t v, Try.f4.params[j]? = some t → args[j]? = some v → Value.okWide Try.prog W .any base t v := hval0
  have hW' := hW
  obtain ⟨p, q, hA0, hV, rfl, hfz, hnd⟩ := hW
  have hA : DataW.TrodAll enc Try.prog W 0 (fun _ => true) true Try.f4.params.toList args.toList ds p := hA0
  rw [Try.params4] at hA hval hsz
  obtain ⟨v0, vs0, d0, ds0, p0, q0, hargs, rfl, rfl, h0, r0⟩ := trodAll_cons hA
  obtain ⟨rfl, rfl, rfl⟩ := trodAll_nil r0
  obtain rfl : args = #[v0] := by cases args; simp_all
  obtain ⟨rfl, rfl⟩ := trodVars_none hV
  have k0 := h0
  have lt0 : ∀ x ∈ p0, x.block < W.heap.size := by obtain ⟨m, hm⟩ := k0; exact DataW.trod_lt m _ _ _ hm
  obtain ⟨u0_0, u0_1, u0_2, y0_0, y0_1, y0_2, m0, rfl, rfl, rfl, hy0_0, hy0_1, hy0_2⟩ := open_agg3 Try.underlying31 (by kernel_rfl) (by kernel_rfl) (hval 0 31 v0 rfl rfl) h0
  obtain ⟨a0, e0_0, rfl, wa0⟩ := DataW.trod_int Try.underlying3 hy0_0
  simp at e0_0
  subst e0_0
  obtain ⟨A0_1, c0_1, l0_1, e0_1, hc0_1, hr0_1⟩ := open_C (Kd.int .i64) Try.underlying29 (by kernel_rfl) (0 : Int) (fun n cs y h_ => by obtain ⟨m_, h1_, _, _⟩ := DataW.trod_int Try.underlying3 h_; exact ⟨m_, h1_⟩) hy0_1
  simp at e0_1
  subst e0_1
  obtain ⟨A0_2, c0_2, l0_2, e0_2, hc0_2, hr0_2⟩ := open_C (Kd.int .i64) Try.underlying29 (by kernel_rfl) (0 : Int) (fun n cs y h_ => by obtain ⟨m_, h1_, _, _⟩ := DataW.trod_int Try.underlying3 h_; exact ⟨m_, h1_⟩) hy0_2
  simp at e0_2
  subst e0_2
  clear hA0 hval0 hsz0 hsz
  refine (law_holds Pure_holds a0 _ _ l0_1 _ _ l0_2 W hr0_1 hc0_1 hr0_2 hc0_2).mono fun e W' ⟨he, bel⟩ => ?_
  subst he
  exact ⟨_, rfl, _, _, _, [], _, [], hW', trodAll_mk1 (shut_bool Try.underlying4 _), (trodAll_cons_mk (Below.trod laidOut (by kernel_rfl) (of_decide_eq_true (by kernel_rfl)) k0 bel lt0) trodAll_mk0), rfl, bel.frame _, fun h => by cases h⟩
theorem over : Rows.fnExactSidesOverRow.holds Try.pinned (OpenSpec.ofChange Rows.fnExactSidesOverSpec) :=
  OpenClaim.holds_of_wide 4 Try.f4 rfl rfl rfl rfl rfl rfl rfl ⟨rfl, rfl, rfl, rfl, rfl⟩ rfl rfl rfl rfl rfl (by kernel_rfl) Try.func4 (by kernel_rfl)
    (of_decide_eq_true (by kernel_rfl)) (by unfold Func.isWrapper; first | (rw [if_pos (by decide +kernel)]; kernel_rfl) | (rw [if_neg (by decide +kernel)]; exact ⟨rfl, rfl⟩))
    (fun os started H enc _ => lifted os started H enc)
theorem proved : Rows.FnExactSidesOverSaid := over
end Go.Proofs.Ytalcohajbcijlaa.fnExactSidesOver
namespace Go.Proofs.Ytalcohajbcijlaa
theorem fnExactSidesOver_holds : Rows.FnExactSidesOverSaid := fnExactSidesOver.proved
#print axioms fnExactSidesOver_holds
end Go.Proofs.Ytalcohajbcijlaa
