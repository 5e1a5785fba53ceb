/- The program's ValueOver returns what the reference's returns, for all arguments; they read afterwards as they did. No condition. -/
import Derived.Test.YtalcohajbcijlaaGreatRows
import Derived.Test.YtalcohajbcijlaaGreatZValueOverLValueOver
import Derived.Test.YtalcohajbcijlaaGreatZValueOverPureValueOver
import Derived.Test.YtalcohajbcijlaaGreatZValueOverWSized
import Derived.WalkKit
import Derived.ProofKit
import Derived.OpenShut
import Derived.ShutString
import Derived.ChangeOld
import Derived.Below
import Derived.SizedLaws
import Derived.Lib.SmallJoins
namespace Go.Proofs.YtalcohajbcijlaaGreat.fnExactValueOver
open Go.ChangeShapes Go.WideShapes Go.ChangeAt Go.RowKit Go.Joins
open Go.ChangeMaps (open_string shut_string)
open Go.Proofs.YtalcohajbcijlaaGreatW.PrintWords Go.Proofs.YtalcohajbcijlaaGreat.QVov
set_option linter.unusedVariables false
theorem own : ownKnob Tryz.prog.godebug = none := by kernel_rfl
theorem laidOut : laidOutB Tryz.prog = true := by kernel_rfl
def IsRow (k : IntKind) (w : World) (a : Option Addr) (len cap : Nat) (zs : List Int) : Prop :=
 (a = none ∧ len = 0 ∧ cap = 0 ∧ zs = []) ∨
 ∃ x, a = some x ∧ len ≤ cap ∧ cap ≤ maxLen ∧ zs.length = cap ∧ (∀ i, i < zs.length → w.cell? (x.add i) = some (.int k (zs.getD i 0))) ∧ ∀ n ∈ zs, (Lit.int k n).wf = true
theorem list57 {α : Type} {cs : List α} (h : cs.length = 4) : ∃ u0 u1 u2 u3, cs = [u0, u1, u2, u3] := by
 match cs, h with
 | [u0, u1, u2, u3], _ => exact ⟨u0, u1, u2, u3, rfl⟩
theorem open_C {H : Type} {enc : TypeId × Value → H} {P : Program} {w : World} {sp : Nat → Bool} {held : Bool} {α : Type} (d : Kd α) {t e : TypeId} {fuel : Nat} {cs : List Value} {x : DataW H × List MemPlace}
 (ht : P.underlying t = some (.slice e)) (he : P.cellsOf e = d.sz) (z : α) (conv : ∀ n cs y, DataW.trod enc P w 0 sp held n e cs = some y → ∃ a : α, d.K w a cs)
 (h : DataW.trod enc P w 0 sp held fuel t cs = some x) : ∃ A c xs, cs = [.slice A xs.length c] ∧ xs.length ≤ c ∧ Kd.C d w A xs.length xs := by
 rcases DataW.trod_slice ht h with ⟨rfl, _⟩ | ⟨a, len, cap, elems, rest, n, _, rfl, rfl, hb, hl, hm, hlen, hel, hsp, hns⟩
 ·exact ⟨none, 0, [], rfl, Nat.le_refl _, rfl, Nat.zero_le _, fun h => absurd h (Nat.lt_irrefl 0)⟩
 ·have each : ∀ i : Nat, i < len → ∃ p c, w.cells? 0 (a.add (i * d.sz)) d.sz = some c ∧ d.K w p c := by
   intro i hi
   have h1 := hel i hi
   rw [he] at h1
   rw [List.getElem?_eq_getElem (by omega), Option.bind_eq_some_iff] at h1
   obtain ⟨c, h2, h3⟩ := h1
   obtain ⟨p, hp⟩ := conv _ _ _ h3
   exact ⟨p, c, h2, hp⟩
  let f : Nat → α := fun i => if hi : i < len then (each i hi).choose else z
  have hf : ∀ i, i < len → ∃ c, w.cells? 0 (a.add (i * d.sz)) d.sz = some c ∧ d.K w (f i) c := by
   intro i hi
   have h1 := (each i hi).choose_spec
   have e : f i = (each i hi).choose := dif_pos hi
   rw [e]; exact h1
  refine ⟨some a, cap, (List.range len).map f, by simp, by simpa using hl, by simp, ?_, fun _ => ⟨a, rfl, fun j p hj => ?_⟩⟩
  ·simp only [List.length_map, List.length_range]; exact Nat.le_trans hl hm
  ·have hj' : j < len := by
    have := (List.getElem?_eq_some_iff.1 hj).1
    simpa using this
   rw [List.getElem?_map, List.getElem?_range hj'] at hj
   obtain rfl : f j = p := by simpa using hj
   obtain ⟨c, h1, h2⟩ := hf j hj'
   refine ⟨c, d.K_len h2, h2, fun i u hu => ?_⟩
   have h3 := (World.cells?_some h1).2.2 i (by have := (List.getElem?_eq_some_iff.1 hu).1; have := d.K_len h2; omega)
   rw [hu] at h3
   have e : (a.add (j * d.sz)).add i = a.add (j * d.sz + i) := by
    unfold Addr.add
    by_cases h1 : j * d.sz = 0
    ·rw [if_pos h1, h1, Nat.zero_add]
    ·by_cases h2 : i = 0
     ·rw [if_neg h1, if_pos h2, h2, Nat.add_zero, if_neg h1]
     ·rw [if_neg h1, if_neg h2, if_neg (by omega)]; simp [Nat.add_assoc]
   rw [e] at h3
   exact h3
theorem conv57 {H : Type} {enc : TypeId × Value → H} {w : World} {sp : Nat → Bool} {held : Bool} (n : Nat) (cs : List Value) (y : DataW H × List MemPlace) (h : DataW.trod enc Tryz.prog w 0 sp held n 57 cs = some y) : ∃ a : S57, k57.K w a cs := by
 obtain ⟨y0, y1, y2, y3, m, _, hl, h0, h1, h2, h3⟩ := trod_struct4 Tryz.underlying57 h
 have hl2 : cs.length = 4 := hl.trans (by kernel_rfl)
 obtain ⟨u0, u1, u2, u3, rfl⟩ := list57 hl2
 obtain ⟨n0, e0, _, _⟩ := DataW.trod_int (k := .i64) Tryz.underlying3 h0
 obtain ⟨n1, e1, _, _⟩ := DataW.trod_int (k := .i64) Tryz.underlying3 h1
 obtain ⟨n2, e2, _, _⟩ := DataW.trod_int (k := .i64) Tryz.underlying3 h2
 obtain ⟨n3, e3, _, _⟩ := DataW.trod_int (k := .i64) Tryz.underlying3 h3
 have ho : Tryz.prog.cellsOf 3 = 1 := by kernel_rfl
 simp [ho] at e0 e1 e2 e3
 subst e0 e1 e2 e3
 exact ⟨⟨n0, n1, n2, n3⟩, k57_mk w ⟨n0, n1, n2, n3⟩⟩
set_option maxRecDepth 100000 in
theorem lifted (os : Os) (started : os.Started) (H : Type) (enc : TypeId × Value → H) :
 ReturnsInHanded {} Tryz.checked os 3 .any (Rows.fnExactValueOverSpec.pre6 enc Tryz.prog Tryz.f3 Rows.fnExactValueOverRow.domain false) (Rows.fnExactValueOverSpec.post enc Tryz.prog Tryz.f3 false true false false) := by
 refine returnsInHanded_of_change_sized (C := Tryz.checked) own started (by kernel_rfl) Tryz.func3
  (ChangeSpec.witness6 (enc := enc) (C := Tryz.checked) false ⟨#[], #[.slice none 0 0, .agg #[.int .i64 0, .slice none 0 0, .slice none 0 0]], []⟩ 8 (by kernel_rfl) (by kernel_rfl) (by kernel_rfl) (by kernel_rfl)) ?_
 intro W base args ds gs before hval0 hW hcnd hsz0 _
 have hsz : (DataW.weightsEach Tryz.prog (Tryz.f3.params.toList ++ Rows.fnExactValueOverSpec.plain.varTypes Tryz.prog) (ds ++ gs)).all (· ≤ reachBytes) = true := hsz0
 have hval : ∀ (j : Nat) t v, Tryz.f3.params[j]? = some t → args[j]? = some v → Value.okWide Tryz.prog W .any base t v := hval0
 have hW' := hW
 obtain ⟨p, q, hA0, hV, rfl, hfz, hnd⟩ := hW
 have hA : DataW.TrodAll enc Tryz.prog W 0 (fun _ => true) true Tryz.f3.params.toList args.toList ds p := hA0
 rw [Tryz.params3] at hA hval hsz
 obtain ⟨v0, vs0, d0, ds0, p0, q0, hargs, rfl, rfl, h0, r0⟩ := trodAll_cons hA
 obtain ⟨v1, vs1, d1, ds1, p1, q1, hargs1, rfl, rfl, h1, r1⟩ := trodAll_cons r0
 obtain ⟨rfl, rfl, rfl⟩ := trodAll_nil r1
 subst hargs1
 obtain rfl : args = #[v0, v1] := by cases args; simp_all
 obtain ⟨rfl, rfl⟩ := trodVars_none hV
 have k0 := h0
 have lt0 : ∀ x ∈ p0, x.block < W.heap.size := by obtain ⟨m, hm⟩ := k0; exact DataW.trod_lt m _ _ _ hm
 obtain ⟨fuel0, hf0⟩ := h0
 obtain ⟨a0, len0, cap0, rfl⟩ := okWide_slice Tryz.underlying22 (hval 0 22 v0 rfl rfl)
 obtain ⟨A0, c0, l0, e0, hc0, hr0⟩ := open_C k57 Tryz.underlying22 (by kernel_rfl) z57 (conv57) hf0
 simp [Value.cells] at e0
 obtain ⟨rfl, rfl, rfl⟩ := e0
 have k1 := h1
 have lt1 : ∀ x ∈ p1, x.block < W.heap.size := by obtain ⟨m, hm⟩ := k1; exact DataW.trod_lt m _ _ _ hm
 obtain ⟨u1_0, u1_1, u1_2, y1_0, y1_1, y1_2, m1, rfl, rfl, rfl, hy1_0, hy1_1, hy1_2⟩ := open_agg3 Tryz.underlying25 (by kernel_rfl) (by kernel_rfl) (hval 1 25 v1 rfl rfl) h1
 obtain ⟨a1, e1_0, rfl, wa1⟩ := DataW.trod_int Tryz.underlying3 hy1_0
 simp at e1_0
 subst e1_0
 obtain ⟨A1_1, c1_1, l1_1, e1_1, hc1_1, hr1_1⟩ := open_C (Kd.int .i64) Tryz.underlying23 (by kernel_rfl) (0 : Int) (fun n cs y h_ => by obtain ⟨m_, h1_, _, _⟩ := DataW.trod_int Tryz.underlying3 h_; exact ⟨m_, h1_⟩) hy1_1
 simp at e1_1
 subst e1_1
 obtain ⟨A1_2, c1_2, l1_2, e1_2, hc1_2, hr1_2⟩ := open_C (Kd.int .i64) Tryz.underlying23 (by kernel_rfl) (0 : Int) (fun n cs y h_ => by obtain ⟨m_, h1_, _, _⟩ := DataW.trod_int Tryz.underlying3 h_; exact ⟨m_, h1_⟩) hy1_2
 simp at e1_2
 subst e1_2
 clear hA0 hval0 hsz0 hsz
 refine (law_holds Pure_holds _ _ l0 a1 _ _ l1_1 _ _ l1_2 W hr0 hc0 hr1_1 hc1_1 hr1_2 hc1_2).mono fun e W' ⟨he, bel⟩ => ?_
 subst he
 exact ⟨_, rfl, _, _, _, [], _, [], hW', trodAll_mk1 (shut_bool Tryz.underlying4 _), (trodAll_cons_mk (Below.trod laidOut (by kernel_rfl) (of_decide_eq_true (by kernel_rfl)) k0 bel lt0) (trodAll_cons_mk (Below.trod laidOut (by kernel_rfl) (of_decide_eq_true (by kernel_rfl)) k1 bel lt1) trodAll_mk0)), rfl, bel.frame _, fun h => by cases h⟩
theorem over : Rows.fnExactValueOverRow.holds Tryz.pinned (OpenSpec.ofChange Rows.fnExactValueOverSpec) :=
 OpenClaim.holds_of_wide 3 Tryz.f3 rfl rfl rfl rfl rfl rfl rfl ⟨rfl, rfl, rfl, rfl, rfl⟩ rfl rfl rfl rfl rfl (by kernel_rfl) Tryz.func3 (by kernel_rfl)
  (of_decide_eq_true (by kernel_rfl)) (by unfold Func.isWrapper; first | (rw [if_pos (by decide +kernel)]; kernel_rfl) | (rw [if_neg (by decide +kernel)]; exact ⟨rfl, rfl⟩))
  (fun os started H enc _ => lifted os started H enc)
theorem proved : Rows.FnExactValueOverSaid := over
end Go.Proofs.YtalcohajbcijlaaGreat.fnExactValueOver
namespace Go.Proofs.YtalcohajbcijlaaGreat
theorem fnExactValueOver_holds : Rows.FnExactValueOverSaid := fnExactValueOver.proved
#print axioms fnExactValueOver_holds
end Go.Proofs.YtalcohajbcijlaaGreat
