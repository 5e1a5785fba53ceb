import Derived.Test.YtneceomekgophaaEvSound8
set_option linter.unusedVariables false
set_option linter.unusedSimpArgs false
namespace Go.Proofs.Ytneceomekgophaa.Ev
open Go Go.RowKit Go.Proofs Go.Proofs.YtneceomekgophaaW.PrintWords Go.Proofs.YtneceomekgophaaW.PrintLast
section
variable {P : Program} {T : List (Nat × TyI)} {X0 : Nat → Prop} {gs : List Nat} {w0 w : World} {m : Nm} {s : St} {a : Act} {ρ : Type} {r : ρ}
theorem Rel0.fresh_next (h : Rel0 X0 gs w0 m s a w) : m s.next = none ∧ (∀ q ∈ s.blks, q.1 ≠ s.next) ∧ gs.length ≤ s.next := by
  refine ⟨?_, fun q hq e => ?_, ?_⟩
  · cases hm : m s.next with
    | none => rfl
    | some n => have := (h.fresh _ n hm).1; omega
  · have := h.names q hq; omega
  · have := h.np; omega
theorem evalOps_sound (hT : TabOk P T) {C : List (Nat × CallW ρ)} (hC : EnvOk P C) {ops : Array Oper} {Q : Exit → Act → World → Prop} {K : St → Option ρ} (hK : ∀ s a w, K s = some r → Rel X0 gs w0 s a w → Q .normal a w) :
    ∀ (l : List Oper) (s : St) (a : Act) (w : World), Rel X0 gs w0 s a w → evalOps T C ops.toList l s K = some r → wpList P ops Q l a w
  | [], s, a, w, h, hp => hK s a w hp h
  | o :: l, s, a, w, ⟨m, h⟩, hp => by
    simp only [evalOps] at hp
    unfold wpList
    obtain ⟨s1, h, ⟨h1, h2⟩ | ⟨h1, h2⟩⟩ := guarded_sound h hp
    · rw [if_pos h2]
      obtain ⟨e, e1, e2, e3⟩ := step_eff hC h1
      exact .inl (e1.wp r hT hC h (fun p hp => by rw [e3 p hp]; exact h.fresh_next) _ _ fun a' w' m' _ hr => evalOps_sound hT hC hK l _ a' w' ⟨m', hr⟩ e2)
    · rw [if_neg (by simp [h2])]
      exact evalOps_sound hT hC hK l _ _ w ⟨m, h.put o.dst (.v _)⟩ h1
end
end Go.Proofs.Ytneceomekgophaa.Ev
