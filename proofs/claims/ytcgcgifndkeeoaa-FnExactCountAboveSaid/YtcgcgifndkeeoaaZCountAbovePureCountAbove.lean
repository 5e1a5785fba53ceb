import Derived.Test.YtcgcgifndkeeoaaZCountAboveLCountAbove
import Derived.Test.YtcgcgifndkeeoaaZCountAbovePureStBase
namespace Go.Proofs.Ytcgcgifndkeeoaa.QSt
open Go.RowKit Go.Proofs.YtcgcgifndkeeoaaW.PrintWords Go.Proofs.YtcgcgifndkeeoaaW.PrintLast Go.Proofs.YtcgcgifndkeeoaaW.PrintMore
set_option linter.unusedVariables false
set_option linter.unusedSimpArgs false
theorem Pure_holds : Pure := by
 intro p n1 k1 hp _ _ _
 have key : ∃ r1 r2, Ev (fun z => spec_CountAbove.f z p n1 k1) (r1, r2) ∧ Ev (fun z => impl_CountAbove.f z p n1 k1) (r1, r2) := by
  unfold spec_CountAbove.f impl_CountAbove.f
  have j1 : Ev (fun z => spec_CountAbove.j0 z p true n1 k1) (0, false) := Ev.step (fun z => rfl) (by simp only [spec_CountAbove.j0]; exact Ev_if (fun _ => Ev.now _) (fun h => absurd (by trivial) h))
  have j2 : Ev (fun z => impl_CountAbove.j0 z p true n1 k1) (0, false) := Ev.step (fun z => rfl) (by simp only [impl_CountAbove.j0]; exact Ev_if (fun _ => Ev.now _) (fun h => absurd (by trivial) h))
  by_cases hg : goodB p = true ∧ 0 < p.length
  ·obtain ⟨hg, h0⟩ := hg
   have a1 := asked_true p hp hg h0
   have a2 := isSingle_ev p hp
   rw [hg] at a2
   cases hm1 : markB n1 k1 with
   | false =>
    refine ⟨0, false, Ev.bind a1 (Ev_if (fun _ => Ev_bindS (stMark_eq n1 k1) ?_) (fun h => absurd rfl h)), Ev.bind a2 (Ev_if (fun _ => Ev_if (fun h => by omega) (fun _ => Ev_bindS (isMark_eq n1 k1) ?_)) (fun h => absurd rfl h))⟩
    ·rw [hm1]; exact j1
    ·rw [hm1]; exact j2
   | true =>
    obtain ⟨m1, rfl, b1, b2, b3⟩ := mark_facts n1 k1 hm1
    obtain ⟨c, ok, e1, e2, e3, e4, e5⟩ := chain_ev p hg h0
    have hp1 : ∀ q ∈ c, niceC q := fun q hq => (e3 q hq).1
    have hp2 : ∀ q ∈ c, 0 < q.length ∧ q.length ≤ 1000000 := fun q hq => ⟨(e3 q hq).2, by have := (e3 q hq).1.2.2; omega⟩
    obtain ⟨l, a, x1, x2, x3, x4, _⟩ := signs_ev c (by omega) hp1 n1 ⟨b2, b3⟩ m1 (by omega)
    obtain ⟨b, y1, y2, _, _⟩ := far_ev true c (by omega) hp2
    have fin : ∃ q1 q2, Ev (fun z => spec_CountAbove.j0 z p false n1 m1) (q1, q2) ∧ Ev (fun z => impl_CountAbove.j0 z p false n1 m1) (q1, q2) := by
     cases ok with
     | true =>
      refine ⟨wrap64 (a - b), true, Ev.step (fun z => rfl) ?_, Ev.step (fun z => rfl) ?_⟩
      ·simp only [spec_CountAbove.j0]
       exact Ev_if (fun h => by cases h) (fun _ => Ev.bind e1 (Ev_if (fun _ => Ev.bind x1 (Ev.bind x3 (Ev.bind y1 (Ev.now _)))) (fun h => absurd rfl h)))
      ·simp only [impl_CountAbove.j0]
       exact Ev_if (fun h => by cases h) (fun _ => Ev.bind e2 (Ev_if (fun _ => Ev.bind x2 (Ev.bind x4 (Ev.bind y2 (Ev.now _)))) (fun h => absurd rfl h)))
     | false =>
      refine ⟨0, false, Ev.step (fun z => rfl) ?_, Ev.step (fun z => rfl) ?_⟩
      ·simp only [spec_CountAbove.j0]
       exact Ev_if (fun h => by cases h) (fun _ => Ev.bind e1 (Ev_if (fun h => by cases h) (fun _ => Ev.now _)))
      ·simp only [impl_CountAbove.j0]
       exact Ev_if (fun h => by cases h) (fun _ => Ev.bind e2 (Ev_if (fun h => by cases h) (fun _ => Ev.now _)))
    obtain ⟨q1, q2, g1, g2⟩ := fin
    refine ⟨q1, q2, Ev.bind a1 (Ev_if (fun _ => Ev_bindS (stMark_eq n1 m1) ?_) (fun h => absurd rfl h)), Ev.bind a2 (Ev_if (fun _ => Ev_if (fun h => by omega) (fun _ => Ev_bindS (isMark_eq n1 m1) ?_)) (fun h => absurd rfl h))⟩
    ·rw [hm1]; exact g1
    ·rw [hm1]; exact g2
  ·refine ⟨0, false, Ev.bind (asked_false p hp hg) (Ev_if (fun h => by cases h) (fun _ => j1)), Ev.bind (isSingle_ev p hp) (Ev_if (fun h => Ev_if (fun _ => j2) (fun h2 => ?_)) (fun _ => j2))⟩
   exact absurd ⟨h, by omega⟩ hg
 obtain ⟨r1, r2, h1, h2⟩ := key
 obtain ⟨ks, ki, h, h'⟩ := Ev_both h1 h2
 exact ⟨ks, ki, r1, r2, h, h'⟩
end Go.Proofs.Ytcgcgifndkeeoaa.QSt
