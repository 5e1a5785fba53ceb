import Derived.Test.YtcgcgifndkeeoaaZHasRootBetweenLHasRootBetween
import Derived.Test.YtcgcgifndkeeoaaZHasRootBetweenPureStBase
namespace Go.Proofs.Ytcgcgifndkeeoaa.QSt
open Go.RowKit Go.Proofs.YtcgcgifndkeeoaaW.PrintWords Go.Proofs.YtcgcgifndkeeoaaW.PrintLast Go.Proofs.YtcgcgifndkeeoaaW.PrintMore
set_option linter.unusedVariables false
set_option linter.unusedSimpArgs false
theorem Pure_holds : Pure := by
 intro p n1 k1 n2 k2 hp _ _ _ _ _
 have key : ∃ r1 r2, Ev (fun z => spec_HasRootBetween.f z p n1 k1 n2 k2) (r1, r2) ∧ Ev (fun z => impl_HasRootBetween.f z p n1 k1 n2 k2) (r1, r2) := by
  unfold spec_HasRootBetween.f impl_HasRootBetween.f
  have j1 : Ev (fun z => spec_HasRootBetween.j0 z p true n1 k1 n2 k2) (false, false) := Ev.step (fun z => rfl) (by simp only [spec_HasRootBetween.j0]; exact Ev_if (fun _ => Ev.now _) (fun h => absurd (by trivial) h))
  have j2 : Ev (fun z => impl_HasRootBetween.j0 z p true n1 k1 n2 k2) (false, false) := Ev.step (fun z => rfl) (by simp only [impl_HasRootBetween.j0]; exact Ev_if (fun _ => Ev.now _) (fun h => absurd (by trivial) h))
  by_cases hg : goodB p = true ∧ 0 < p.length
  ·obtain ⟨hg, h0⟩ := hg
   have a1 := asked_true p hp hg h0
   have a2 := isSingle_ev p hp
   rw [hg] at a2
   have f : ∀ (g : Nat → Option (Bool × Bool)) r, Ev g r → Ev (fun k => if (p.length : Int) = 0 then impl_HasRootBetween.j0 k p true n1 k1 n2 k2 else g k) r := fun g r h => Ev_if (fun h => by omega) (fun _ => h)
   cases hm1 : markB n1 k1 with
   | false =>
    refine ⟨false, false, Ev.bind a1 (Ev_if (fun _ => Ev_bindS (stMark_eq n1 k1) ?_) (fun h => absurd rfl h)), Ev.bind a2 (Ev_if (fun _ => f _ _ (Ev_bindS (isMark_eq n1 k1) ?_)) (fun h => absurd rfl h))⟩
    ·rw [hm1]; exact Ev_if (fun h => by cases h) (fun _ => j1)
    ·rw [hm1]; exact Ev_if (fun h => by cases h) (fun _ => j2)
   | true =>
    cases hm2 : markB n2 k2 with
    | false =>
     refine ⟨false, false, Ev.bind a1 (Ev_if (fun _ => Ev_bindS (stMark_eq n1 k1) ?_) (fun h => absurd rfl h)), Ev.bind a2 (Ev_if (fun _ => f _ _ (Ev_bindS (isMark_eq n1 k1) ?_)) (fun h => absurd rfl h))⟩
     ·rw [hm1]; refine Ev_if (fun _ => Ev_bindS (stMark_eq n2 k2) ?_) (fun h => absurd rfl h)
      rw [hm2]; exact Ev_if (fun h => by cases h) (fun _ => j1)
     ·rw [hm1]; refine Ev_if (fun _ => Ev_bindS (isMark_eq n2 k2) ?_) (fun h => absurd rfl h)
      rw [hm2]; exact Ev_if (fun h => by cases h) (fun _ => j2)
    | true =>
     obtain ⟨m1, rfl, b1, b2, b3⟩ := mark_facts n1 k1 hm1
     obtain ⟨m2, rfl, c1, c2, c3⟩ := mark_facts n2 k2 hm2
     have d1 := dyCmp_ev n1 m1 n2 m2 ⟨by omega, by omega⟩ ⟨by omega, by omega⟩ ⟨by omega, by omega⟩ ⟨by omega, by omega⟩
     have d2 := compareD_ev n1 m1 n2 m2 ⟨by omega, by omega⟩ ⟨by omega, by omega⟩ ⟨by omega, by omega⟩ ⟨by omega, by omega⟩
     obtain ⟨r1, r2, e1, e2, e3⟩ := count_ev p hg h0 n1 ⟨b2, b3⟩ m1 (by omega) n2 ⟨c2, c3⟩ m2 (by omega)
     have hl := good_length p hg
     have hb : boundB p 1000000000 := fun x hx => by have := good_bound p hg x hx; omega
     have s1 := stSign_ev p hl hb n1 ⟨b2, b3⟩ m1 (by omega)
     have s2 := signAt_ev p hl hb n1 ⟨by omega, by omega⟩ m1 (by omega)
     obtain ⟨s, hs⟩ : ∃ s, sgnI (dv n1 m1 - dv n2 m2) = s := ⟨_, rfl⟩
     rw [hs] at d1 d2
     have fin : ∃ q1 q2, Ev (fun z => spec_HasRootBetween.j0 z p (decide (s > 0)) n1 m1 n2 m2) (q1, q2) ∧ Ev (fun z => impl_HasRootBetween.j0 z p (decide (s > 0)) n1 m1 n2 m2) (q1, q2) := by
      by_cases h : s > 0
      ·rw [decide_eq_true h]; exact ⟨_, _, j1, j2⟩
      ·rw [decide_eq_false h]
       cases r2 with
       | false =>
        refine ⟨false, false, Ev.step (fun z => rfl) ?_, Ev.step (fun z => rfl) ?_⟩
        ·simp only [spec_HasRootBetween.j0]
         exact Ev_if (fun h => by cases h) (fun _ => Ev.bind e1 (Ev_if (fun h => by cases h) (fun _ => Ev.now _)))
        ·simp only [impl_HasRootBetween.j0]
         exact Ev_if (fun h => by cases h) (fun _ => Ev.bind e2 (Ev_if (fun h => by cases h) (fun _ => Ev.now _)))
       | true =>
        by_cases hr : r1 > 0
        ·refine ⟨true, true, Ev.step (fun z => rfl) ?_, Ev.step (fun z => rfl) ?_⟩
         ·simp only [spec_HasRootBetween.j0]
          exact Ev_if (fun h => by cases h) (fun _ => Ev.bind e1 (Ev_if (fun _ => Ev_if (fun _ => Ev.now _) (fun h => absurd hr h)) (fun h => absurd rfl h)))
         ·simp only [impl_HasRootBetween.j0]
          exact Ev_if (fun h => by cases h) (fun _ => Ev.bind e2 (Ev_if (fun _ => Ev_if (fun _ => Ev.now _) (fun h => absurd hr h)) (fun h => absurd rfl h)))
        ·refine ⟨sgnI (hor p n1 m1 p.length) == 0, true, Ev.step (fun z => rfl) ?_, Ev.step (fun z => rfl) ?_⟩
         ·simp only [spec_HasRootBetween.j0]
          exact Ev_if (fun h => by cases h) (fun _ => Ev.bind e1 (Ev_if (fun _ => Ev_if (fun h => absurd h hr) (fun _ => Ev.bind s1 (Ev.now _))) (fun h => absurd rfl h)))
         ·simp only [impl_HasRootBetween.j0]
          exact Ev_if (fun h => by cases h) (fun _ => Ev.bind e2 (Ev_if (fun _ => Ev_if (fun h => absurd h hr) (fun _ => Ev.bind s2 (Ev.now _))) (fun h => absurd rfl h)))
     obtain ⟨q1, q2, g1, g2⟩ := fin
     refine ⟨q1, q2, Ev.bind a1 (Ev_if (fun _ => Ev_bindS (stMark_eq n1 m1) ?_) (fun h => absurd rfl h)), Ev.bind a2 (Ev_if (fun _ => f _ _ (Ev_bindS (isMark_eq n1 m1) ?_)) (fun h => absurd rfl h))⟩
     ·rw [hm1]; refine Ev_if (fun _ => Ev_bindS (stMark_eq n2 m2) ?_) (fun h => absurd rfl h)
      rw [hm2]; exact Ev_if (fun _ => Ev.bind d1 g1) (fun h => absurd rfl h)
     ·rw [hm1]; refine Ev_if (fun _ => Ev_bindS (isMark_eq n2 m2) ?_) (fun h => absurd rfl h)
      rw [hm2]; exact Ev_if (fun _ => Ev.bind d2 g2) (fun h => absurd rfl h)
  ·refine ⟨false, false, Ev.bind (asked_false p hp hg) (Ev_if (fun h => by cases h) (fun _ => j1)), Ev.bind (isSingle_ev p hp) (Ev_if (fun h => Ev_if (fun _ => j2) (fun h2 => ?_)) (fun _ => j2))⟩
   exact absurd ⟨h, by omega⟩ hg
 obtain ⟨r1, r2, h1, h2⟩ := key
 obtain ⟨ks, ki, h, h'⟩ := Ev_both h1 h2
 exact ⟨ks, ki, r1, r2, h, h'⟩
end Go.Proofs.Ytcgcgifndkeeoaa.QSt
