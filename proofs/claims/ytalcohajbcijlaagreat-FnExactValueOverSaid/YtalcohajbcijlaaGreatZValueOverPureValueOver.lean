import Derived.Test.YtalcohajbcijlaaGreatZValueOverLValueOver
import Derived.Test.YtalcohajbcijlaaGreatZValueOverEvPure
namespace Go.Proofs.YtalcohajbcijlaaGreat.QVov
theorem Pure_holds : Pure := by
 intro l0 a1 l1 l2 hl
 obtain ⟨k, r, h1, h2⟩ := Ev.ValueOver_pure (tm55 (l0.map cvTermS)) a1 l1 l2 (by simp only [tm55, List.length_map]; omega) (by omega) (by omega)
 obtain ⟨r0, r1, r2, r3, o⟩ := r
 exact ⟨k, k, r0, r1, r2, r3, o, h1, h2⟩
end Go.Proofs.YtalcohajbcijlaaGreat.QVov
