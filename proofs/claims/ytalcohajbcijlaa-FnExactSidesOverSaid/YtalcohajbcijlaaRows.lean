/-
  No cell of these rows narrows 'for every input' (looked for: loops, veiled, ifaces, maps, wideKeys, modest, calm, conditions, laid).
  DERIVED. THE GIVEN ROWS OF THIS SEAT. 8 by the template 'for every input the law returns true; each argument reads behind the call as it read before'; 0 by the template 'total and deterministic' (their statements: YtalcohajbcijlaaTotals.lean).
  GIVEN WITH THE SEED: the statements are not yours to turn. If you find one false, say at which input.
  Laid BY PROGRAM, IN A SANDBOX (cutbox-rows.mjs): the forced cells as the released guide's own fill.sh prints them over the translation 1e96f3a538092636… (all of the seat's roots in one cut). By AI agents, Wed Nov 11 2026. No macro, syntax, notation, axiom, sorry.
-/
import Derived.Test.YtalcohajbcijlaaChecked
import GoSem.Claim
import GoSem.ClaimJoined
import GoSem.ClaimMapViews
import Derived.JoinedTies
import Derived.KernelRfl
namespace Go.Proofs.Ytalcohajbcijlaa
/- THE CELL 'sum', in the pinned program and in every row, IS THE sha256 OF THE DUMP (.gsa) THAT YtalcohajbcijlaaProg.lean LOADS. Nothing in Lean hashes anything: it is a label: what it is worth is what the hold of that sum in a sandbox is worth. -/
noncomputable def Try.pinned : Pinned := { name := "ytalcohajbcijlaa", sum := "1e96f3a538092636cf3df5007e52e5e969e140a9d71c01b2192f4434fb9fb239", checked := Try.checked }
namespace Rows
def none {H : Type} : Left H := { results := [], args := [] }

/-- 'laws.FnExactIsBoxPoint': WHATEVER THE INPUT: true; the input reads as it did. -/
def fnExactIsBoxPointSpec : ChangeSpec := { name := "fnExactIsBoxPoint", fn := fun _ => fun
  | [d] => { results := [.lit (.bool true)], args := [d] }
  | _ => none }
def fnExactIsBoxPointRow : OpenClaim := { program := "ytalcohajbcijlaa", sum := "1e96f3a538092636cf3df5007e52e5e969e140a9d71c01b2192f4434fb9fb239", func := "loop.example/g01009/laws.FnExactIsBoxPoint", spec := "fnExactIsBoxPoint", unfollowed := true, recurses := true, apart := false }
def FnExactIsBoxPointSaid : Prop := fnExactIsBoxPointRow.holds Try.pinned (OpenSpec.ofChange fnExactIsBoxPointSpec)

/-- ITS FALSE NEIGHBOUR: 'it returns false'. Refute it at one input. -/
def fnExactIsBoxPointWrong : ChangeSpec := { name := "fnExactIsBoxPoint", fn := fun _ => fun
  | [d] => { results := [.lit (.bool false)], args := [d] }
  | _ => none }
def FnExactIsBoxPointWrongFalsely : Prop := fnExactIsBoxPointRow.holds Try.pinned (OpenSpec.ofChange fnExactIsBoxPointWrong)

/-- 'laws.FnExactSidesOver': WHATEVER THE INPUT: true; the input reads as it did. -/
def fnExactSidesOverSpec : ChangeSpec := { name := "fnExactSidesOver", fn := fun _ => fun
  | [d] => { results := [.lit (.bool true)], args := [d] }
  | _ => none }
def fnExactSidesOverRow : OpenClaim := { program := "ytalcohajbcijlaa", sum := "1e96f3a538092636cf3df5007e52e5e969e140a9d71c01b2192f4434fb9fb239", func := "loop.example/g01009/laws.FnExactSidesOver", spec := "fnExactSidesOver", apart := false }
def FnExactSidesOverSaid : Prop := fnExactSidesOverRow.holds Try.pinned (OpenSpec.ofChange fnExactSidesOverSpec)

/-- ITS FALSE NEIGHBOUR: 'it returns false'. Refute it at one input. -/
def fnExactSidesOverWrong : ChangeSpec := { name := "fnExactSidesOver", fn := fun _ => fun
  | [d] => { results := [.lit (.bool false)], args := [d] }
  | _ => none }
def FnExactSidesOverWrongFalsely : Prop := fnExactSidesOverRow.holds Try.pinned (OpenSpec.ofChange fnExactSidesOverWrong)

/-- 'laws.FnExactFaceOf': WHATEVER THE INPUT: true; the input reads as it did. -/
def fnExactFaceOfSpec : ChangeSpec := { name := "fnExactFaceOf", fn := fun _ => fun
  | [d1, d2, d3] => { results := [.lit (.bool true)], args := [d1, d2, d3] }
  | _ => none }
def fnExactFaceOfRow : OpenClaim := { program := "ytalcohajbcijlaa", sum := "1e96f3a538092636cf3df5007e52e5e969e140a9d71c01b2192f4434fb9fb239", func := "loop.example/g01009/laws.FnExactFaceOf", spec := "fnExactFaceOf", unfollowed := true, recurses := true, apart := false }
def FnExactFaceOfSaid : Prop := fnExactFaceOfRow.holds Try.pinned (OpenSpec.ofChange fnExactFaceOfSpec)

/-- ITS FALSE NEIGHBOUR: 'it returns false'. Refute it at one input. -/
def fnExactFaceOfWrong : ChangeSpec := { name := "fnExactFaceOf", fn := fun _ => fun
  | [d1, d2, d3] => { results := [.lit (.bool false)], args := [d1, d2, d3] }
  | _ => none }
def FnExactFaceOfWrongFalsely : Prop := fnExactFaceOfRow.holds Try.pinned (OpenSpec.ofChange fnExactFaceOfWrong)

/-- 'laws.FnExactSignAtPoint': WHATEVER THE INPUT: true; the input reads as it did. -/
def fnExactSignAtPointSpec : ChangeSpec := { name := "fnExactSignAtPoint", fn := fun _ => fun
  | [d1, d2] => { results := [.lit (.bool true)], args := [d1, d2] }
  | _ => none }
def fnExactSignAtPointRow : OpenClaim := { program := "ytalcohajbcijlaa", sum := "1e96f3a538092636cf3df5007e52e5e969e140a9d71c01b2192f4434fb9fb239", func := "loop.example/g01009/laws.FnExactSignAtPoint", spec := "fnExactSignAtPoint", unfollowed := true, recurses := true, apart := false }
def FnExactSignAtPointSaid : Prop := fnExactSignAtPointRow.holds Try.pinned (OpenSpec.ofChange fnExactSignAtPointSpec)

/-- ITS FALSE NEIGHBOUR: 'it returns false'. Refute it at one input. -/
def fnExactSignAtPointWrong : ChangeSpec := { name := "fnExactSignAtPoint", fn := fun _ => fun
  | [d1, d2] => { results := [.lit (.bool false)], args := [d1, d2] }
  | _ => none }
def FnExactSignAtPointWrongFalsely : Prop := fnExactSignAtPointRow.holds Try.pinned (OpenSpec.ofChange fnExactSignAtPointWrong)

/-- 'laws.FnExactHasPoint': WHATEVER THE INPUT: true; the input reads as it did. -/
def fnExactHasPointSpec : ChangeSpec := { name := "fnExactHasPoint", fn := fun _ => fun
  | [d1, d2] => { results := [.lit (.bool true)], args := [d1, d2] }
  | _ => none }
def fnExactHasPointRow : OpenClaim := { program := "ytalcohajbcijlaa", sum := "1e96f3a538092636cf3df5007e52e5e969e140a9d71c01b2192f4434fb9fb239", func := "loop.example/g01009/laws.FnExactHasPoint", spec := "fnExactHasPoint", unfollowed := true, recurses := true, apart := false }
def FnExactHasPointSaid : Prop := fnExactHasPointRow.holds Try.pinned (OpenSpec.ofChange fnExactHasPointSpec)

/-- ITS FALSE NEIGHBOUR: 'it returns false'. Refute it at one input. -/
def fnExactHasPointWrong : ChangeSpec := { name := "fnExactHasPoint", fn := fun _ => fun
  | [d1, d2] => { results := [.lit (.bool false)], args := [d1, d2] }
  | _ => none }
def FnExactHasPointWrongFalsely : Prop := fnExactHasPointRow.holds Try.pinned (OpenSpec.ofChange fnExactHasPointWrong)

/-- 'laws.FnExactValueAt': WHATEVER THE INPUT: true; the input reads as it did. -/
def fnExactValueAtSpec : ChangeSpec := { name := "fnExactValueAt", fn := fun _ => fun
  | [d1, d2] => { results := [.lit (.bool true)], args := [d1, d2] }
  | _ => none }
def fnExactValueAtRow : OpenClaim := { program := "ytalcohajbcijlaa", sum := "1e96f3a538092636cf3df5007e52e5e969e140a9d71c01b2192f4434fb9fb239", func := "loop.example/g01009/laws.FnExactValueAt", spec := "fnExactValueAt", unfollowed := true, recurses := true, apart := false }
def FnExactValueAtSaid : Prop := fnExactValueAtRow.holds Try.pinned (OpenSpec.ofChange fnExactValueAtSpec)

/-- ITS FALSE NEIGHBOUR: 'it returns false'. Refute it at one input. -/
def fnExactValueAtWrong : ChangeSpec := { name := "fnExactValueAt", fn := fun _ => fun
  | [d1, d2] => { results := [.lit (.bool false)], args := [d1, d2] }
  | _ => none }
def FnExactValueAtWrongFalsely : Prop := fnExactValueAtRow.holds Try.pinned (OpenSpec.ofChange fnExactValueAtWrong)

/-- 'laws.FnExactPartsOf': WHATEVER THE INPUT: true; the input reads as it did. -/
def fnExactPartsOfSpec : ChangeSpec := { name := "fnExactPartsOf", fn := fun _ => fun
  | [d1, d2] => { results := [.lit (.bool true)], args := [d1, d2] }
  | _ => none }
def fnExactPartsOfRow : OpenClaim := { program := "ytalcohajbcijlaa", sum := "1e96f3a538092636cf3df5007e52e5e969e140a9d71c01b2192f4434fb9fb239", func := "loop.example/g01009/laws.FnExactPartsOf", spec := "fnExactPartsOf", unfollowed := true, recurses := true, apart := false }
def FnExactPartsOfSaid : Prop := fnExactPartsOfRow.holds Try.pinned (OpenSpec.ofChange fnExactPartsOfSpec)

/-- ITS FALSE NEIGHBOUR: 'it returns false'. Refute it at one input. -/
def fnExactPartsOfWrong : ChangeSpec := { name := "fnExactPartsOf", fn := fun _ => fun
  | [d1, d2] => { results := [.lit (.bool false)], args := [d1, d2] }
  | _ => none }
def FnExactPartsOfWrongFalsely : Prop := fnExactPartsOfRow.holds Try.pinned (OpenSpec.ofChange fnExactPartsOfWrong)

/-- 'laws.FnExactSignsAt': WHATEVER THE INPUT: true; the input reads as it did. -/
def fnExactSignsAtSpec : ChangeSpec := { name := "fnExactSignsAt", fn := fun _ => fun
  | [d1, d2] => { results := [.lit (.bool true)], args := [d1, d2] }
  | _ => none }
def fnExactSignsAtRow : OpenClaim := { program := "ytalcohajbcijlaa", sum := "1e96f3a538092636cf3df5007e52e5e969e140a9d71c01b2192f4434fb9fb239", func := "loop.example/g01009/laws.FnExactSignsAt", spec := "fnExactSignsAt", unfollowed := true, recurses := true, apart := false }
def FnExactSignsAtSaid : Prop := fnExactSignsAtRow.holds Try.pinned (OpenSpec.ofChange fnExactSignsAtSpec)

/-- ITS FALSE NEIGHBOUR: 'it returns false'. Refute it at one input. -/
def fnExactSignsAtWrong : ChangeSpec := { name := "fnExactSignsAt", fn := fun _ => fun
  | [d1, d2] => { results := [.lit (.bool false)], args := [d1, d2] }
  | _ => none }
def FnExactSignsAtWrongFalsely : Prop := fnExactSignsAtRow.holds Try.pinned (OpenSpec.ofChange fnExactSignsAtWrong)

/- THE SECOND FORM. 'bulk': how many values and letters a reading holds, each counted each time it is reached (what is shared counts as often as it is met; a slice's spare places count too). A statement '..UptoSaid' is the law's where the arguments, and the package variables that the reading takes, are together of bulk at most 1048576: NARROWER than '..Said'. Prove '..Said' where nothing that the law and all that it calls make is longer than what came in: it says more and counts as full. Else prove '..UptoSaid'. A law counts once. -/
mutual
def uptoBulk {H : Type} : DataW H → Nat
  | .lit (.string bytes) => bytes.length + 1
  | .lit _ => 1
  | .nil => 1
  | .ptr d => uptoBulk d + 1
  | .slice elems spare => uptoBulkAll elems + uptoBulkAll spare + 1
  | .agg parts => uptoBulkAll parts + 1
  | .iface _ d => uptoBulk d + 1
  | .map entries => uptoBulkEntries entries + 1
  | .held _ => 1
def uptoBulkAll {H : Type} : List (DataW H) → Nat
  | [] => 0
  | d :: r => uptoBulk d + uptoBulkAll r
def uptoBulkEntries {H : Type} : List (Lit × DataW H) → Nat
  | [] => 0
  | x :: r => uptoBulkEntry x + uptoBulkEntries r
def uptoBulkEntry {H : Type} : Lit × DataW H → Nat
  | (.string bytes, d) => bytes.length + uptoBulk d + 1
  | (_, d) => uptoBulk d + 1
 end
def uptoSmall : (H : Type) → List (DataW H) → Bool := fun _ ds => decide (uptoBulkAll ds ≤ 1048576)
def OpenSpec.upto (s : _root_.Go.ChangeSpec) : _root_.Go.OpenSpec := { _root_.Go.OpenSpec.ofChange s with cond := some uptoSmall }

/-- 'laws.FnExactIsBoxPoint', WHERE WHAT IT READS IS OF BULK AT MOST 1048576: true; the input reads as it did. -/
def fnExactIsBoxPointUptoRow : OpenClaim := { program := "ytalcohajbcijlaa", sum := "1e96f3a538092636cf3df5007e52e5e969e140a9d71c01b2192f4434fb9fb239", func := "loop.example/g01009/laws.FnExactIsBoxPoint", spec := "fnExactIsBoxPoint", unfollowed := true, recurses := true, apart := false, narrowed := true }
def FnExactIsBoxPointUptoSaid : Prop := fnExactIsBoxPointUptoRow.holds Try.pinned (OpenSpec.upto fnExactIsBoxPointSpec)

/-- 'laws.FnExactSidesOver', WHERE WHAT IT READS IS OF BULK AT MOST 1048576: true; the input reads as it did. -/
def fnExactSidesOverUptoRow : OpenClaim := { program := "ytalcohajbcijlaa", sum := "1e96f3a538092636cf3df5007e52e5e969e140a9d71c01b2192f4434fb9fb239", func := "loop.example/g01009/laws.FnExactSidesOver", spec := "fnExactSidesOver", apart := false, narrowed := true }
def FnExactSidesOverUptoSaid : Prop := fnExactSidesOverUptoRow.holds Try.pinned (OpenSpec.upto fnExactSidesOverSpec)

/-- 'laws.FnExactFaceOf', WHERE WHAT IT READS IS OF BULK AT MOST 1048576: true; the input reads as it did. -/
def fnExactFaceOfUptoRow : OpenClaim := { program := "ytalcohajbcijlaa", sum := "1e96f3a538092636cf3df5007e52e5e969e140a9d71c01b2192f4434fb9fb239", func := "loop.example/g01009/laws.FnExactFaceOf", spec := "fnExactFaceOf", unfollowed := true, recurses := true, apart := false, narrowed := true }
def FnExactFaceOfUptoSaid : Prop := fnExactFaceOfUptoRow.holds Try.pinned (OpenSpec.upto fnExactFaceOfSpec)

/-- 'laws.FnExactSignAtPoint', WHERE WHAT IT READS IS OF BULK AT MOST 1048576: true; the input reads as it did. -/
def fnExactSignAtPointUptoRow : OpenClaim := { program := "ytalcohajbcijlaa", sum := "1e96f3a538092636cf3df5007e52e5e969e140a9d71c01b2192f4434fb9fb239", func := "loop.example/g01009/laws.FnExactSignAtPoint", spec := "fnExactSignAtPoint", unfollowed := true, recurses := true, apart := false, narrowed := true }
def FnExactSignAtPointUptoSaid : Prop := fnExactSignAtPointUptoRow.holds Try.pinned (OpenSpec.upto fnExactSignAtPointSpec)

/-- 'laws.FnExactHasPoint', WHERE WHAT IT READS IS OF BULK AT MOST 1048576: true; the input reads as it did. -/
def fnExactHasPointUptoRow : OpenClaim := { program := "ytalcohajbcijlaa", sum := "1e96f3a538092636cf3df5007e52e5e969e140a9d71c01b2192f4434fb9fb239", func := "loop.example/g01009/laws.FnExactHasPoint", spec := "fnExactHasPoint", unfollowed := true, recurses := true, apart := false, narrowed := true }
def FnExactHasPointUptoSaid : Prop := fnExactHasPointUptoRow.holds Try.pinned (OpenSpec.upto fnExactHasPointSpec)

/-- 'laws.FnExactValueAt', WHERE WHAT IT READS IS OF BULK AT MOST 1048576: true; the input reads as it did. -/
def fnExactValueAtUptoRow : OpenClaim := { program := "ytalcohajbcijlaa", sum := "1e96f3a538092636cf3df5007e52e5e969e140a9d71c01b2192f4434fb9fb239", func := "loop.example/g01009/laws.FnExactValueAt", spec := "fnExactValueAt", unfollowed := true, recurses := true, apart := false, narrowed := true }
def FnExactValueAtUptoSaid : Prop := fnExactValueAtUptoRow.holds Try.pinned (OpenSpec.upto fnExactValueAtSpec)

/-- 'laws.FnExactPartsOf', WHERE WHAT IT READS IS OF BULK AT MOST 1048576: true; the input reads as it did. -/
def fnExactPartsOfUptoRow : OpenClaim := { program := "ytalcohajbcijlaa", sum := "1e96f3a538092636cf3df5007e52e5e969e140a9d71c01b2192f4434fb9fb239", func := "loop.example/g01009/laws.FnExactPartsOf", spec := "fnExactPartsOf", unfollowed := true, recurses := true, apart := false, narrowed := true }
def FnExactPartsOfUptoSaid : Prop := fnExactPartsOfUptoRow.holds Try.pinned (OpenSpec.upto fnExactPartsOfSpec)

/-- 'laws.FnExactSignsAt', WHERE WHAT IT READS IS OF BULK AT MOST 1048576: true; the input reads as it did. -/
def fnExactSignsAtUptoRow : OpenClaim := { program := "ytalcohajbcijlaa", sum := "1e96f3a538092636cf3df5007e52e5e969e140a9d71c01b2192f4434fb9fb239", func := "loop.example/g01009/laws.FnExactSignsAt", spec := "fnExactSignsAt", unfollowed := true, recurses := true, apart := false, narrowed := true }
def FnExactSignsAtUptoSaid : Prop := fnExactSignsAtUptoRow.holds Try.pinned (OpenSpec.upto fnExactSignsAtSpec)

end Rows
end Go.Proofs.Ytalcohajbcijlaa
