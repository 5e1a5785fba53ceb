/-
  No cell of these rows narrows 'for every input' (looked for: loops, veiled, ifaces, maps, wideKeys, modest, calm, conditions, laid).
  DERIVED. THE GIVEN ROWS OF THIS SEAT. 10 by the template 'for every input the law returns true; each argument reads behind the call as it read before'; 0 by the template 'total and deterministic' (their statements: YtcgcgifndkeeoaaTotals.lean).
  GIVEN WITH THE SEED: the statements are not yours to turn. If you find one false, say at which input.
  Laid BY PROGRAM, IN A SANDBOX (cutbox-rows.mjs): the forced cells as the released guide's own fill.sh prints them over the translation 7b2867ae95cfda24… (all of the seat's roots in one cut). By AI agents, Wed Nov 11 2026. No macro, syntax, notation, axiom, sorry.
-/
import Derived.Test.YtcgcgifndkeeoaaChecked
import GoSem.Claim
import GoSem.ClaimJoined
import GoSem.ClaimMapViews
import Derived.JoinedTies
import Derived.KernelRfl
namespace Go.Proofs.Ytcgcgifndkeeoaa
/- THE CELL 'sum', in the pinned program and in every row, IS THE sha256 OF THE DUMP (.gsa) THAT YtcgcgifndkeeoaaProg.lean LOADS. Nothing in Lean hashes anything: it is a label: what it is worth is what the hold of that sum in a sandbox is worth. -/
noncomputable def Try.pinned : Pinned := { name := "ytcgcgifndkeeoaa", sum := "7b2867ae95cfda248558310f13c246eeab324d04bd7f6c1505b446b1a9c165b3", checked := Try.checked }
namespace Rows
def none {H : Type} : Left H := { results := [], args := [] }

/-- 'laws.FnExactSignAtMark': WHATEVER THE INPUT: true; the input reads as it did. -/
def fnExactSignAtMarkSpec : ChangeSpec := { name := "fnExactSignAtMark", fn := fun _ => fun
  | [d1, d2] => { results := [.lit (.bool true)], args := [d1, d2] }
  | _ => none }
def fnExactSignAtMarkRow : OpenClaim := { program := "ytcgcgifndkeeoaa", sum := "7b2867ae95cfda248558310f13c246eeab324d04bd7f6c1505b446b1a9c165b3", func := "loop.example/g01009/laws.FnExactSignAtMark", spec := "fnExactSignAtMark", unfollowed := true, recurses := true, apart := false }
def FnExactSignAtMarkSaid : Prop := fnExactSignAtMarkRow.holds Try.pinned (OpenSpec.ofChange fnExactSignAtMarkSpec)

/-- ITS FALSE NEIGHBOUR: 'it returns false'. Refute it at one input. -/
def fnExactSignAtMarkWrong : ChangeSpec := { name := "fnExactSignAtMark", fn := fun _ => fun
  | [d1, d2] => { results := [.lit (.bool false)], args := [d1, d2] }
  | _ => none }
def FnExactSignAtMarkWrongFalsely : Prop := fnExactSignAtMarkRow.holds Try.pinned (OpenSpec.ofChange fnExactSignAtMarkWrong)

/-- 'laws.FnExactCommonDivisor': WHATEVER THE INPUT: true; the input reads as it did. -/
def fnExactCommonDivisorSpec : ChangeSpec := { name := "fnExactCommonDivisor", fn := fun _ => fun
  | [d1, d2] => { results := [.lit (.bool true)], args := [d1, d2] }
  | _ => none }
def fnExactCommonDivisorRow : OpenClaim := { program := "ytcgcgifndkeeoaa", sum := "7b2867ae95cfda248558310f13c246eeab324d04bd7f6c1505b446b1a9c165b3", func := "loop.example/g01009/laws.FnExactCommonDivisor", spec := "fnExactCommonDivisor", unfollowed := true, recurses := true, apart := false }
def FnExactCommonDivisorSaid : Prop := fnExactCommonDivisorRow.holds Try.pinned (OpenSpec.ofChange fnExactCommonDivisorSpec)

/-- ITS FALSE NEIGHBOUR: 'it returns false'. Refute it at one input. -/
def fnExactCommonDivisorWrong : ChangeSpec := { name := "fnExactCommonDivisor", fn := fun _ => fun
  | [d1, d2] => { results := [.lit (.bool false)], args := [d1, d2] }
  | _ => none }
def FnExactCommonDivisorWrongFalsely : Prop := fnExactCommonDivisorRow.holds Try.pinned (OpenSpec.ofChange fnExactCommonDivisorWrong)

/-- 'laws.FnExactSquarefreePart': WHATEVER THE INPUT: true; the input reads as it did. -/
def fnExactSquarefreePartSpec : ChangeSpec := { name := "fnExactSquarefreePart", fn := fun _ => fun
  | [d] => { results := [.lit (.bool true)], args := [d] }
  | _ => none }
def fnExactSquarefreePartRow : OpenClaim := { program := "ytcgcgifndkeeoaa", sum := "7b2867ae95cfda248558310f13c246eeab324d04bd7f6c1505b446b1a9c165b3", func := "loop.example/g01009/laws.FnExactSquarefreePart", spec := "fnExactSquarefreePart", unfollowed := true, recurses := true, apart := false }
def FnExactSquarefreePartSaid : Prop := fnExactSquarefreePartRow.holds Try.pinned (OpenSpec.ofChange fnExactSquarefreePartSpec)

/-- ITS FALSE NEIGHBOUR: 'it returns false'. Refute it at one input. -/
def fnExactSquarefreePartWrong : ChangeSpec := { name := "fnExactSquarefreePart", fn := fun _ => fun
  | [d] => { results := [.lit (.bool false)], args := [d] }
  | _ => none }
def FnExactSquarefreePartWrongFalsely : Prop := fnExactSquarefreePartRow.holds Try.pinned (OpenSpec.ofChange fnExactSquarefreePartWrong)

/-- 'laws.FnExactSignsOfChain': WHATEVER THE INPUT: true; the input reads as it did. -/
def fnExactSignsOfChainSpec : ChangeSpec := { name := "fnExactSignsOfChain", fn := fun _ => fun
  | [d1, d2] => { results := [.lit (.bool true)], args := [d1, d2] }
  | _ => none }
def fnExactSignsOfChainRow : OpenClaim := { program := "ytcgcgifndkeeoaa", sum := "7b2867ae95cfda248558310f13c246eeab324d04bd7f6c1505b446b1a9c165b3", func := "loop.example/g01009/laws.FnExactSignsOfChain", spec := "fnExactSignsOfChain", unfollowed := true, recurses := true, apart := false }
def FnExactSignsOfChainSaid : Prop := fnExactSignsOfChainRow.holds Try.pinned (OpenSpec.ofChange fnExactSignsOfChainSpec)

/-- ITS FALSE NEIGHBOUR: 'it returns false'. Refute it at one input. -/
def fnExactSignsOfChainWrong : ChangeSpec := { name := "fnExactSignsOfChain", fn := fun _ => fun
  | [d1, d2] => { results := [.lit (.bool false)], args := [d1, d2] }
  | _ => none }
def FnExactSignsOfChainWrongFalsely : Prop := fnExactSignsOfChainRow.holds Try.pinned (OpenSpec.ofChange fnExactSignsOfChainWrong)

/-- 'laws.FnExactSturmChain': WHATEVER THE INPUT: true; the input reads as it did. -/
def fnExactSturmChainSpec : ChangeSpec := { name := "fnExactSturmChain", fn := fun _ => fun
  | [d] => { results := [.lit (.bool true)], args := [d] }
  | _ => none }
def fnExactSturmChainRow : OpenClaim := { program := "ytcgcgifndkeeoaa", sum := "7b2867ae95cfda248558310f13c246eeab324d04bd7f6c1505b446b1a9c165b3", func := "loop.example/g01009/laws.FnExactSturmChain", spec := "fnExactSturmChain", unfollowed := true, recurses := true, apart := false }
def FnExactSturmChainSaid : Prop := fnExactSturmChainRow.holds Try.pinned (OpenSpec.ofChange fnExactSturmChainSpec)

/-- ITS FALSE NEIGHBOUR: 'it returns false'. Refute it at one input. -/
def fnExactSturmChainWrong : ChangeSpec := { name := "fnExactSturmChain", fn := fun _ => fun
  | [d] => { results := [.lit (.bool false)], args := [d] }
  | _ => none }
def FnExactSturmChainWrongFalsely : Prop := fnExactSturmChainRow.holds Try.pinned (OpenSpec.ofChange fnExactSturmChainWrong)

/-- 'laws.FnExactCountAll': WHATEVER THE INPUT: true; the input reads as it did. -/
def fnExactCountAllSpec : ChangeSpec := { name := "fnExactCountAll", fn := fun _ => fun
  | [d] => { results := [.lit (.bool true)], args := [d] }
  | _ => none }
def fnExactCountAllRow : OpenClaim := { program := "ytcgcgifndkeeoaa", sum := "7b2867ae95cfda248558310f13c246eeab324d04bd7f6c1505b446b1a9c165b3", func := "loop.example/g01009/laws.FnExactCountAll", spec := "fnExactCountAll", unfollowed := true, recurses := true, apart := false }
def FnExactCountAllSaid : Prop := fnExactCountAllRow.holds Try.pinned (OpenSpec.ofChange fnExactCountAllSpec)

/-- ITS FALSE NEIGHBOUR: 'it returns false'. Refute it at one input. -/
def fnExactCountAllWrong : ChangeSpec := { name := "fnExactCountAll", fn := fun _ => fun
  | [d] => { results := [.lit (.bool false)], args := [d] }
  | _ => none }
def FnExactCountAllWrongFalsely : Prop := fnExactCountAllRow.holds Try.pinned (OpenSpec.ofChange fnExactCountAllWrong)

/-- 'laws.FnExactCheckChain': WHATEVER THE INPUT: true; the input reads as it did. -/
def fnExactCheckChainSpec : ChangeSpec := { name := "fnExactCheckChain", fn := fun _ => fun
  | [d1, d2] => { results := [.lit (.bool true)], args := [d1, d2] }
  | _ => none }
def fnExactCheckChainRow : OpenClaim := { program := "ytcgcgifndkeeoaa", sum := "7b2867ae95cfda248558310f13c246eeab324d04bd7f6c1505b446b1a9c165b3", func := "loop.example/g01009/laws.FnExactCheckChain", spec := "fnExactCheckChain", unfollowed := true, recurses := true, apart := false }
def FnExactCheckChainSaid : Prop := fnExactCheckChainRow.holds Try.pinned (OpenSpec.ofChange fnExactCheckChainSpec)

/-- ITS FALSE NEIGHBOUR: 'it returns false'. Refute it at one input. -/
def fnExactCheckChainWrong : ChangeSpec := { name := "fnExactCheckChain", fn := fun _ => fun
  | [d1, d2] => { results := [.lit (.bool false)], args := [d1, d2] }
  | _ => none }
def FnExactCheckChainWrongFalsely : Prop := fnExactCheckChainRow.holds Try.pinned (OpenSpec.ofChange fnExactCheckChainWrong)

/-- 'laws.FnExactCountAbove': WHATEVER THE INPUT: true; the input reads as it did. -/
def fnExactCountAboveSpec : ChangeSpec := { name := "fnExactCountAbove", fn := fun _ => fun
  | [d1, d2] => { results := [.lit (.bool true)], args := [d1, d2] }
  | _ => none }
def fnExactCountAboveRow : OpenClaim := { program := "ytcgcgifndkeeoaa", sum := "7b2867ae95cfda248558310f13c246eeab324d04bd7f6c1505b446b1a9c165b3", func := "loop.example/g01009/laws.FnExactCountAbove", spec := "fnExactCountAbove", unfollowed := true, recurses := true, apart := false }
def FnExactCountAboveSaid : Prop := fnExactCountAboveRow.holds Try.pinned (OpenSpec.ofChange fnExactCountAboveSpec)

/-- ITS FALSE NEIGHBOUR: 'it returns false'. Refute it at one input. -/
def fnExactCountAboveWrong : ChangeSpec := { name := "fnExactCountAbove", fn := fun _ => fun
  | [d1, d2] => { results := [.lit (.bool false)], args := [d1, d2] }
  | _ => none }
def FnExactCountAboveWrongFalsely : Prop := fnExactCountAboveRow.holds Try.pinned (OpenSpec.ofChange fnExactCountAboveWrong)

/-- 'laws.FnExactCountRoots': WHATEVER THE INPUT: true; the input reads as it did. -/
def fnExactCountRootsSpec : ChangeSpec := { name := "fnExactCountRoots", fn := fun _ => fun
  | [d1, d2, d3] => { results := [.lit (.bool true)], args := [d1, d2, d3] }
  | _ => none }
def fnExactCountRootsRow : OpenClaim := { program := "ytcgcgifndkeeoaa", sum := "7b2867ae95cfda248558310f13c246eeab324d04bd7f6c1505b446b1a9c165b3", func := "loop.example/g01009/laws.FnExactCountRoots", spec := "fnExactCountRoots", unfollowed := true, recurses := true, apart := false }
def FnExactCountRootsSaid : Prop := fnExactCountRootsRow.holds Try.pinned (OpenSpec.ofChange fnExactCountRootsSpec)

/-- ITS FALSE NEIGHBOUR: 'it returns false'. Refute it at one input. -/
def fnExactCountRootsWrong : ChangeSpec := { name := "fnExactCountRoots", fn := fun _ => fun
  | [d1, d2, d3] => { results := [.lit (.bool false)], args := [d1, d2, d3] }
  | _ => none }
def FnExactCountRootsWrongFalsely : Prop := fnExactCountRootsRow.holds Try.pinned (OpenSpec.ofChange fnExactCountRootsWrong)

/-- 'laws.FnExactHasRootBetween': WHATEVER THE INPUT: true; the input reads as it did. -/
def fnExactHasRootBetweenSpec : ChangeSpec := { name := "fnExactHasRootBetween", fn := fun _ => fun
  | [d1, d2, d3] => { results := [.lit (.bool true)], args := [d1, d2, d3] }
  | _ => none }
def fnExactHasRootBetweenRow : OpenClaim := { program := "ytcgcgifndkeeoaa", sum := "7b2867ae95cfda248558310f13c246eeab324d04bd7f6c1505b446b1a9c165b3", func := "loop.example/g01009/laws.FnExactHasRootBetween", spec := "fnExactHasRootBetween", unfollowed := true, recurses := true, apart := false }
def FnExactHasRootBetweenSaid : Prop := fnExactHasRootBetweenRow.holds Try.pinned (OpenSpec.ofChange fnExactHasRootBetweenSpec)

/-- ITS FALSE NEIGHBOUR: 'it returns false'. Refute it at one input. -/
def fnExactHasRootBetweenWrong : ChangeSpec := { name := "fnExactHasRootBetween", fn := fun _ => fun
  | [d1, d2, d3] => { results := [.lit (.bool false)], args := [d1, d2, d3] }
  | _ => none }
def FnExactHasRootBetweenWrongFalsely : Prop := fnExactHasRootBetweenRow.holds Try.pinned (OpenSpec.ofChange fnExactHasRootBetweenWrong)

/- THE SECOND FORM. 'bulk': how many values and letters a reading holds, each counted each time it is reached (what is shared counts as often as it is met; a slice's spare places count too). A statement '..UptoSaid' is the law's where the arguments, and the package variables that the reading takes, are together of bulk at most 1048576: NARROWER than '..Said'. Prove '..Said' where nothing that the law and all that it calls make is longer than what came in: it says more and counts as full. Else prove '..UptoSaid'. A law counts once. -/
mutual
def uptoBulk {H : Type} : DataW H → Nat
  | .lit (.string bytes) => bytes.length + 1
  | .lit _ => 1
  | .nil => 1
  | .ptr d => uptoBulk d + 1
  | .slice elems spare => uptoBulkAll elems + uptoBulkAll spare + 1
  | .agg parts => uptoBulkAll parts + 1
  | .iface _ d => uptoBulk d + 1
  | .map entries => uptoBulkEntries entries + 1
  | .held _ => 1
def uptoBulkAll {H : Type} : List (DataW H) → Nat
  | [] => 0
  | d :: r => uptoBulk d + uptoBulkAll r
def uptoBulkEntries {H : Type} : List (Lit × DataW H) → Nat
  | [] => 0
  | x :: r => uptoBulkEntry x + uptoBulkEntries r
def uptoBulkEntry {H : Type} : Lit × DataW H → Nat
  | (.string bytes, d) => bytes.length + uptoBulk d + 1
  | (_, d) => uptoBulk d + 1
 end
def uptoSmall : (H : Type) → List (DataW H) → Bool := fun _ ds => decide (uptoBulkAll ds ≤ 1048576)
def OpenSpec.upto (s : _root_.Go.ChangeSpec) : _root_.Go.OpenSpec := { _root_.Go.OpenSpec.ofChange s with cond := some uptoSmall }

/-- 'laws.FnExactSignAtMark', WHERE WHAT IT READS IS OF BULK AT MOST 1048576: true; the input reads as it did. -/
def fnExactSignAtMarkUptoRow : OpenClaim := { program := "ytcgcgifndkeeoaa", sum := "7b2867ae95cfda248558310f13c246eeab324d04bd7f6c1505b446b1a9c165b3", func := "loop.example/g01009/laws.FnExactSignAtMark", spec := "fnExactSignAtMark", unfollowed := true, recurses := true, apart := false, narrowed := true }
def FnExactSignAtMarkUptoSaid : Prop := fnExactSignAtMarkUptoRow.holds Try.pinned (OpenSpec.upto fnExactSignAtMarkSpec)

/-- 'laws.FnExactCommonDivisor', WHERE WHAT IT READS IS OF BULK AT MOST 1048576: true; the input reads as it did. -/
def fnExactCommonDivisorUptoRow : OpenClaim := { program := "ytcgcgifndkeeoaa", sum := "7b2867ae95cfda248558310f13c246eeab324d04bd7f6c1505b446b1a9c165b3", func := "loop.example/g01009/laws.FnExactCommonDivisor", spec := "fnExactCommonDivisor", unfollowed := true, recurses := true, apart := false, narrowed := true }
def FnExactCommonDivisorUptoSaid : Prop := fnExactCommonDivisorUptoRow.holds Try.pinned (OpenSpec.upto fnExactCommonDivisorSpec)

/-- 'laws.FnExactSquarefreePart', WHERE WHAT IT READS IS OF BULK AT MOST 1048576: true; the input reads as it did. -/
def fnExactSquarefreePartUptoRow : OpenClaim := { program := "ytcgcgifndkeeoaa", sum := "7b2867ae95cfda248558310f13c246eeab324d04bd7f6c1505b446b1a9c165b3", func := "loop.example/g01009/laws.FnExactSquarefreePart", spec := "fnExactSquarefreePart", unfollowed := true, recurses := true, apart := false, narrowed := true }
def FnExactSquarefreePartUptoSaid : Prop := fnExactSquarefreePartUptoRow.holds Try.pinned (OpenSpec.upto fnExactSquarefreePartSpec)

/-- 'laws.FnExactSignsOfChain', WHERE WHAT IT READS IS OF BULK AT MOST 1048576: true; the input reads as it did. -/
def fnExactSignsOfChainUptoRow : OpenClaim := { program := "ytcgcgifndkeeoaa", sum := "7b2867ae95cfda248558310f13c246eeab324d04bd7f6c1505b446b1a9c165b3", func := "loop.example/g01009/laws.FnExactSignsOfChain", spec := "fnExactSignsOfChain", unfollowed := true, recurses := true, apart := false, narrowed := true }
def FnExactSignsOfChainUptoSaid : Prop := fnExactSignsOfChainUptoRow.holds Try.pinned (OpenSpec.upto fnExactSignsOfChainSpec)

/-- 'laws.FnExactSturmChain', WHERE WHAT IT READS IS OF BULK AT MOST 1048576: true; the input reads as it did. -/
def fnExactSturmChainUptoRow : OpenClaim := { program := "ytcgcgifndkeeoaa", sum := "7b2867ae95cfda248558310f13c246eeab324d04bd7f6c1505b446b1a9c165b3", func := "loop.example/g01009/laws.FnExactSturmChain", spec := "fnExactSturmChain", unfollowed := true, recurses := true, apart := false, narrowed := true }
def FnExactSturmChainUptoSaid : Prop := fnExactSturmChainUptoRow.holds Try.pinned (OpenSpec.upto fnExactSturmChainSpec)

/-- 'laws.FnExactCountAll', WHERE WHAT IT READS IS OF BULK AT MOST 1048576: true; the input reads as it did. -/
def fnExactCountAllUptoRow : OpenClaim := { program := "ytcgcgifndkeeoaa", sum := "7b2867ae95cfda248558310f13c246eeab324d04bd7f6c1505b446b1a9c165b3", func := "loop.example/g01009/laws.FnExactCountAll", spec := "fnExactCountAll", unfollowed := true, recurses := true, apart := false, narrowed := true }
def FnExactCountAllUptoSaid : Prop := fnExactCountAllUptoRow.holds Try.pinned (OpenSpec.upto fnExactCountAllSpec)

/-- 'laws.FnExactCheckChain', WHERE WHAT IT READS IS OF BULK AT MOST 1048576: true; the input reads as it did. -/
def fnExactCheckChainUptoRow : OpenClaim := { program := "ytcgcgifndkeeoaa", sum := "7b2867ae95cfda248558310f13c246eeab324d04bd7f6c1505b446b1a9c165b3", func := "loop.example/g01009/laws.FnExactCheckChain", spec := "fnExactCheckChain", unfollowed := true, recurses := true, apart := false, narrowed := true }
def FnExactCheckChainUptoSaid : Prop := fnExactCheckChainUptoRow.holds Try.pinned (OpenSpec.upto fnExactCheckChainSpec)

/-- 'laws.FnExactCountAbove', WHERE WHAT IT READS IS OF BULK AT MOST 1048576: true; the input reads as it did. -/
def fnExactCountAboveUptoRow : OpenClaim := { program := "ytcgcgifndkeeoaa", sum := "7b2867ae95cfda248558310f13c246eeab324d04bd7f6c1505b446b1a9c165b3", func := "loop.example/g01009/laws.FnExactCountAbove", spec := "fnExactCountAbove", unfollowed := true, recurses := true, apart := false, narrowed := true }
def FnExactCountAboveUptoSaid : Prop := fnExactCountAboveUptoRow.holds Try.pinned (OpenSpec.upto fnExactCountAboveSpec)

/-- 'laws.FnExactCountRoots', WHERE WHAT IT READS IS OF BULK AT MOST 1048576: true; the input reads as it did. -/
def fnExactCountRootsUptoRow : OpenClaim := { program := "ytcgcgifndkeeoaa", sum := "7b2867ae95cfda248558310f13c246eeab324d04bd7f6c1505b446b1a9c165b3", func := "loop.example/g01009/laws.FnExactCountRoots", spec := "fnExactCountRoots", unfollowed := true, recurses := true, apart := false, narrowed := true }
def FnExactCountRootsUptoSaid : Prop := fnExactCountRootsUptoRow.holds Try.pinned (OpenSpec.upto fnExactCountRootsSpec)

/-- 'laws.FnExactHasRootBetween', WHERE WHAT IT READS IS OF BULK AT MOST 1048576: true; the input reads as it did. -/
def fnExactHasRootBetweenUptoRow : OpenClaim := { program := "ytcgcgifndkeeoaa", sum := "7b2867ae95cfda248558310f13c246eeab324d04bd7f6c1505b446b1a9c165b3", func := "loop.example/g01009/laws.FnExactHasRootBetween", spec := "fnExactHasRootBetween", unfollowed := true, recurses := true, apart := false, narrowed := true }
def FnExactHasRootBetweenUptoSaid : Prop := fnExactHasRootBetweenUptoRow.holds Try.pinned (OpenSpec.upto fnExactHasRootBetweenSpec)

end Rows
end Go.Proofs.Ytcgcgifndkeeoaa
