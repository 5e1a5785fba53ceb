/-
  No cell of these rows narrows 'for every input' (looked for: loops, veiled, ifaces, maps, wideKeys, modest, calm, conditions, laid).
  DERIVED. THE GIVEN ROWS OF THIS SEAT. 6 by the template 'for every input the law returns true; each argument reads behind the call as it read before'; 0 by the template 'total and deterministic' (their statements: YtipnbjamkhhmbaaTotals.lean).
  GIVEN WITH THE SEED: the statements are not yours to turn. If you find one false, say at which input.
  Laid BY PROGRAM, IN A SANDBOX (cutbox-rows.mjs): the forced cells as the released guide's own fill.sh prints them over the translation 8d2311441c5c4c16… (all of the seat's roots in one cut). By AI agents, Wed Nov 11 2026. No macro, syntax, notation, axiom, sorry.
-/
import Derived.Test.YtipnbjamkhhmbaaChecked
import GoSem.Claim
import GoSem.ClaimJoined
import GoSem.ClaimMapViews
import Derived.JoinedTies
import Derived.KernelRfl
namespace Go.Proofs.Ytipnbjamkhhmbaa
/- THE CELL 'sum', in the pinned program and in every row, IS THE sha256 OF THE DUMP (.gsa) THAT YtipnbjamkhhmbaaProg.lean LOADS. Nothing in Lean hashes anything: it is a label: what it is worth is what the hold of that sum in a sandbox is worth. -/
noncomputable def Try.pinned : Pinned := { name := "ytipnbjamkhhmbaa", sum := "8d2311441c5c4c168436f481996900782f685c8e8b7613ae096bdb17813fbef1", checked := Try.checked }
namespace Rows
def none {H : Type} : Left H := { results := [], args := [] }

/-- 'laws.FnExactIsMarkNumber': WHATEVER THE INPUT: true; the input reads as it did. -/
def fnExactIsMarkNumberSpec : ChangeSpec := { name := "fnExactIsMarkNumber", fn := fun _ => fun
  | [d] => { results := [.lit (.bool true)], args := [d] }
  | _ => none }
def fnExactIsMarkNumberRow : OpenClaim := { program := "ytipnbjamkhhmbaa", sum := "8d2311441c5c4c168436f481996900782f685c8e8b7613ae096bdb17813fbef1", func := "loop.example/g01009/laws.FnExactIsMarkNumber", spec := "fnExactIsMarkNumber", apart := false }
def FnExactIsMarkNumberSaid : Prop := fnExactIsMarkNumberRow.holds Try.pinned (OpenSpec.ofChange fnExactIsMarkNumberSpec)

/-- ITS FALSE NEIGHBOUR: 'it returns false'. Refute it at one input. -/
def fnExactIsMarkNumberWrong : ChangeSpec := { name := "fnExactIsMarkNumber", fn := fun _ => fun
  | [d] => { results := [.lit (.bool false)], args := [d] }
  | _ => none }
def FnExactIsMarkNumberWrongFalsely : Prop := fnExactIsMarkNumberRow.holds Try.pinned (OpenSpec.ofChange fnExactIsMarkNumberWrong)

/-- 'laws.FnExactIsSingle': WHATEVER THE INPUT: true; the input reads as it did. -/
def fnExactIsSingleSpec : ChangeSpec := { name := "fnExactIsSingle", fn := fun _ => fun
  | [d] => { results := [.lit (.bool true)], args := [d] }
  | _ => none }
def fnExactIsSingleRow : OpenClaim := { program := "ytipnbjamkhhmbaa", sum := "8d2311441c5c4c168436f481996900782f685c8e8b7613ae096bdb17813fbef1", func := "loop.example/g01009/laws.FnExactIsSingle", spec := "fnExactIsSingle", apart := false }
def FnExactIsSingleSaid : Prop := fnExactIsSingleRow.holds Try.pinned (OpenSpec.ofChange fnExactIsSingleSpec)

/-- ITS FALSE NEIGHBOUR: 'it returns false'. Refute it at one input. -/
def fnExactIsSingleWrong : ChangeSpec := { name := "fnExactIsSingle", fn := fun _ => fun
  | [d] => { results := [.lit (.bool false)], args := [d] }
  | _ => none }
def FnExactIsSingleWrongFalsely : Prop := fnExactIsSingleRow.holds Try.pinned (OpenSpec.ofChange fnExactIsSingleWrong)

/-- 'laws.FnExactIsSmall': WHATEVER THE INPUT: true; the input reads as it did. -/
def fnExactIsSmallSpec : ChangeSpec := { name := "fnExactIsSmall", fn := fun _ => fun
  | [d] => { results := [.lit (.bool true)], args := [d] }
  | _ => none }
def fnExactIsSmallRow : OpenClaim := { program := "ytipnbjamkhhmbaa", sum := "8d2311441c5c4c168436f481996900782f685c8e8b7613ae096bdb17813fbef1", func := "loop.example/g01009/laws.FnExactIsSmall", spec := "fnExactIsSmall", unfollowed := true, recurses := true, apart := false }
def FnExactIsSmallSaid : Prop := fnExactIsSmallRow.holds Try.pinned (OpenSpec.ofChange fnExactIsSmallSpec)

/-- ITS FALSE NEIGHBOUR: 'it returns false'. Refute it at one input. -/
def fnExactIsSmallWrong : ChangeSpec := { name := "fnExactIsSmall", fn := fun _ => fun
  | [d] => { results := [.lit (.bool false)], args := [d] }
  | _ => none }
def FnExactIsSmallWrongFalsely : Prop := fnExactIsSmallRow.holds Try.pinned (OpenSpec.ofChange fnExactIsSmallWrong)

/-- 'laws.FnExactRootPower': WHATEVER THE INPUT: true; the input reads as it did. -/
def fnExactRootPowerSpec : ChangeSpec := { name := "fnExactRootPower", fn := fun _ => fun
  | [d] => { results := [.lit (.bool true)], args := [d] }
  | _ => none }
def fnExactRootPowerRow : OpenClaim := { program := "ytipnbjamkhhmbaa", sum := "8d2311441c5c4c168436f481996900782f685c8e8b7613ae096bdb17813fbef1", func := "loop.example/g01009/laws.FnExactRootPower", spec := "fnExactRootPower", apart := false }
def FnExactRootPowerSaid : Prop := fnExactRootPowerRow.holds Try.pinned (OpenSpec.ofChange fnExactRootPowerSpec)

/-- ITS FALSE NEIGHBOUR: 'it returns false'. Refute it at one input. -/
def fnExactRootPowerWrong : ChangeSpec := { name := "fnExactRootPower", fn := fun _ => fun
  | [d] => { results := [.lit (.bool false)], args := [d] }
  | _ => none }
def FnExactRootPowerWrongFalsely : Prop := fnExactRootPowerRow.holds Try.pinned (OpenSpec.ofChange fnExactRootPowerWrong)

/-- 'laws.FnExactContentOf': WHATEVER THE INPUT: true; the input reads as it did. -/
def fnExactContentOfSpec : ChangeSpec := { name := "fnExactContentOf", fn := fun _ => fun
  | [d] => { results := [.lit (.bool true)], args := [d] }
  | _ => none }
def fnExactContentOfRow : OpenClaim := { program := "ytipnbjamkhhmbaa", sum := "8d2311441c5c4c168436f481996900782f685c8e8b7613ae096bdb17813fbef1", func := "loop.example/g01009/laws.FnExactContentOf", spec := "fnExactContentOf", apart := false }
def FnExactContentOfSaid : Prop := fnExactContentOfRow.holds Try.pinned (OpenSpec.ofChange fnExactContentOfSpec)

/-- ITS FALSE NEIGHBOUR: 'it returns false'. Refute it at one input. -/
def fnExactContentOfWrong : ChangeSpec := { name := "fnExactContentOf", fn := fun _ => fun
  | [d] => { results := [.lit (.bool false)], args := [d] }
  | _ => none }
def FnExactContentOfWrongFalsely : Prop := fnExactContentOfRow.holds Try.pinned (OpenSpec.ofChange fnExactContentOfWrong)

/-- 'laws.FnExactVariationsOf': WHATEVER THE INPUT: true; the input reads as it did. -/
def fnExactVariationsOfSpec : ChangeSpec := { name := "fnExactVariationsOf", fn := fun _ => fun
  | [d] => { results := [.lit (.bool true)], args := [d] }
  | _ => none }
def fnExactVariationsOfRow : OpenClaim := { program := "ytipnbjamkhhmbaa", sum := "8d2311441c5c4c168436f481996900782f685c8e8b7613ae096bdb17813fbef1", func := "loop.example/g01009/laws.FnExactVariationsOf", spec := "fnExactVariationsOf", unfollowed := true, recurses := true, apart := false }
def FnExactVariationsOfSaid : Prop := fnExactVariationsOfRow.holds Try.pinned (OpenSpec.ofChange fnExactVariationsOfSpec)

/-- ITS FALSE NEIGHBOUR: 'it returns false'. Refute it at one input. -/
def fnExactVariationsOfWrong : ChangeSpec := { name := "fnExactVariationsOf", fn := fun _ => fun
  | [d] => { results := [.lit (.bool false)], args := [d] }
  | _ => none }
def FnExactVariationsOfWrongFalsely : Prop := fnExactVariationsOfRow.holds Try.pinned (OpenSpec.ofChange fnExactVariationsOfWrong)

/- THE SECOND FORM. 'bulk': how many values and letters a reading holds, each counted each time it is reached (what is shared counts as often as it is met; a slice's spare places count too). A statement '..UptoSaid' is the law's where the arguments, and the package variables that the reading takes, are together of bulk at most 1048576: NARROWER than '..Said'. Prove '..Said' where nothing that the law and all that it calls make is longer than what came in: it says more and counts as full. Else prove '..UptoSaid'. A law counts once. -/
mutual
def uptoBulk {H : Type} : DataW H → Nat
  | .lit (.string bytes) => bytes.length + 1
  | .lit _ => 1
  | .nil => 1
  | .ptr d => uptoBulk d + 1
  | .slice elems spare => uptoBulkAll elems + uptoBulkAll spare + 1
  | .agg parts => uptoBulkAll parts + 1
  | .iface _ d => uptoBulk d + 1
  | .map entries => uptoBulkEntries entries + 1
  | .held _ => 1
def uptoBulkAll {H : Type} : List (DataW H) → Nat
  | [] => 0
  | d :: r => uptoBulk d + uptoBulkAll r
def uptoBulkEntries {H : Type} : List (Lit × DataW H) → Nat
  | [] => 0
  | x :: r => uptoBulkEntry x + uptoBulkEntries r
def uptoBulkEntry {H : Type} : Lit × DataW H → Nat
  | (.string bytes, d) => bytes.length + uptoBulk d + 1
  | (_, d) => uptoBulk d + 1
 end
def uptoSmall : (H : Type) → List (DataW H) → Bool := fun _ ds => decide (uptoBulkAll ds ≤ 1048576)
def OpenSpec.upto (s : _root_.Go.ChangeSpec) : _root_.Go.OpenSpec := { _root_.Go.OpenSpec.ofChange s with cond := some uptoSmall }

/-- 'laws.FnExactIsMarkNumber', WHERE WHAT IT READS IS OF BULK AT MOST 1048576: true; the input reads as it did. -/
def fnExactIsMarkNumberUptoRow : OpenClaim := { program := "ytipnbjamkhhmbaa", sum := "8d2311441c5c4c168436f481996900782f685c8e8b7613ae096bdb17813fbef1", func := "loop.example/g01009/laws.FnExactIsMarkNumber", spec := "fnExactIsMarkNumber", apart := false, narrowed := true }
def FnExactIsMarkNumberUptoSaid : Prop := fnExactIsMarkNumberUptoRow.holds Try.pinned (OpenSpec.upto fnExactIsMarkNumberSpec)

/-- 'laws.FnExactIsSingle', WHERE WHAT IT READS IS OF BULK AT MOST 1048576: true; the input reads as it did. -/
def fnExactIsSingleUptoRow : OpenClaim := { program := "ytipnbjamkhhmbaa", sum := "8d2311441c5c4c168436f481996900782f685c8e8b7613ae096bdb17813fbef1", func := "loop.example/g01009/laws.FnExactIsSingle", spec := "fnExactIsSingle", apart := false, narrowed := true }
def FnExactIsSingleUptoSaid : Prop := fnExactIsSingleUptoRow.holds Try.pinned (OpenSpec.upto fnExactIsSingleSpec)

/-- 'laws.FnExactIsSmall', WHERE WHAT IT READS IS OF BULK AT MOST 1048576: true; the input reads as it did. -/
def fnExactIsSmallUptoRow : OpenClaim := { program := "ytipnbjamkhhmbaa", sum := "8d2311441c5c4c168436f481996900782f685c8e8b7613ae096bdb17813fbef1", func := "loop.example/g01009/laws.FnExactIsSmall", spec := "fnExactIsSmall", unfollowed := true, recurses := true, apart := false, narrowed := true }
def FnExactIsSmallUptoSaid : Prop := fnExactIsSmallUptoRow.holds Try.pinned (OpenSpec.upto fnExactIsSmallSpec)

/-- 'laws.FnExactRootPower', WHERE WHAT IT READS IS OF BULK AT MOST 1048576: true; the input reads as it did. -/
def fnExactRootPowerUptoRow : OpenClaim := { program := "ytipnbjamkhhmbaa", sum := "8d2311441c5c4c168436f481996900782f685c8e8b7613ae096bdb17813fbef1", func := "loop.example/g01009/laws.FnExactRootPower", spec := "fnExactRootPower", apart := false, narrowed := true }
def FnExactRootPowerUptoSaid : Prop := fnExactRootPowerUptoRow.holds Try.pinned (OpenSpec.upto fnExactRootPowerSpec)

/-- 'laws.FnExactContentOf', WHERE WHAT IT READS IS OF BULK AT MOST 1048576: true; the input reads as it did. -/
def fnExactContentOfUptoRow : OpenClaim := { program := "ytipnbjamkhhmbaa", sum := "8d2311441c5c4c168436f481996900782f685c8e8b7613ae096bdb17813fbef1", func := "loop.example/g01009/laws.FnExactContentOf", spec := "fnExactContentOf", apart := false, narrowed := true }
def FnExactContentOfUptoSaid : Prop := fnExactContentOfUptoRow.holds Try.pinned (OpenSpec.upto fnExactContentOfSpec)

/-- 'laws.FnExactVariationsOf', WHERE WHAT IT READS IS OF BULK AT MOST 1048576: true; the input reads as it did. -/
def fnExactVariationsOfUptoRow : OpenClaim := { program := "ytipnbjamkhhmbaa", sum := "8d2311441c5c4c168436f481996900782f685c8e8b7613ae096bdb17813fbef1", func := "loop.example/g01009/laws.FnExactVariationsOf", spec := "fnExactVariationsOf", unfollowed := true, recurses := true, apart := false, narrowed := true }
def FnExactVariationsOfUptoSaid : Prop := fnExactVariationsOfUptoRow.holds Try.pinned (OpenSpec.upto fnExactVariationsOfSpec)

end Rows
end Go.Proofs.Ytipnbjamkhhmbaa
