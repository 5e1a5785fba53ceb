/-
  No cell of these rows narrows 'for every input' (looked for: loops, veiled, ifaces, maps, wideKeys, modest, calm, conditions, laid).
  DERIVED. THE GIVEN ROWS OF THIS SEAT. 12 by the template 'for every input the law returns true; each argument reads behind the call as it read before'; 0 by the template 'total and deterministic' (their statements: YtolacpnhndbalaaTotals.lean).
  GIVEN WITH THE SEED: the statements are not yours to turn. If you find one false, say at which input.
  Laid BY PROGRAM, IN A SANDBOX (cutbox-rows.mjs): the forced cells as the released guide's own fill.sh prints them over the translation 2ada6ff4e75be23a… (all of the seat's roots in one cut). By AI agents, Wed Nov 11 2026. No macro, syntax, notation, axiom, sorry.
-/
import Derived.Test.YtolacpnhndbalaaChecked
import GoSem.Claim
import GoSem.ClaimJoined
import GoSem.ClaimMapViews
import Derived.JoinedTies
import Derived.KernelRfl
namespace Go.Proofs.Ytolacpnhndbalaa
/- THE CELL 'sum', in the pinned program and in every row, IS THE sha256 OF THE DUMP (.gsa) THAT YtolacpnhndbalaaProg.lean LOADS. Nothing in Lean hashes anything: it is a label: what it is worth is what the hold of that sum in a sandbox is worth. -/
noncomputable def Try.pinned : Pinned := { name := "ytolacpnhndbalaa", sum := "2ada6ff4e75be23aadce4b37bfb539df02ac2b617e20ac03ff49a4a931d5827a", checked := Try.checked }
namespace Rows
def none {H : Type} : Left H := { results := [], args := [] }

/-- 'laws.FnExactTurnSingle': WHATEVER THE INPUT: true; the input reads as it did. -/
def fnExactTurnSingleSpec : ChangeSpec := { name := "fnExactTurnSingle", fn := fun _ => fun
  | [d] => { results := [.lit (.bool true)], args := [d] }
  | _ => none }
def fnExactTurnSingleRow : OpenClaim := { program := "ytolacpnhndbalaa", sum := "2ada6ff4e75be23aadce4b37bfb539df02ac2b617e20ac03ff49a4a931d5827a", func := "loop.example/g01009/laws.FnExactTurnSingle", spec := "fnExactTurnSingle", unfollowed := true, recurses := true, apart := false }
def FnExactTurnSingleSaid : Prop := fnExactTurnSingleRow.holds Try.pinned (OpenSpec.ofChange fnExactTurnSingleSpec)

/-- ITS FALSE NEIGHBOUR: 'it returns false'. Refute it at one input. -/
def fnExactTurnSingleWrong : ChangeSpec := { name := "fnExactTurnSingle", fn := fun _ => fun
  | [d] => { results := [.lit (.bool false)], args := [d] }
  | _ => none }
def FnExactTurnSingleWrongFalsely : Prop := fnExactTurnSingleRow.holds Try.pinned (OpenSpec.ofChange fnExactTurnSingleWrong)

/-- 'laws.FnExactMirrorSingle': WHATEVER THE INPUT: true; the input reads as it did. -/
def fnExactMirrorSingleSpec : ChangeSpec := { name := "fnExactMirrorSingle", fn := fun _ => fun
  | [d] => { results := [.lit (.bool true)], args := [d] }
  | _ => none }
def fnExactMirrorSingleRow : OpenClaim := { program := "ytolacpnhndbalaa", sum := "2ada6ff4e75be23aadce4b37bfb539df02ac2b617e20ac03ff49a4a931d5827a", func := "loop.example/g01009/laws.FnExactMirrorSingle", spec := "fnExactMirrorSingle", unfollowed := true, recurses := true, apart := false }
def FnExactMirrorSingleSaid : Prop := fnExactMirrorSingleRow.holds Try.pinned (OpenSpec.ofChange fnExactMirrorSingleSpec)

/-- ITS FALSE NEIGHBOUR: 'it returns false'. Refute it at one input. -/
def fnExactMirrorSingleWrong : ChangeSpec := { name := "fnExactMirrorSingle", fn := fun _ => fun
  | [d] => { results := [.lit (.bool false)], args := [d] }
  | _ => none }
def FnExactMirrorSingleWrongFalsely : Prop := fnExactMirrorSingleRow.holds Try.pinned (OpenSpec.ofChange fnExactMirrorSingleWrong)

/-- 'laws.FnExactDeriveSingle': WHATEVER THE INPUT: true; the input reads as it did. -/
def fnExactDeriveSingleSpec : ChangeSpec := { name := "fnExactDeriveSingle", fn := fun _ => fun
  | [d] => { results := [.lit (.bool true)], args := [d] }
  | _ => none }
def fnExactDeriveSingleRow : OpenClaim := { program := "ytolacpnhndbalaa", sum := "2ada6ff4e75be23aadce4b37bfb539df02ac2b617e20ac03ff49a4a931d5827a", func := "loop.example/g01009/laws.FnExactDeriveSingle", spec := "fnExactDeriveSingle", apart := false }
def FnExactDeriveSingleSaid : Prop := fnExactDeriveSingleRow.holds Try.pinned (OpenSpec.ofChange fnExactDeriveSingleSpec)

/-- ITS FALSE NEIGHBOUR: 'it returns false'. Refute it at one input. -/
def fnExactDeriveSingleWrong : ChangeSpec := { name := "fnExactDeriveSingle", fn := fun _ => fun
  | [d] => { results := [.lit (.bool false)], args := [d] }
  | _ => none }
def FnExactDeriveSingleWrongFalsely : Prop := fnExactDeriveSingleRow.holds Try.pinned (OpenSpec.ofChange fnExactDeriveSingleWrong)

/-- 'laws.FnExactMultiplySingle': WHATEVER THE INPUT: true; the input reads as it did. -/
def fnExactMultiplySingleSpec : ChangeSpec := { name := "fnExactMultiplySingle", fn := fun _ => fun
  | [d1, d2] => { results := [.lit (.bool true)], args := [d1, d2] }
  | _ => none }
def fnExactMultiplySingleRow : OpenClaim := { program := "ytolacpnhndbalaa", sum := "2ada6ff4e75be23aadce4b37bfb539df02ac2b617e20ac03ff49a4a931d5827a", func := "loop.example/g01009/laws.FnExactMultiplySingle", spec := "fnExactMultiplySingle", apart := false }
def FnExactMultiplySingleSaid : Prop := fnExactMultiplySingleRow.holds Try.pinned (OpenSpec.ofChange fnExactMultiplySingleSpec)

/-- ITS FALSE NEIGHBOUR: 'it returns false'. Refute it at one input. -/
def fnExactMultiplySingleWrong : ChangeSpec := { name := "fnExactMultiplySingle", fn := fun _ => fun
  | [d1, d2] => { results := [.lit (.bool false)], args := [d1, d2] }
  | _ => none }
def FnExactMultiplySingleWrongFalsely : Prop := fnExactMultiplySingleRow.holds Try.pinned (OpenSpec.ofChange fnExactMultiplySingleWrong)

/-- 'laws.FnExactSignChanges': WHATEVER THE INPUT: true; the input reads as it did. -/
def fnExactSignChangesSpec : ChangeSpec := { name := "fnExactSignChanges", fn := fun _ => fun
  | [d] => { results := [.lit (.bool true)], args := [d] }
  | _ => none }
def fnExactSignChangesRow : OpenClaim := { program := "ytolacpnhndbalaa", sum := "2ada6ff4e75be23aadce4b37bfb539df02ac2b617e20ac03ff49a4a931d5827a", func := "loop.example/g01009/laws.FnExactSignChanges", spec := "fnExactSignChanges", unfollowed := true, recurses := true, apart := false }
def FnExactSignChangesSaid : Prop := fnExactSignChangesRow.holds Try.pinned (OpenSpec.ofChange fnExactSignChangesSpec)

/-- ITS FALSE NEIGHBOUR: 'it returns false'. Refute it at one input. -/
def fnExactSignChangesWrong : ChangeSpec := { name := "fnExactSignChanges", fn := fun _ => fun
  | [d] => { results := [.lit (.bool false)], args := [d] }
  | _ => none }
def FnExactSignChangesWrongFalsely : Prop := fnExactSignChangesRow.holds Try.pinned (OpenSpec.ofChange fnExactSignChangesWrong)

/-- 'laws.FnExactQuotientOf': WHATEVER THE INPUT: true; the input reads as it did. -/
def fnExactQuotientOfSpec : ChangeSpec := { name := "fnExactQuotientOf", fn := fun _ => fun
  | [d1, d2] => { results := [.lit (.bool true)], args := [d1, d2] }
  | _ => none }
def fnExactQuotientOfRow : OpenClaim := { program := "ytolacpnhndbalaa", sum := "2ada6ff4e75be23aadce4b37bfb539df02ac2b617e20ac03ff49a4a931d5827a", func := "loop.example/g01009/laws.FnExactQuotientOf", spec := "fnExactQuotientOf", apart := false }
def FnExactQuotientOfSaid : Prop := fnExactQuotientOfRow.holds Try.pinned (OpenSpec.ofChange fnExactQuotientOfSpec)

/-- ITS FALSE NEIGHBOUR: 'it returns false'. Refute it at one input. -/
def fnExactQuotientOfWrong : ChangeSpec := { name := "fnExactQuotientOf", fn := fun _ => fun
  | [d1, d2] => { results := [.lit (.bool false)], args := [d1, d2] }
  | _ => none }
def FnExactQuotientOfWrongFalsely : Prop := fnExactQuotientOfRow.holds Try.pinned (OpenSpec.ofChange fnExactQuotientOfWrong)

/-- 'laws.FnExactRootsBound': WHATEVER THE INPUT: true; the input reads as it did. -/
def fnExactRootsBoundSpec : ChangeSpec := { name := "fnExactRootsBound", fn := fun _ => fun
  | [d] => { results := [.lit (.bool true)], args := [d] }
  | _ => none }
def fnExactRootsBoundRow : OpenClaim := { program := "ytolacpnhndbalaa", sum := "2ada6ff4e75be23aadce4b37bfb539df02ac2b617e20ac03ff49a4a931d5827a", func := "loop.example/g01009/laws.FnExactRootsBound", spec := "fnExactRootsBound", unfollowed := true, recurses := true, apart := false }
def FnExactRootsBoundSaid : Prop := fnExactRootsBoundRow.holds Try.pinned (OpenSpec.ofChange fnExactRootsBoundSpec)

/-- ITS FALSE NEIGHBOUR: 'it returns false'. Refute it at one input. -/
def fnExactRootsBoundWrong : ChangeSpec := { name := "fnExactRootsBound", fn := fun _ => fun
  | [d] => { results := [.lit (.bool false)], args := [d] }
  | _ => none }
def FnExactRootsBoundWrongFalsely : Prop := fnExactRootsBoundRow.holds Try.pinned (OpenSpec.ofChange fnExactRootsBoundWrong)

/-- 'laws.FnExactSignAt': WHATEVER THE INPUT: true; the input reads as it did. -/
def fnExactSignAtSpec : ChangeSpec := { name := "fnExactSignAt", fn := fun _ => fun
  | [d1, d2] => { results := [.lit (.bool true)], args := [d1, d2] }
  | _ => none }
def fnExactSignAtRow : OpenClaim := { program := "ytolacpnhndbalaa", sum := "2ada6ff4e75be23aadce4b37bfb539df02ac2b617e20ac03ff49a4a931d5827a", func := "loop.example/g01009/laws.FnExactSignAt", spec := "fnExactSignAt", unfollowed := true, recurses := true, apart := false }
def FnExactSignAtSaid : Prop := fnExactSignAtRow.holds Try.pinned (OpenSpec.ofChange fnExactSignAtSpec)

/-- ITS FALSE NEIGHBOUR: 'it returns false'. Refute it at one input. -/
def fnExactSignAtWrong : ChangeSpec := { name := "fnExactSignAt", fn := fun _ => fun
  | [d1, d2] => { results := [.lit (.bool false)], args := [d1, d2] }
  | _ => none }
def FnExactSignAtWrongFalsely : Prop := fnExactSignAtRow.holds Try.pinned (OpenSpec.ofChange fnExactSignAtWrong)

/-- 'laws.FnExactVariationsFar': WHATEVER THE INPUT: true; the input reads as it did. -/
def fnExactVariationsFarSpec : ChangeSpec := { name := "fnExactVariationsFar", fn := fun _ => fun
  | [d1, d2] => { results := [.lit (.bool true)], args := [d1, d2] }
  | _ => none }
def fnExactVariationsFarRow : OpenClaim := { program := "ytolacpnhndbalaa", sum := "2ada6ff4e75be23aadce4b37bfb539df02ac2b617e20ac03ff49a4a931d5827a", func := "loop.example/g01009/laws.FnExactVariationsFar", spec := "fnExactVariationsFar", unfollowed := true, recurses := true, apart := false }
def FnExactVariationsFarSaid : Prop := fnExactVariationsFarRow.holds Try.pinned (OpenSpec.ofChange fnExactVariationsFarSpec)

/-- ITS FALSE NEIGHBOUR: 'it returns false'. Refute it at one input. -/
def fnExactVariationsFarWrong : ChangeSpec := { name := "fnExactVariationsFar", fn := fun _ => fun
  | [d1, d2] => { results := [.lit (.bool false)], args := [d1, d2] }
  | _ => none }
def FnExactVariationsFarWrongFalsely : Prop := fnExactVariationsFarRow.holds Try.pinned (OpenSpec.ofChange fnExactVariationsFarWrong)

/-- 'laws.FnExactRemainderOf': WHATEVER THE INPUT: true; the input reads as it did. -/
def fnExactRemainderOfSpec : ChangeSpec := { name := "fnExactRemainderOf", fn := fun _ => fun
  | [d1, d2] => { results := [.lit (.bool true)], args := [d1, d2] }
  | _ => none }
def fnExactRemainderOfRow : OpenClaim := { program := "ytolacpnhndbalaa", sum := "2ada6ff4e75be23aadce4b37bfb539df02ac2b617e20ac03ff49a4a931d5827a", func := "loop.example/g01009/laws.FnExactRemainderOf", spec := "fnExactRemainderOf", unfollowed := true, recurses := true, apart := false }
def FnExactRemainderOfSaid : Prop := fnExactRemainderOfRow.holds Try.pinned (OpenSpec.ofChange fnExactRemainderOfSpec)

/-- ITS FALSE NEIGHBOUR: 'it returns false'. Refute it at one input. -/
def fnExactRemainderOfWrong : ChangeSpec := { name := "fnExactRemainderOf", fn := fun _ => fun
  | [d1, d2] => { results := [.lit (.bool false)], args := [d1, d2] }
  | _ => none }
def FnExactRemainderOfWrongFalsely : Prop := fnExactRemainderOfRow.holds Try.pinned (OpenSpec.ofChange fnExactRemainderOfWrong)

/-- 'laws.FnExactSingleOf': WHATEVER THE INPUT: true; the input reads as it did. -/
def fnExactSingleOfSpec : ChangeSpec := { name := "fnExactSingleOf", fn := fun _ => fun
  | [d] => { results := [.lit (.bool true)], args := [d] }
  | _ => none }
def fnExactSingleOfRow : OpenClaim := { program := "ytolacpnhndbalaa", sum := "2ada6ff4e75be23aadce4b37bfb539df02ac2b617e20ac03ff49a4a931d5827a", func := "loop.example/g01009/laws.FnExactSingleOf", spec := "fnExactSingleOf", apart := false }
def FnExactSingleOfSaid : Prop := fnExactSingleOfRow.holds Try.pinned (OpenSpec.ofChange fnExactSingleOfSpec)

/-- ITS FALSE NEIGHBOUR: 'it returns false'. Refute it at one input. -/
def fnExactSingleOfWrong : ChangeSpec := { name := "fnExactSingleOf", fn := fun _ => fun
  | [d] => { results := [.lit (.bool false)], args := [d] }
  | _ => none }
def FnExactSingleOfWrongFalsely : Prop := fnExactSingleOfRow.holds Try.pinned (OpenSpec.ofChange fnExactSingleOfWrong)

/-- 'laws.FnExactTermsOf': WHATEVER THE INPUT: true; the input reads as it did. -/
def fnExactTermsOfSpec : ChangeSpec := { name := "fnExactTermsOf", fn := fun _ => fun
  | [d] => { results := [.lit (.bool true)], args := [d] }
  | _ => none }
def fnExactTermsOfRow : OpenClaim := { program := "ytolacpnhndbalaa", sum := "2ada6ff4e75be23aadce4b37bfb539df02ac2b617e20ac03ff49a4a931d5827a", func := "loop.example/g01009/laws.FnExactTermsOf", spec := "fnExactTermsOf", apart := false }
def FnExactTermsOfSaid : Prop := fnExactTermsOfRow.holds Try.pinned (OpenSpec.ofChange fnExactTermsOfSpec)

/-- ITS FALSE NEIGHBOUR: 'it returns false'. Refute it at one input. -/
def fnExactTermsOfWrong : ChangeSpec := { name := "fnExactTermsOf", fn := fun _ => fun
  | [d] => { results := [.lit (.bool false)], args := [d] }
  | _ => none }
def FnExactTermsOfWrongFalsely : Prop := fnExactTermsOfRow.holds Try.pinned (OpenSpec.ofChange fnExactTermsOfWrong)

/- THE SECOND FORM. 'bulk': how many values and letters a reading holds, each counted each time it is reached (what is shared counts as often as it is met; a slice's spare places count too). A statement '..UptoSaid' is the law's where the arguments, and the package variables that the reading takes, are together of bulk at most 1048576: NARROWER than '..Said'. Prove '..Said' where nothing that the law and all that it calls make is longer than what came in: it says more and counts as full. Else prove '..UptoSaid'. A law counts once. -/
mutual
def uptoBulk {H : Type} : DataW H → Nat
  | .lit (.string bytes) => bytes.length + 1
  | .lit _ => 1
  | .nil => 1
  | .ptr d => uptoBulk d + 1
  | .slice elems spare => uptoBulkAll elems + uptoBulkAll spare + 1
  | .agg parts => uptoBulkAll parts + 1
  | .iface _ d => uptoBulk d + 1
  | .map entries => uptoBulkEntries entries + 1
  | .held _ => 1
def uptoBulkAll {H : Type} : List (DataW H) → Nat
  | [] => 0
  | d :: r => uptoBulk d + uptoBulkAll r
def uptoBulkEntries {H : Type} : List (Lit × DataW H) → Nat
  | [] => 0
  | x :: r => uptoBulkEntry x + uptoBulkEntries r
def uptoBulkEntry {H : Type} : Lit × DataW H → Nat
  | (.string bytes, d) => bytes.length + uptoBulk d + 1
  | (_, d) => uptoBulk d + 1
 end
def uptoSmall : (H : Type) → List (DataW H) → Bool := fun _ ds => decide (uptoBulkAll ds ≤ 1048576)
def OpenSpec.upto (s : _root_.Go.ChangeSpec) : _root_.Go.OpenSpec := { _root_.Go.OpenSpec.ofChange s with cond := some uptoSmall }

/-- 'laws.FnExactTurnSingle', WHERE WHAT IT READS IS OF BULK AT MOST 1048576: true; the input reads as it did. -/
def fnExactTurnSingleUptoRow : OpenClaim := { program := "ytolacpnhndbalaa", sum := "2ada6ff4e75be23aadce4b37bfb539df02ac2b617e20ac03ff49a4a931d5827a", func := "loop.example/g01009/laws.FnExactTurnSingle", spec := "fnExactTurnSingle", unfollowed := true, recurses := true, apart := false, narrowed := true }
def FnExactTurnSingleUptoSaid : Prop := fnExactTurnSingleUptoRow.holds Try.pinned (OpenSpec.upto fnExactTurnSingleSpec)

/-- 'laws.FnExactMirrorSingle', WHERE WHAT IT READS IS OF BULK AT MOST 1048576: true; the input reads as it did. -/
def fnExactMirrorSingleUptoRow : OpenClaim := { program := "ytolacpnhndbalaa", sum := "2ada6ff4e75be23aadce4b37bfb539df02ac2b617e20ac03ff49a4a931d5827a", func := "loop.example/g01009/laws.FnExactMirrorSingle", spec := "fnExactMirrorSingle", unfollowed := true, recurses := true, apart := false, narrowed := true }
def FnExactMirrorSingleUptoSaid : Prop := fnExactMirrorSingleUptoRow.holds Try.pinned (OpenSpec.upto fnExactMirrorSingleSpec)

/-- 'laws.FnExactDeriveSingle', WHERE WHAT IT READS IS OF BULK AT MOST 1048576: true; the input reads as it did. -/
def fnExactDeriveSingleUptoRow : OpenClaim := { program := "ytolacpnhndbalaa", sum := "2ada6ff4e75be23aadce4b37bfb539df02ac2b617e20ac03ff49a4a931d5827a", func := "loop.example/g01009/laws.FnExactDeriveSingle", spec := "fnExactDeriveSingle", apart := false, narrowed := true }
def FnExactDeriveSingleUptoSaid : Prop := fnExactDeriveSingleUptoRow.holds Try.pinned (OpenSpec.upto fnExactDeriveSingleSpec)

/-- 'laws.FnExactMultiplySingle', WHERE WHAT IT READS IS OF BULK AT MOST 1048576: true; the input reads as it did. -/
def fnExactMultiplySingleUptoRow : OpenClaim := { program := "ytolacpnhndbalaa", sum := "2ada6ff4e75be23aadce4b37bfb539df02ac2b617e20ac03ff49a4a931d5827a", func := "loop.example/g01009/laws.FnExactMultiplySingle", spec := "fnExactMultiplySingle", apart := false, narrowed := true }
def FnExactMultiplySingleUptoSaid : Prop := fnExactMultiplySingleUptoRow.holds Try.pinned (OpenSpec.upto fnExactMultiplySingleSpec)

/-- 'laws.FnExactSignChanges', WHERE WHAT IT READS IS OF BULK AT MOST 1048576: true; the input reads as it did. -/
def fnExactSignChangesUptoRow : OpenClaim := { program := "ytolacpnhndbalaa", sum := "2ada6ff4e75be23aadce4b37bfb539df02ac2b617e20ac03ff49a4a931d5827a", func := "loop.example/g01009/laws.FnExactSignChanges", spec := "fnExactSignChanges", unfollowed := true, recurses := true, apart := false, narrowed := true }
def FnExactSignChangesUptoSaid : Prop := fnExactSignChangesUptoRow.holds Try.pinned (OpenSpec.upto fnExactSignChangesSpec)

/-- 'laws.FnExactQuotientOf', WHERE WHAT IT READS IS OF BULK AT MOST 1048576: true; the input reads as it did. -/
def fnExactQuotientOfUptoRow : OpenClaim := { program := "ytolacpnhndbalaa", sum := "2ada6ff4e75be23aadce4b37bfb539df02ac2b617e20ac03ff49a4a931d5827a", func := "loop.example/g01009/laws.FnExactQuotientOf", spec := "fnExactQuotientOf", apart := false, narrowed := true }
def FnExactQuotientOfUptoSaid : Prop := fnExactQuotientOfUptoRow.holds Try.pinned (OpenSpec.upto fnExactQuotientOfSpec)

/-- 'laws.FnExactRootsBound', WHERE WHAT IT READS IS OF BULK AT MOST 1048576: true; the input reads as it did. -/
def fnExactRootsBoundUptoRow : OpenClaim := { program := "ytolacpnhndbalaa", sum := "2ada6ff4e75be23aadce4b37bfb539df02ac2b617e20ac03ff49a4a931d5827a", func := "loop.example/g01009/laws.FnExactRootsBound", spec := "fnExactRootsBound", unfollowed := true, recurses := true, apart := false, narrowed := true }
def FnExactRootsBoundUptoSaid : Prop := fnExactRootsBoundUptoRow.holds Try.pinned (OpenSpec.upto fnExactRootsBoundSpec)

/-- 'laws.FnExactSignAt', WHERE WHAT IT READS IS OF BULK AT MOST 1048576: true; the input reads as it did. -/
def fnExactSignAtUptoRow : OpenClaim := { program := "ytolacpnhndbalaa", sum := "2ada6ff4e75be23aadce4b37bfb539df02ac2b617e20ac03ff49a4a931d5827a", func := "loop.example/g01009/laws.FnExactSignAt", spec := "fnExactSignAt", unfollowed := true, recurses := true, apart := false, narrowed := true }
def FnExactSignAtUptoSaid : Prop := fnExactSignAtUptoRow.holds Try.pinned (OpenSpec.upto fnExactSignAtSpec)

/-- 'laws.FnExactVariationsFar', WHERE WHAT IT READS IS OF BULK AT MOST 1048576: true; the input reads as it did. -/
def fnExactVariationsFarUptoRow : OpenClaim := { program := "ytolacpnhndbalaa", sum := "2ada6ff4e75be23aadce4b37bfb539df02ac2b617e20ac03ff49a4a931d5827a", func := "loop.example/g01009/laws.FnExactVariationsFar", spec := "fnExactVariationsFar", unfollowed := true, recurses := true, apart := false, narrowed := true }
def FnExactVariationsFarUptoSaid : Prop := fnExactVariationsFarUptoRow.holds Try.pinned (OpenSpec.upto fnExactVariationsFarSpec)

/-- 'laws.FnExactRemainderOf', WHERE WHAT IT READS IS OF BULK AT MOST 1048576: true; the input reads as it did. -/
def fnExactRemainderOfUptoRow : OpenClaim := { program := "ytolacpnhndbalaa", sum := "2ada6ff4e75be23aadce4b37bfb539df02ac2b617e20ac03ff49a4a931d5827a", func := "loop.example/g01009/laws.FnExactRemainderOf", spec := "fnExactRemainderOf", unfollowed := true, recurses := true, apart := false, narrowed := true }
def FnExactRemainderOfUptoSaid : Prop := fnExactRemainderOfUptoRow.holds Try.pinned (OpenSpec.upto fnExactRemainderOfSpec)

/-- 'laws.FnExactSingleOf', WHERE WHAT IT READS IS OF BULK AT MOST 1048576: true; the input reads as it did. -/
def fnExactSingleOfUptoRow : OpenClaim := { program := "ytolacpnhndbalaa", sum := "2ada6ff4e75be23aadce4b37bfb539df02ac2b617e20ac03ff49a4a931d5827a", func := "loop.example/g01009/laws.FnExactSingleOf", spec := "fnExactSingleOf", apart := false, narrowed := true }
def FnExactSingleOfUptoSaid : Prop := fnExactSingleOfUptoRow.holds Try.pinned (OpenSpec.upto fnExactSingleOfSpec)

/-- 'laws.FnExactTermsOf', WHERE WHAT IT READS IS OF BULK AT MOST 1048576: true; the input reads as it did. -/
def fnExactTermsOfUptoRow : OpenClaim := { program := "ytolacpnhndbalaa", sum := "2ada6ff4e75be23aadce4b37bfb539df02ac2b617e20ac03ff49a4a931d5827a", func := "loop.example/g01009/laws.FnExactTermsOf", spec := "fnExactTermsOf", apart := false, narrowed := true }
def FnExactTermsOfUptoSaid : Prop := fnExactTermsOfUptoRow.holds Try.pinned (OpenSpec.upto fnExactTermsOfSpec)

end Rows
end Go.Proofs.Ytolacpnhndbalaa
