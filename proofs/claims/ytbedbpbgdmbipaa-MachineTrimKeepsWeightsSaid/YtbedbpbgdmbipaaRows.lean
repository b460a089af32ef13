/-
  No cell of these rows narrows 'for every input' (looked for: loops, veiled, ifaces, maps, wideKeys, modest, calm, conditions, laid).
  DERIVED. THE GIVEN ROWS OF THIS SEAT. 6 by the template 'for every input the law returns true; each argument reads behind the call as it read before'; 0 by the template 'total and deterministic' (their statements: YtbedbpbgdmbipaaTotals.lean).
  GIVEN WITH THE SEED: the statements are not yours to turn. If you find one false, say at which input.
  Laid BY PROGRAM, IN A SANDBOX (cutbox-rows.mjs): the forced cells as the released guide's own fill.sh prints them over the translation 11a7b4f5e8254f25… (all of the seat's roots in one cut). By AI agents, Wed Nov 11 2026. No macro, syntax, notation, axiom, sorry.
-/
import Derived.Test.YtbedbpbgdmbipaaChecked
import GoSem.Claim
import GoSem.ClaimJoined
import GoSem.ClaimMapViews
import Derived.JoinedTies
import Derived.KernelRfl
namespace Go.Proofs.Ytbedbpbgdmbipaa
/- THE CELL 'sum', in the pinned program and in every row, IS THE sha256 OF THE DUMP (.gsa) THAT YtbedbpbgdmbipaaProg.lean LOADS. Nothing in Lean hashes anything: it is a label: what it is worth is what the hold of that sum in a sandbox is worth. -/
noncomputable def Try.pinned : Pinned := { name := "ytbedbpbgdmbipaa", sum := "11a7b4f5e8254f25bcdd59a4cb895a8af43e9664201974b9e18d394914be13c0", checked := Try.checked }
namespace Rows
def none {H : Type} : Left H := { results := [], args := [] }

/-- 'glosswrightlaw5.MachineWeightMatchesSpec': WHATEVER THE INPUT: true; the input reads as it did. -/
def machineWeightMatchesSpecSpec : ChangeSpec := { name := "machineWeightMatchesSpec", fn := fun _ => fun
  | [d1, d2, d3] => { results := [.lit (.bool true)], args := [d1, d2, d3] }
  | _ => none }
def machineWeightMatchesSpecRow : OpenClaim := { program := "ytbedbpbgdmbipaa", sum := "11a7b4f5e8254f25bcdd59a4cb895a8af43e9664201974b9e18d394914be13c0", func := "glosswright/glosswrightlaw5.MachineWeightMatchesSpec", spec := "machineWeightMatchesSpec", unfollowed := true, recurses := true, apart := false }
def MachineWeightMatchesSpecSaid : Prop := machineWeightMatchesSpecRow.holds Try.pinned (OpenSpec.ofChange machineWeightMatchesSpecSpec)

/-- ITS FALSE NEIGHBOUR: 'it returns false'. Refute it at one input. -/
def machineWeightMatchesSpecWrong : ChangeSpec := { name := "machineWeightMatchesSpec", fn := fun _ => fun
  | [d1, d2, d3] => { results := [.lit (.bool false)], args := [d1, d2, d3] }
  | _ => none }
def MachineWeightMatchesSpecWrongFalsely : Prop := machineWeightMatchesSpecRow.holds Try.pinned (OpenSpec.ofChange machineWeightMatchesSpecWrong)

/-- 'glosswrightlaw5.RationalLiteralMatchesSpec': WHATEVER THE INPUT: true; the input reads as it did. -/
def rationalLiteralMatchesSpecSpec : ChangeSpec := { name := "rationalLiteralMatchesSpec", fn := fun _ => fun
  | [d1, d2, d3] => { results := [.lit (.bool true)], args := [d1, d2, d3] }
  | _ => none }
def rationalLiteralMatchesSpecRow : OpenClaim := { program := "ytbedbpbgdmbipaa", sum := "11a7b4f5e8254f25bcdd59a4cb895a8af43e9664201974b9e18d394914be13c0", func := "glosswright/glosswrightlaw5.RationalLiteralMatchesSpec", spec := "rationalLiteralMatchesSpec", unfollowed := true, recurses := true, apart := false }
def RationalLiteralMatchesSpecSaid : Prop := rationalLiteralMatchesSpecRow.holds Try.pinned (OpenSpec.ofChange rationalLiteralMatchesSpecSpec)

/-- ITS FALSE NEIGHBOUR: 'it returns false'. Refute it at one input. -/
def rationalLiteralMatchesSpecWrong : ChangeSpec := { name := "rationalLiteralMatchesSpec", fn := fun _ => fun
  | [d1, d2, d3] => { results := [.lit (.bool false)], args := [d1, d2, d3] }
  | _ => none }
def RationalLiteralMatchesSpecWrongFalsely : Prop := rationalLiteralMatchesSpecRow.holds Try.pinned (OpenSpec.ofChange rationalLiteralMatchesSpecWrong)

/-- 'glosswrightlaw5.MachineTrimKeepsWeights': WHATEVER THE INPUT: true; the input reads as it did. -/
def machineTrimKeepsWeightsSpec : ChangeSpec := { name := "machineTrimKeepsWeights", fn := fun _ => fun
  | [d1, d2, d3] => { results := [.lit (.bool true)], args := [d1, d2, d3] }
  | _ => none }
def machineTrimKeepsWeightsRow : OpenClaim := { program := "ytbedbpbgdmbipaa", sum := "11a7b4f5e8254f25bcdd59a4cb895a8af43e9664201974b9e18d394914be13c0", func := "glosswright/glosswrightlaw5.MachineTrimKeepsWeights", spec := "machineTrimKeepsWeights", unfollowed := true, recurses := true, apart := false }
def MachineTrimKeepsWeightsSaid : Prop := machineTrimKeepsWeightsRow.holds Try.pinned (OpenSpec.ofChange machineTrimKeepsWeightsSpec)

/-- ITS FALSE NEIGHBOUR: 'it returns false'. Refute it at one input. -/
def machineTrimKeepsWeightsWrong : ChangeSpec := { name := "machineTrimKeepsWeights", fn := fun _ => fun
  | [d1, d2, d3] => { results := [.lit (.bool false)], args := [d1, d2, d3] }
  | _ => none }
def MachineTrimKeepsWeightsWrongFalsely : Prop := machineTrimKeepsWeightsRow.holds Try.pinned (OpenSpec.ofChange machineTrimKeepsWeightsWrong)

/-- 'glosswrightlaw5.DetermTablesMatchSpec': WHATEVER THE INPUT: true; the input reads as it did. -/
def determTablesMatchSpecSpec : ChangeSpec := { name := "determTablesMatchSpec", fn := fun _ => fun
  | [d1, d2, d3] => { results := [.lit (.bool true)], args := [d1, d2, d3] }
  | _ => none }
def determTablesMatchSpecRow : OpenClaim := { program := "ytbedbpbgdmbipaa", sum := "11a7b4f5e8254f25bcdd59a4cb895a8af43e9664201974b9e18d394914be13c0", func := "glosswright/glosswrightlaw5.DetermTablesMatchSpec", spec := "determTablesMatchSpec", apart := false }
def DetermTablesMatchSpecSaid : Prop := determTablesMatchSpecRow.holds Try.pinned (OpenSpec.ofChange determTablesMatchSpecSpec)

/-- ITS FALSE NEIGHBOUR: 'it returns false'. Refute it at one input. -/
def determTablesMatchSpecWrong : ChangeSpec := { name := "determTablesMatchSpec", fn := fun _ => fun
  | [d1, d2, d3] => { results := [.lit (.bool false)], args := [d1, d2, d3] }
  | _ => none }
def DetermTablesMatchSpecWrongFalsely : Prop := determTablesMatchSpecRow.holds Try.pinned (OpenSpec.ofChange determTablesMatchSpecWrong)

/-- 'glosswrightlaw5.ComposeChangesMatchSpec': WHATEVER THE INPUT: true; the input reads as it did. -/
def composeChangesMatchSpecSpec : ChangeSpec := { name := "composeChangesMatchSpec", fn := fun _ => fun
  | [d] => { results := [.lit (.bool true)], args := [d] }
  | _ => none }
def composeChangesMatchSpecRow : OpenClaim := { program := "ytbedbpbgdmbipaa", sum := "11a7b4f5e8254f25bcdd59a4cb895a8af43e9664201974b9e18d394914be13c0", func := "glosswright/glosswrightlaw5.ComposeChangesMatchSpec", spec := "composeChangesMatchSpec", unfollowed := true, recurses := true, apart := false }
def ComposeChangesMatchSpecSaid : Prop := composeChangesMatchSpecRow.holds Try.pinned (OpenSpec.ofChange composeChangesMatchSpecSpec)

/-- ITS FALSE NEIGHBOUR: 'it returns false'. Refute it at one input. -/
def composeChangesMatchSpecWrong : ChangeSpec := { name := "composeChangesMatchSpec", fn := fun _ => fun
  | [d] => { results := [.lit (.bool false)], args := [d] }
  | _ => none }
def ComposeChangesMatchSpecWrongFalsely : Prop := composeChangesMatchSpecRow.holds Try.pinned (OpenSpec.ofChange composeChangesMatchSpecWrong)

/-- 'glosswrightlaw5.RationalShapesMatchSpec': WHATEVER THE INPUT: true; the input reads as it did. -/
def rationalShapesMatchSpecSpec : ChangeSpec := { name := "rationalShapesMatchSpec", fn := fun _ => fun
  | [d1, d2] => { results := [.lit (.bool true)], args := [d1, d2] }
  | _ => none }
def rationalShapesMatchSpecRow : OpenClaim := { program := "ytbedbpbgdmbipaa", sum := "11a7b4f5e8254f25bcdd59a4cb895a8af43e9664201974b9e18d394914be13c0", func := "glosswright/glosswrightlaw5.RationalShapesMatchSpec", spec := "rationalShapesMatchSpec", unfollowed := true, recurses := true, apart := false }
def RationalShapesMatchSpecSaid : Prop := rationalShapesMatchSpecRow.holds Try.pinned (OpenSpec.ofChange rationalShapesMatchSpecSpec)

/-- ITS FALSE NEIGHBOUR: 'it returns false'. Refute it at one input. -/
def rationalShapesMatchSpecWrong : ChangeSpec := { name := "rationalShapesMatchSpec", fn := fun _ => fun
  | [d1, d2] => { results := [.lit (.bool false)], args := [d1, d2] }
  | _ => none }
def RationalShapesMatchSpecWrongFalsely : Prop := rationalShapesMatchSpecRow.holds Try.pinned (OpenSpec.ofChange rationalShapesMatchSpecWrong)

/- THE SECOND FORM. 'bulk': how many values and letters a reading holds, each counted each time it is reached (what is shared counts as often as it is met; a slice's spare places count too). A statement '..UptoSaid' is the law's where the arguments, and the package variables that the reading takes, are together of bulk at most 1048576: NARROWER than '..Said'. Prove '..Said' where nothing that the law and all that it calls make is longer than what came in: it says more and counts as full. Else prove '..UptoSaid'. A law counts once. -/
mutual
def uptoBulk {H : Type} : DataW H → Nat
  | .lit (.string bytes) => bytes.length + 1
  | .lit _ => 1
  | .nil => 1
  | .ptr d => uptoBulk d + 1
  | .slice elems spare => uptoBulkAll elems + uptoBulkAll spare + 1
  | .agg parts => uptoBulkAll parts + 1
  | .iface _ d => uptoBulk d + 1
  | .map entries => uptoBulkEntries entries + 1
  | .held _ => 1
def uptoBulkAll {H : Type} : List (DataW H) → Nat
  | [] => 0
  | d :: r => uptoBulk d + uptoBulkAll r
def uptoBulkEntries {H : Type} : List (Lit × DataW H) → Nat
  | [] => 0
  | x :: r => uptoBulkEntry x + uptoBulkEntries r
def uptoBulkEntry {H : Type} : Lit × DataW H → Nat
  | (.string bytes, d) => bytes.length + uptoBulk d + 1
  | (_, d) => uptoBulk d + 1
 end
def uptoSmall : (H : Type) → List (DataW H) → Bool := fun _ ds => decide (uptoBulkAll ds ≤ 1048576)
def OpenSpec.upto (s : _root_.Go.ChangeSpec) : _root_.Go.OpenSpec := { _root_.Go.OpenSpec.ofChange s with cond := some uptoSmall }

/-- 'glosswrightlaw5.MachineWeightMatchesSpec', WHERE WHAT IT READS IS OF BULK AT MOST 1048576: true; the input reads as it did. -/
def machineWeightMatchesSpecUptoRow : OpenClaim := { program := "ytbedbpbgdmbipaa", sum := "11a7b4f5e8254f25bcdd59a4cb895a8af43e9664201974b9e18d394914be13c0", func := "glosswright/glosswrightlaw5.MachineWeightMatchesSpec", spec := "machineWeightMatchesSpec", unfollowed := true, recurses := true, apart := false, narrowed := true }
def MachineWeightMatchesSpecUptoSaid : Prop := machineWeightMatchesSpecUptoRow.holds Try.pinned (OpenSpec.upto machineWeightMatchesSpecSpec)

/-- 'glosswrightlaw5.RationalLiteralMatchesSpec', WHERE WHAT IT READS IS OF BULK AT MOST 1048576: true; the input reads as it did. -/
def rationalLiteralMatchesSpecUptoRow : OpenClaim := { program := "ytbedbpbgdmbipaa", sum := "11a7b4f5e8254f25bcdd59a4cb895a8af43e9664201974b9e18d394914be13c0", func := "glosswright/glosswrightlaw5.RationalLiteralMatchesSpec", spec := "rationalLiteralMatchesSpec", unfollowed := true, recurses := true, apart := false, narrowed := true }
def RationalLiteralMatchesSpecUptoSaid : Prop := rationalLiteralMatchesSpecUptoRow.holds Try.pinned (OpenSpec.upto rationalLiteralMatchesSpecSpec)

/-- 'glosswrightlaw5.MachineTrimKeepsWeights', WHERE WHAT IT READS IS OF BULK AT MOST 1048576: true; the input reads as it did. -/
def machineTrimKeepsWeightsUptoRow : OpenClaim := { program := "ytbedbpbgdmbipaa", sum := "11a7b4f5e8254f25bcdd59a4cb895a8af43e9664201974b9e18d394914be13c0", func := "glosswright/glosswrightlaw5.MachineTrimKeepsWeights", spec := "machineTrimKeepsWeights", unfollowed := true, recurses := true, apart := false, narrowed := true }
def MachineTrimKeepsWeightsUptoSaid : Prop := machineTrimKeepsWeightsUptoRow.holds Try.pinned (OpenSpec.upto machineTrimKeepsWeightsSpec)

/-- 'glosswrightlaw5.DetermTablesMatchSpec', WHERE WHAT IT READS IS OF BULK AT MOST 1048576: true; the input reads as it did. -/
def determTablesMatchSpecUptoRow : OpenClaim := { program := "ytbedbpbgdmbipaa", sum := "11a7b4f5e8254f25bcdd59a4cb895a8af43e9664201974b9e18d394914be13c0", func := "glosswright/glosswrightlaw5.DetermTablesMatchSpec", spec := "determTablesMatchSpec", apart := false, narrowed := true }
def DetermTablesMatchSpecUptoSaid : Prop := determTablesMatchSpecUptoRow.holds Try.pinned (OpenSpec.upto determTablesMatchSpecSpec)

/-- 'glosswrightlaw5.ComposeChangesMatchSpec', WHERE WHAT IT READS IS OF BULK AT MOST 1048576: true; the input reads as it did. -/
def composeChangesMatchSpecUptoRow : OpenClaim := { program := "ytbedbpbgdmbipaa", sum := "11a7b4f5e8254f25bcdd59a4cb895a8af43e9664201974b9e18d394914be13c0", func := "glosswright/glosswrightlaw5.ComposeChangesMatchSpec", spec := "composeChangesMatchSpec", unfollowed := true, recurses := true, apart := false, narrowed := true }
def ComposeChangesMatchSpecUptoSaid : Prop := composeChangesMatchSpecUptoRow.holds Try.pinned (OpenSpec.upto composeChangesMatchSpecSpec)

/-- 'glosswrightlaw5.RationalShapesMatchSpec', WHERE WHAT IT READS IS OF BULK AT MOST 1048576: true; the input reads as it did. -/
def rationalShapesMatchSpecUptoRow : OpenClaim := { program := "ytbedbpbgdmbipaa", sum := "11a7b4f5e8254f25bcdd59a4cb895a8af43e9664201974b9e18d394914be13c0", func := "glosswright/glosswrightlaw5.RationalShapesMatchSpec", spec := "rationalShapesMatchSpec", unfollowed := true, recurses := true, apart := false, narrowed := true }
def RationalShapesMatchSpecUptoSaid : Prop := rationalShapesMatchSpecUptoRow.holds Try.pinned (OpenSpec.upto rationalShapesMatchSpecSpec)

end Rows
end Go.Proofs.Ytbedbpbgdmbipaa
