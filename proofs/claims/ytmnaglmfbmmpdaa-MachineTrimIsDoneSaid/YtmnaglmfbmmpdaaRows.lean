/-
  No cell of these rows narrows 'for every input' (looked for: loops, veiled, ifaces, maps, wideKeys, modest, calm, conditions, laid).
  DERIVED. THE GIVEN ROWS OF THIS SEAT. 2 by the template 'for every input the law returns true; each argument reads behind the call as it read before'; 0 by the template 'total and deterministic' (their statements: YtmnaglmfbmmpdaaTotals.lean).
  GIVEN WITH THE SEED: the statements are not yours to turn. If you find one false, say at which input.
  Laid BY PROGRAM, IN A SANDBOX (cutbox-rows.mjs): the forced cells as the released guide's own fill.sh prints them over the translation 46c9e1edf2099223… (all of the seat's roots in one cut). By AI agents, Wed Nov 11 2026. No macro, syntax, notation, axiom, sorry.
-/
import Derived.Test.YtmnaglmfbmmpdaaChecked
import GoSem.Claim
import GoSem.ClaimJoined
import GoSem.ClaimMapViews
import Derived.JoinedTies
import Derived.KernelRfl
namespace Go.Proofs.Ytmnaglmfbmmpdaa
/- THE CELL 'sum', in the pinned program and in every row, IS THE sha256 OF THE DUMP (.gsa) THAT YtmnaglmfbmmpdaaProg.lean LOADS. Nothing in Lean hashes anything: it is a label: what it is worth is what the hold of that sum in a sandbox is worth. -/
noncomputable def Try.pinned : Pinned := { name := "ytmnaglmfbmmpdaa", sum := "46c9e1edf20992236e661a1791a404ed559b1e3ef5e0f66ed8d46fb7666a47ed", checked := Try.checked }
namespace Rows
def none {H : Type} : Left H := { results := [], args := [] }

/-- 'glosswrightlaw5.MachineShapeMatchesSpec': WHATEVER THE INPUT: true; the input reads as it did. -/
def machineShapeMatchesSpecSpec : ChangeSpec := { name := "machineShapeMatchesSpec", fn := fun _ => fun
  | [d] => { results := [.lit (.bool true)], args := [d] }
  | _ => none }
def machineShapeMatchesSpecRow : OpenClaim := { program := "ytmnaglmfbmmpdaa", sum := "46c9e1edf20992236e661a1791a404ed559b1e3ef5e0f66ed8d46fb7666a47ed", func := "glosswright/glosswrightlaw5.MachineShapeMatchesSpec", spec := "machineShapeMatchesSpec", apart := false }
def MachineShapeMatchesSpecSaid : Prop := machineShapeMatchesSpecRow.holds Try.pinned (OpenSpec.ofChange machineShapeMatchesSpecSpec)

/-- ITS FALSE NEIGHBOUR: 'it returns false'. Refute it at one input. -/
def machineShapeMatchesSpecWrong : ChangeSpec := { name := "machineShapeMatchesSpec", fn := fun _ => fun
  | [d] => { results := [.lit (.bool false)], args := [d] }
  | _ => none }
def MachineShapeMatchesSpecWrongFalsely : Prop := machineShapeMatchesSpecRow.holds Try.pinned (OpenSpec.ofChange machineShapeMatchesSpecWrong)

/-- 'glosswrightlaw5.MachineTrimIsDone': WHATEVER THE INPUT: true; the input reads as it did. -/
def machineTrimIsDoneSpec : ChangeSpec := { name := "machineTrimIsDone", fn := fun _ => fun
  | [d] => { results := [.lit (.bool true)], args := [d] }
  | _ => none }
def machineTrimIsDoneRow : OpenClaim := { program := "ytmnaglmfbmmpdaa", sum := "46c9e1edf20992236e661a1791a404ed559b1e3ef5e0f66ed8d46fb7666a47ed", func := "glosswright/glosswrightlaw5.MachineTrimIsDone", spec := "machineTrimIsDone", apart := false }
def MachineTrimIsDoneSaid : Prop := machineTrimIsDoneRow.holds Try.pinned (OpenSpec.ofChange machineTrimIsDoneSpec)

/-- ITS FALSE NEIGHBOUR: 'it returns false'. Refute it at one input. -/
def machineTrimIsDoneWrong : ChangeSpec := { name := "machineTrimIsDone", fn := fun _ => fun
  | [d] => { results := [.lit (.bool false)], args := [d] }
  | _ => none }
def MachineTrimIsDoneWrongFalsely : Prop := machineTrimIsDoneRow.holds Try.pinned (OpenSpec.ofChange machineTrimIsDoneWrong)

/- THE SECOND FORM. 'bulk': how many values and letters a reading holds, each counted each time it is reached (what is shared counts as often as it is met; a slice's spare places count too). A statement '..UptoSaid' is the law's where the arguments, and the package variables that the reading takes, are together of bulk at most 1048576: NARROWER than '..Said'. Prove '..Said' where nothing that the law and all that it calls make is longer than what came in: it says more and counts as full. Else prove '..UptoSaid'. A law counts once. -/
mutual
def uptoBulk {H : Type} : DataW H → Nat
  | .lit (.string bytes) => bytes.length + 1
  | .lit _ => 1
  | .nil => 1
  | .ptr d => uptoBulk d + 1
  | .slice elems spare => uptoBulkAll elems + uptoBulkAll spare + 1
  | .agg parts => uptoBulkAll parts + 1
  | .iface _ d => uptoBulk d + 1
  | .map entries => uptoBulkEntries entries + 1
  | .held _ => 1
def uptoBulkAll {H : Type} : List (DataW H) → Nat
  | [] => 0
  | d :: r => uptoBulk d + uptoBulkAll r
def uptoBulkEntries {H : Type} : List (Lit × DataW H) → Nat
  | [] => 0
  | x :: r => uptoBulkEntry x + uptoBulkEntries r
def uptoBulkEntry {H : Type} : Lit × DataW H → Nat
  | (.string bytes, d) => bytes.length + uptoBulk d + 1
  | (_, d) => uptoBulk d + 1
 end
def uptoSmall : (H : Type) → List (DataW H) → Bool := fun _ ds => decide (uptoBulkAll ds ≤ 1048576)
def OpenSpec.upto (s : _root_.Go.ChangeSpec) : _root_.Go.OpenSpec := { _root_.Go.OpenSpec.ofChange s with cond := some uptoSmall }

/-- 'glosswrightlaw5.MachineShapeMatchesSpec', WHERE WHAT IT READS IS OF BULK AT MOST 1048576: true; the input reads as it did. -/
def machineShapeMatchesSpecUptoRow : OpenClaim := { program := "ytmnaglmfbmmpdaa", sum := "46c9e1edf20992236e661a1791a404ed559b1e3ef5e0f66ed8d46fb7666a47ed", func := "glosswright/glosswrightlaw5.MachineShapeMatchesSpec", spec := "machineShapeMatchesSpec", apart := false, narrowed := true }
def MachineShapeMatchesSpecUptoSaid : Prop := machineShapeMatchesSpecUptoRow.holds Try.pinned (OpenSpec.upto machineShapeMatchesSpecSpec)

/-- 'glosswrightlaw5.MachineTrimIsDone', WHERE WHAT IT READS IS OF BULK AT MOST 1048576: true; the input reads as it did. -/
def machineTrimIsDoneUptoRow : OpenClaim := { program := "ytmnaglmfbmmpdaa", sum := "46c9e1edf20992236e661a1791a404ed559b1e3ef5e0f66ed8d46fb7666a47ed", func := "glosswright/glosswrightlaw5.MachineTrimIsDone", spec := "machineTrimIsDone", apart := false, narrowed := true }
def MachineTrimIsDoneUptoSaid : Prop := machineTrimIsDoneUptoRow.holds Try.pinned (OpenSpec.upto machineTrimIsDoneSpec)

end Rows
end Go.Proofs.Ytmnaglmfbmmpdaa
