/-
  No cell of these rows narrows 'for every input' (looked for: loops, veiled, ifaces, maps, wideKeys, modest, calm, conditions, laid).
  DERIVED. THE GIVEN ROWS OF THIS SEAT. 6 by the template 'for every input the law returns true; each argument reads behind the call as it read before'; 0 by the template 'total and deterministic' (their statements: YtpahodbnljpnnaaTotals.lean).
  GIVEN WITH THE SEED: the statements are not yours to turn. If you find one false, say at which input.
  Laid BY PROGRAM, IN A SANDBOX (cutbox-rows.mjs): the forced cells as the released guide's own fill.sh prints them over the translation 19962c0b261dc8ee… (all of the seat's roots in one cut). By AI agents, Wed Nov 11 2026. No macro, syntax, notation, axiom, sorry.
-/
import Derived.Test.YtpahodbnljpnnaaChecked
import GoSem.Claim
import GoSem.ClaimJoined
import GoSem.ClaimMapViews
import Derived.JoinedTies
import Derived.KernelRfl
namespace Go.Proofs.Ytpahodbnljpnnaa
/- THE CELL 'sum', in the pinned program and in every row, IS THE sha256 OF THE DUMP (.gsa) THAT YtpahodbnljpnnaaProg.lean LOADS. Nothing in Lean hashes anything: it is a label: what it is worth is what the hold of that sum in a sandbox is worth. -/
noncomputable def Try.pinned : Pinned := { name := "ytpahodbnljpnnaa", sum := "19962c0b261dc8ee01b83970c5f81645e33ed5db6c475c7f16ffa43f98158b02", checked := Try.checked }
namespace Rows
def none {H : Type} : Left H := { results := [], args := [] }

/-- 'glosswrightlaw5.RationalConcatSplits': WHATEVER THE INPUT: true; the input reads as it did. -/
def rationalConcatSplitsSpec : ChangeSpec := { name := "rationalConcatSplits", fn := fun _ => fun
  | [d1, d2, d3, d4] => { results := [.lit (.bool true)], args := [d1, d2, d3, d4] }
  | _ => none }
def rationalConcatSplitsRow : OpenClaim := { program := "ytpahodbnljpnnaa", sum := "19962c0b261dc8ee01b83970c5f81645e33ed5db6c475c7f16ffa43f98158b02", func := "glosswright/glosswrightlaw5.RationalConcatSplits", spec := "rationalConcatSplits", unfollowed := true, recurses := true, apart := false }
def RationalConcatSplitsSaid : Prop := rationalConcatSplitsRow.holds Try.pinned (OpenSpec.ofChange rationalConcatSplitsSpec)

/-- ITS FALSE NEIGHBOUR: 'it returns false'. Refute it at one input. -/
def rationalConcatSplitsWrong : ChangeSpec := { name := "rationalConcatSplits", fn := fun _ => fun
  | [d1, d2, d3, d4] => { results := [.lit (.bool false)], args := [d1, d2, d3, d4] }
  | _ => none }
def RationalConcatSplitsWrongFalsely : Prop := rationalConcatSplitsRow.holds Try.pinned (OpenSpec.ofChange rationalConcatSplitsWrong)

/-- 'glosswrightlaw5.RationalStarRepeats': WHATEVER THE INPUT: true; the input reads as it did. -/
def rationalStarRepeatsSpec : ChangeSpec := { name := "rationalStarRepeats", fn := fun _ => fun
  | [d1, d2, d3] => { results := [.lit (.bool true)], args := [d1, d2, d3] }
  | _ => none }
def rationalStarRepeatsRow : OpenClaim := { program := "ytpahodbnljpnnaa", sum := "19962c0b261dc8ee01b83970c5f81645e33ed5db6c475c7f16ffa43f98158b02", func := "glosswright/glosswrightlaw5.RationalStarRepeats", spec := "rationalStarRepeats", unfollowed := true, recurses := true, apart := false }
def RationalStarRepeatsSaid : Prop := rationalStarRepeatsRow.holds Try.pinned (OpenSpec.ofChange rationalStarRepeatsSpec)

/-- ITS FALSE NEIGHBOUR: 'it returns false'. Refute it at one input. -/
def rationalStarRepeatsWrong : ChangeSpec := { name := "rationalStarRepeats", fn := fun _ => fun
  | [d1, d2, d3] => { results := [.lit (.bool false)], args := [d1, d2, d3] }
  | _ => none }
def RationalStarRepeatsWrongFalsely : Prop := rationalStarRepeatsRow.holds Try.pinned (OpenSpec.ofChange rationalStarRepeatsWrong)

/-- 'glosswrightlaw5.RationalConcatIsAssociative': WHATEVER THE INPUT: true; the input reads as it did. -/
def rationalConcatIsAssociativeSpec : ChangeSpec := { name := "rationalConcatIsAssociative", fn := fun _ => fun
  | [d1, d2, d3, d4, d5] => { results := [.lit (.bool true)], args := [d1, d2, d3, d4, d5] }
  | _ => none }
def rationalConcatIsAssociativeRow : OpenClaim := { program := "ytpahodbnljpnnaa", sum := "19962c0b261dc8ee01b83970c5f81645e33ed5db6c475c7f16ffa43f98158b02", func := "glosswright/glosswrightlaw5.RationalConcatIsAssociative", spec := "rationalConcatIsAssociative", unfollowed := true, recurses := true, apart := false }
def RationalConcatIsAssociativeSaid : Prop := rationalConcatIsAssociativeRow.holds Try.pinned (OpenSpec.ofChange rationalConcatIsAssociativeSpec)

/-- ITS FALSE NEIGHBOUR: 'it returns false'. Refute it at one input. -/
def rationalConcatIsAssociativeWrong : ChangeSpec := { name := "rationalConcatIsAssociative", fn := fun _ => fun
  | [d1, d2, d3, d4, d5] => { results := [.lit (.bool false)], args := [d1, d2, d3, d4, d5] }
  | _ => none }
def RationalConcatIsAssociativeWrongFalsely : Prop := rationalConcatIsAssociativeRow.holds Try.pinned (OpenSpec.ofChange rationalConcatIsAssociativeWrong)

/-- 'glosswrightlaw5.RationalLiteralMatchesSpec': WHATEVER THE INPUT: true; the input reads as it did. -/
def rationalLiteralMatchesSpecSpec : ChangeSpec := { name := "rationalLiteralMatchesSpec", fn := fun _ => fun
  | [d1, d2, d3] => { results := [.lit (.bool true)], args := [d1, d2, d3] }
  | _ => none }
def rationalLiteralMatchesSpecRow : OpenClaim := { program := "ytpahodbnljpnnaa", sum := "19962c0b261dc8ee01b83970c5f81645e33ed5db6c475c7f16ffa43f98158b02", func := "glosswright/glosswrightlaw5.RationalLiteralMatchesSpec", spec := "rationalLiteralMatchesSpec", unfollowed := true, recurses := true, apart := false }
def RationalLiteralMatchesSpecSaid : Prop := rationalLiteralMatchesSpecRow.holds Try.pinned (OpenSpec.ofChange rationalLiteralMatchesSpecSpec)

/-- ITS FALSE NEIGHBOUR: 'it returns false'. Refute it at one input. -/
def rationalLiteralMatchesSpecWrong : ChangeSpec := { name := "rationalLiteralMatchesSpec", fn := fun _ => fun
  | [d1, d2, d3] => { results := [.lit (.bool false)], args := [d1, d2, d3] }
  | _ => none }
def RationalLiteralMatchesSpecWrongFalsely : Prop := rationalLiteralMatchesSpecRow.holds Try.pinned (OpenSpec.ofChange rationalLiteralMatchesSpecWrong)

/-- 'glosswrightlaw5.RationalShapesMatchSpec': WHATEVER THE INPUT: true; the input reads as it did. -/
def rationalShapesMatchSpecSpec : ChangeSpec := { name := "rationalShapesMatchSpec", fn := fun _ => fun
  | [d1, d2] => { results := [.lit (.bool true)], args := [d1, d2] }
  | _ => none }
def rationalShapesMatchSpecRow : OpenClaim := { program := "ytpahodbnljpnnaa", sum := "19962c0b261dc8ee01b83970c5f81645e33ed5db6c475c7f16ffa43f98158b02", func := "glosswright/glosswrightlaw5.RationalShapesMatchSpec", spec := "rationalShapesMatchSpec", unfollowed := true, recurses := true, apart := false }
def RationalShapesMatchSpecSaid : Prop := rationalShapesMatchSpecRow.holds Try.pinned (OpenSpec.ofChange rationalShapesMatchSpecSpec)

/-- ITS FALSE NEIGHBOUR: 'it returns false'. Refute it at one input. -/
def rationalShapesMatchSpecWrong : ChangeSpec := { name := "rationalShapesMatchSpec", fn := fun _ => fun
  | [d1, d2] => { results := [.lit (.bool false)], args := [d1, d2] }
  | _ => none }
def RationalShapesMatchSpecWrongFalsely : Prop := rationalShapesMatchSpecRow.holds Try.pinned (OpenSpec.ofChange rationalShapesMatchSpecWrong)

/-- 'glosswrightlaw5.ComposeChangesMatchSpec': WHATEVER THE INPUT: true; the input reads as it did. -/
def composeChangesMatchSpecSpec : ChangeSpec := { name := "composeChangesMatchSpec", fn := fun _ => fun
  | [d] => { results := [.lit (.bool true)], args := [d] }
  | _ => none }
def composeChangesMatchSpecRow : OpenClaim := { program := "ytpahodbnljpnnaa", sum := "19962c0b261dc8ee01b83970c5f81645e33ed5db6c475c7f16ffa43f98158b02", func := "glosswright/glosswrightlaw5.ComposeChangesMatchSpec", spec := "composeChangesMatchSpec", unfollowed := true, recurses := true, apart := false }
def ComposeChangesMatchSpecSaid : Prop := composeChangesMatchSpecRow.holds Try.pinned (OpenSpec.ofChange composeChangesMatchSpecSpec)

/-- ITS FALSE NEIGHBOUR: 'it returns false'. Refute it at one input. -/
def composeChangesMatchSpecWrong : ChangeSpec := { name := "composeChangesMatchSpec", fn := fun _ => fun
  | [d] => { results := [.lit (.bool false)], args := [d] }
  | _ => none }
def ComposeChangesMatchSpecWrongFalsely : Prop := composeChangesMatchSpecRow.holds Try.pinned (OpenSpec.ofChange composeChangesMatchSpecWrong)

/- THE SECOND FORM. 'bulk': how many values and letters a reading holds, each counted each time it is reached (what is shared counts as often as it is met; a slice's spare places count too). A statement '..UptoSaid' is the law's where the arguments, and the package variables that the reading takes, are together of bulk at most 1048576: NARROWER than '..Said'. Prove '..Said' where nothing that the law and all that it calls make is longer than what came in: it says more and counts as full. Else prove '..UptoSaid'. A law counts once. -/
mutual
def uptoBulk {H : Type} : DataW H → Nat
  | .lit (.string bytes) => bytes.length + 1
  | .lit _ => 1
  | .nil => 1
  | .ptr d => uptoBulk d + 1
  | .slice elems spare => uptoBulkAll elems + uptoBulkAll spare + 1
  | .agg parts => uptoBulkAll parts + 1
  | .iface _ d => uptoBulk d + 1
  | .map entries => uptoBulkEntries entries + 1
  | .held _ => 1
def uptoBulkAll {H : Type} : List (DataW H) → Nat
  | [] => 0
  | d :: r => uptoBulk d + uptoBulkAll r
def uptoBulkEntries {H : Type} : List (Lit × DataW H) → Nat
  | [] => 0
  | x :: r => uptoBulkEntry x + uptoBulkEntries r
def uptoBulkEntry {H : Type} : Lit × DataW H → Nat
  | (.string bytes, d) => bytes.length + uptoBulk d + 1
  | (_, d) => uptoBulk d + 1
 end
def uptoSmall : (H : Type) → List (DataW H) → Bool := fun _ ds => decide (uptoBulkAll ds ≤ 1048576)
def OpenSpec.upto (s : _root_.Go.ChangeSpec) : _root_.Go.OpenSpec := { _root_.Go.OpenSpec.ofChange s with cond := some uptoSmall }

/-- 'glosswrightlaw5.RationalConcatSplits', WHERE WHAT IT READS IS OF BULK AT MOST 1048576: true; the input reads as it did. -/
def rationalConcatSplitsUptoRow : OpenClaim := { program := "ytpahodbnljpnnaa", sum := "19962c0b261dc8ee01b83970c5f81645e33ed5db6c475c7f16ffa43f98158b02", func := "glosswright/glosswrightlaw5.RationalConcatSplits", spec := "rationalConcatSplits", unfollowed := true, recurses := true, apart := false, narrowed := true }
def RationalConcatSplitsUptoSaid : Prop := rationalConcatSplitsUptoRow.holds Try.pinned (OpenSpec.upto rationalConcatSplitsSpec)

/-- 'glosswrightlaw5.RationalStarRepeats', WHERE WHAT IT READS IS OF BULK AT MOST 1048576: true; the input reads as it did. -/
def rationalStarRepeatsUptoRow : OpenClaim := { program := "ytpahodbnljpnnaa", sum := "19962c0b261dc8ee01b83970c5f81645e33ed5db6c475c7f16ffa43f98158b02", func := "glosswright/glosswrightlaw5.RationalStarRepeats", spec := "rationalStarRepeats", unfollowed := true, recurses := true, apart := false, narrowed := true }
def RationalStarRepeatsUptoSaid : Prop := rationalStarRepeatsUptoRow.holds Try.pinned (OpenSpec.upto rationalStarRepeatsSpec)

/-- 'glosswrightlaw5.RationalConcatIsAssociative', WHERE WHAT IT READS IS OF BULK AT MOST 1048576: true; the input reads as it did. -/
def rationalConcatIsAssociativeUptoRow : OpenClaim := { program := "ytpahodbnljpnnaa", sum := "19962c0b261dc8ee01b83970c5f81645e33ed5db6c475c7f16ffa43f98158b02", func := "glosswright/glosswrightlaw5.RationalConcatIsAssociative", spec := "rationalConcatIsAssociative", unfollowed := true, recurses := true, apart := false, narrowed := true }
def RationalConcatIsAssociativeUptoSaid : Prop := rationalConcatIsAssociativeUptoRow.holds Try.pinned (OpenSpec.upto rationalConcatIsAssociativeSpec)

/-- 'glosswrightlaw5.RationalLiteralMatchesSpec', WHERE WHAT IT READS IS OF BULK AT MOST 1048576: true; the input reads as it did. -/
def rationalLiteralMatchesSpecUptoRow : OpenClaim := { program := "ytpahodbnljpnnaa", sum := "19962c0b261dc8ee01b83970c5f81645e33ed5db6c475c7f16ffa43f98158b02", func := "glosswright/glosswrightlaw5.RationalLiteralMatchesSpec", spec := "rationalLiteralMatchesSpec", unfollowed := true, recurses := true, apart := false, narrowed := true }
def RationalLiteralMatchesSpecUptoSaid : Prop := rationalLiteralMatchesSpecUptoRow.holds Try.pinned (OpenSpec.upto rationalLiteralMatchesSpecSpec)

/-- 'glosswrightlaw5.RationalShapesMatchSpec', WHERE WHAT IT READS IS OF BULK AT MOST 1048576: true; the input reads as it did. -/
def rationalShapesMatchSpecUptoRow : OpenClaim := { program := "ytpahodbnljpnnaa", sum := "19962c0b261dc8ee01b83970c5f81645e33ed5db6c475c7f16ffa43f98158b02", func := "glosswright/glosswrightlaw5.RationalShapesMatchSpec", spec := "rationalShapesMatchSpec", unfollowed := true, recurses := true, apart := false, narrowed := true }
def RationalShapesMatchSpecUptoSaid : Prop := rationalShapesMatchSpecUptoRow.holds Try.pinned (OpenSpec.upto rationalShapesMatchSpecSpec)

/-- 'glosswrightlaw5.ComposeChangesMatchSpec', WHERE WHAT IT READS IS OF BULK AT MOST 1048576: true; the input reads as it did. -/
def composeChangesMatchSpecUptoRow : OpenClaim := { program := "ytpahodbnljpnnaa", sum := "19962c0b261dc8ee01b83970c5f81645e33ed5db6c475c7f16ffa43f98158b02", func := "glosswright/glosswrightlaw5.ComposeChangesMatchSpec", spec := "composeChangesMatchSpec", unfollowed := true, recurses := true, apart := false, narrowed := true }
def ComposeChangesMatchSpecUptoSaid : Prop := composeChangesMatchSpecUptoRow.holds Try.pinned (OpenSpec.upto composeChangesMatchSpecSpec)

end Rows
end Go.Proofs.Ytpahodbnljpnnaa
