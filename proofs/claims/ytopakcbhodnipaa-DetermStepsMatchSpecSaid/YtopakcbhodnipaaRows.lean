/-
  No cell of these rows narrows 'for every input' (looked for: loops, veiled, ifaces, maps, wideKeys, modest, calm, conditions, laid).
  DERIVED. THE GIVEN ROWS OF THIS SEAT. 12 by the template 'for every input the law returns true; each argument reads behind the call as it read before'; 0 by the template 'total and deterministic' (their statements: YtopakcbhodnipaaTotals.lean).
  GIVEN WITH THE SEED: the statements are not yours to turn. If you find one false, say at which input.
  Laid BY PROGRAM, IN A SANDBOX (cutbox-rows.mjs): the forced cells as the released guide's own fill.sh prints them over the translation 310595bad5f1ec30… (all of the seat's roots in one cut). By AI agents, Wed Nov 11 2026. No macro, syntax, notation, axiom, sorry.
-/
import Derived.Test.YtopakcbhodnipaaChecked
import GoSem.Claim
import GoSem.ClaimJoined
import GoSem.ClaimMapViews
import Derived.JoinedTies
import Derived.KernelRfl
namespace Go.Proofs.Ytopakcbhodnipaa
/- THE CELL 'sum', in the pinned program and in every row, IS THE sha256 OF THE DUMP (.gsa) THAT YtopakcbhodnipaaProg.lean LOADS. Nothing in Lean hashes anything: it is a label: what it is worth is what the hold of that sum in a sandbox is worth. -/
noncomputable def Try.pinned : Pinned := { name := "ytopakcbhodnipaa", sum := "310595bad5f1ec30b7b0c740cf013d50d8dcb6b7df94ece9e8145c776166a443", checked := Try.checked }
namespace Rows
def none {H : Type} : Left H := { results := [], args := [] }

/-- 'glosswrightlaw5.DetermTablesMatchSpec': WHATEVER THE INPUT: true; the input reads as it did. -/
def determTablesMatchSpecSpec : ChangeSpec := { name := "determTablesMatchSpec", fn := fun _ => fun
  | [d1, d2, d3] => { results := [.lit (.bool true)], args := [d1, d2, d3] }
  | _ => none }
def determTablesMatchSpecRow : OpenClaim := { program := "ytopakcbhodnipaa", sum := "310595bad5f1ec30b7b0c740cf013d50d8dcb6b7df94ece9e8145c776166a443", func := "glosswright/glosswrightlaw5.DetermTablesMatchSpec", spec := "determTablesMatchSpec", plainKeys := false, apart := false }
def DetermTablesMatchSpecSaid : Prop := determTablesMatchSpecRow.holds Try.pinned (OpenSpec.ofChange determTablesMatchSpecSpec)

/-- ITS FALSE NEIGHBOUR: 'it returns false'. Refute it at one input. -/
def determTablesMatchSpecWrong : ChangeSpec := { name := "determTablesMatchSpec", fn := fun _ => fun
  | [d1, d2, d3] => { results := [.lit (.bool false)], args := [d1, d2, d3] }
  | _ => none }
def DetermTablesMatchSpecWrongFalsely : Prop := determTablesMatchSpecRow.holds Try.pinned (OpenSpec.ofChange determTablesMatchSpecWrong)

/-- 'glosswrightlaw5.DetermEquivalentMatchesSpec': WHATEVER THE INPUT: true; the input reads as it did. -/
def determEquivalentMatchesSpecSpec : ChangeSpec := { name := "determEquivalentMatchesSpec", fn := fun _ => fun
  | [d1, d2] => { results := [.lit (.bool true)], args := [d1, d2] }
  | _ => none }
def determEquivalentMatchesSpecRow : OpenClaim := { program := "ytopakcbhodnipaa", sum := "310595bad5f1ec30b7b0c740cf013d50d8dcb6b7df94ece9e8145c776166a443", func := "glosswright/glosswrightlaw5.DetermEquivalentMatchesSpec", spec := "determEquivalentMatchesSpec", unfollowed := true, recurses := true, plainKeys := false, apart := false }
def DetermEquivalentMatchesSpecSaid : Prop := determEquivalentMatchesSpecRow.holds Try.pinned (OpenSpec.ofChange determEquivalentMatchesSpecSpec)

/-- ITS FALSE NEIGHBOUR: 'it returns false'. Refute it at one input. -/
def determEquivalentMatchesSpecWrong : ChangeSpec := { name := "determEquivalentMatchesSpec", fn := fun _ => fun
  | [d1, d2] => { results := [.lit (.bool false)], args := [d1, d2] }
  | _ => none }
def DetermEquivalentMatchesSpecWrongFalsely : Prop := determEquivalentMatchesSpecRow.holds Try.pinned (OpenSpec.ofChange determEquivalentMatchesSpecWrong)

/-- 'glosswrightlaw5.DetermStepsMatchSpec': WHATEVER THE INPUT: true; the input reads as it did. -/
def determStepsMatchSpecSpec : ChangeSpec := { name := "determStepsMatchSpec", fn := fun _ => fun
  | [d] => { results := [.lit (.bool true)], args := [d] }
  | _ => none }
def determStepsMatchSpecRow : OpenClaim := { program := "ytopakcbhodnipaa", sum := "310595bad5f1ec30b7b0c740cf013d50d8dcb6b7df94ece9e8145c776166a443", func := "glosswright/glosswrightlaw5.DetermStepsMatchSpec", spec := "determStepsMatchSpec", unfollowed := true, recurses := true, plainKeys := false, apart := false }
def DetermStepsMatchSpecSaid : Prop := determStepsMatchSpecRow.holds Try.pinned (OpenSpec.ofChange determStepsMatchSpecSpec)

/-- ITS FALSE NEIGHBOUR: 'it returns false'. Refute it at one input. -/
def determStepsMatchSpecWrong : ChangeSpec := { name := "determStepsMatchSpec", fn := fun _ => fun
  | [d] => { results := [.lit (.bool false)], args := [d] }
  | _ => none }
def DetermStepsMatchSpecWrongFalsely : Prop := determStepsMatchSpecRow.holds Try.pinned (OpenSpec.ofChange determStepsMatchSpecWrong)

/-- 'glosswrightlaw5.DetermLeastMatchesSpec': WHATEVER THE INPUT: true; the input reads as it did. -/
def determLeastMatchesSpecSpec : ChangeSpec := { name := "determLeastMatchesSpec", fn := fun _ => fun
  | [d] => { results := [.lit (.bool true)], args := [d] }
  | _ => none }
def determLeastMatchesSpecRow : OpenClaim := { program := "ytopakcbhodnipaa", sum := "310595bad5f1ec30b7b0c740cf013d50d8dcb6b7df94ece9e8145c776166a443", func := "glosswright/glosswrightlaw5.DetermLeastMatchesSpec", spec := "determLeastMatchesSpec", unfollowed := true, recurses := true, plainKeys := false, apart := false }
def DetermLeastMatchesSpecSaid : Prop := determLeastMatchesSpecRow.holds Try.pinned (OpenSpec.ofChange determLeastMatchesSpecSpec)

/-- ITS FALSE NEIGHBOUR: 'it returns false'. Refute it at one input. -/
def determLeastMatchesSpecWrong : ChangeSpec := { name := "determLeastMatchesSpec", fn := fun _ => fun
  | [d] => { results := [.lit (.bool false)], args := [d] }
  | _ => none }
def DetermLeastMatchesSpecWrongFalsely : Prop := determLeastMatchesSpecRow.holds Try.pinned (OpenSpec.ofChange determLeastMatchesSpecWrong)

/-- 'glosswrightlaw5.DetermAcceptsTheSame': WHATEVER THE INPUT: true; the input reads as it did. -/
def determAcceptsTheSameSpec : ChangeSpec := { name := "determAcceptsTheSame", fn := fun _ => fun
  | [d1, d2] => { results := [.lit (.bool true)], args := [d1, d2] }
  | _ => none }
def determAcceptsTheSameRow : OpenClaim := { program := "ytopakcbhodnipaa", sum := "310595bad5f1ec30b7b0c740cf013d50d8dcb6b7df94ece9e8145c776166a443", func := "glosswright/glosswrightlaw5.DetermAcceptsTheSame", spec := "determAcceptsTheSame", unfollowed := true, recurses := true, plainKeys := false, apart := false }
def DetermAcceptsTheSameSaid : Prop := determAcceptsTheSameRow.holds Try.pinned (OpenSpec.ofChange determAcceptsTheSameSpec)

/-- ITS FALSE NEIGHBOUR: 'it returns false'. Refute it at one input. -/
def determAcceptsTheSameWrong : ChangeSpec := { name := "determAcceptsTheSame", fn := fun _ => fun
  | [d1, d2] => { results := [.lit (.bool false)], args := [d1, d2] }
  | _ => none }
def DetermAcceptsTheSameWrongFalsely : Prop := determAcceptsTheSameRow.holds Try.pinned (OpenSpec.ofChange determAcceptsTheSameWrong)

/-- 'glosswrightlaw5.DetermLeastIsDone': WHATEVER THE INPUT: true; the input reads as it did. -/
def determLeastIsDoneSpec : ChangeSpec := { name := "determLeastIsDone", fn := fun _ => fun
  | [d] => { results := [.lit (.bool true)], args := [d] }
  | _ => none }
def determLeastIsDoneRow : OpenClaim := { program := "ytopakcbhodnipaa", sum := "310595bad5f1ec30b7b0c740cf013d50d8dcb6b7df94ece9e8145c776166a443", func := "glosswright/glosswrightlaw5.DetermLeastIsDone", spec := "determLeastIsDone", unfollowed := true, recurses := true, plainKeys := false, apart := false }
def DetermLeastIsDoneSaid : Prop := determLeastIsDoneRow.holds Try.pinned (OpenSpec.ofChange determLeastIsDoneSpec)

/-- ITS FALSE NEIGHBOUR: 'it returns false'. Refute it at one input. -/
def determLeastIsDoneWrong : ChangeSpec := { name := "determLeastIsDone", fn := fun _ => fun
  | [d] => { results := [.lit (.bool false)], args := [d] }
  | _ => none }
def DetermLeastIsDoneWrongFalsely : Prop := determLeastIsDoneRow.holds Try.pinned (OpenSpec.ofChange determLeastIsDoneWrong)

/-- 'glosswrightlaw5.DetermLeastIsUnique': WHATEVER THE INPUT: true; the input reads as it did. -/
def determLeastIsUniqueSpec : ChangeSpec := { name := "determLeastIsUnique", fn := fun _ => fun
  | [d1, d2] => { results := [.lit (.bool true)], args := [d1, d2] }
  | _ => none }
def determLeastIsUniqueRow : OpenClaim := { program := "ytopakcbhodnipaa", sum := "310595bad5f1ec30b7b0c740cf013d50d8dcb6b7df94ece9e8145c776166a443", func := "glosswright/glosswrightlaw5.DetermLeastIsUnique", spec := "determLeastIsUnique", unfollowed := true, recurses := true, plainKeys := false, apart := false }
def DetermLeastIsUniqueSaid : Prop := determLeastIsUniqueRow.holds Try.pinned (OpenSpec.ofChange determLeastIsUniqueSpec)

/-- ITS FALSE NEIGHBOUR: 'it returns false'. Refute it at one input. -/
def determLeastIsUniqueWrong : ChangeSpec := { name := "determLeastIsUnique", fn := fun _ => fun
  | [d1, d2] => { results := [.lit (.bool false)], args := [d1, d2] }
  | _ => none }
def DetermLeastIsUniqueWrongFalsely : Prop := determLeastIsUniqueRow.holds Try.pinned (OpenSpec.ofChange determLeastIsUniqueWrong)

/-- 'glosswrightlaw5.BooleanMatchesSpec': WHATEVER THE INPUT: true; the input reads as it did. -/
def booleanMatchesSpecSpec : ChangeSpec := { name := "booleanMatchesSpec", fn := fun _ => fun
  | [d1, d2] => { results := [.lit (.bool true)], args := [d1, d2] }
  | _ => none }
def booleanMatchesSpecRow : OpenClaim := { program := "ytopakcbhodnipaa", sum := "310595bad5f1ec30b7b0c740cf013d50d8dcb6b7df94ece9e8145c776166a443", func := "glosswright/glosswrightlaw5.BooleanMatchesSpec", spec := "booleanMatchesSpec", unfollowed := true, recurses := true, plainKeys := false, apart := false }
def BooleanMatchesSpecSaid : Prop := booleanMatchesSpecRow.holds Try.pinned (OpenSpec.ofChange booleanMatchesSpecSpec)

/-- ITS FALSE NEIGHBOUR: 'it returns false'. Refute it at one input. -/
def booleanMatchesSpecWrong : ChangeSpec := { name := "booleanMatchesSpec", fn := fun _ => fun
  | [d1, d2] => { results := [.lit (.bool false)], args := [d1, d2] }
  | _ => none }
def BooleanMatchesSpecWrongFalsely : Prop := booleanMatchesSpecRow.holds Try.pinned (OpenSpec.ofChange booleanMatchesSpecWrong)

/-- 'glosswrightlaw5.BooleanComplementMatchesSpec': WHATEVER THE INPUT: true; the input reads as it did. -/
def booleanComplementMatchesSpecSpec : ChangeSpec := { name := "booleanComplementMatchesSpec", fn := fun _ => fun
  | [d1, d2] => { results := [.lit (.bool true)], args := [d1, d2] }
  | _ => none }
def booleanComplementMatchesSpecRow : OpenClaim := { program := "ytopakcbhodnipaa", sum := "310595bad5f1ec30b7b0c740cf013d50d8dcb6b7df94ece9e8145c776166a443", func := "glosswright/glosswrightlaw5.BooleanComplementMatchesSpec", spec := "booleanComplementMatchesSpec", unfollowed := true, recurses := true, plainKeys := false, apart := false }
def BooleanComplementMatchesSpecSaid : Prop := booleanComplementMatchesSpecRow.holds Try.pinned (OpenSpec.ofChange booleanComplementMatchesSpecSpec)

/-- ITS FALSE NEIGHBOUR: 'it returns false'. Refute it at one input. -/
def booleanComplementMatchesSpecWrong : ChangeSpec := { name := "booleanComplementMatchesSpec", fn := fun _ => fun
  | [d1, d2] => { results := [.lit (.bool false)], args := [d1, d2] }
  | _ => none }
def BooleanComplementMatchesSpecWrongFalsely : Prop := booleanComplementMatchesSpecRow.holds Try.pinned (OpenSpec.ofChange booleanComplementMatchesSpecWrong)

/-- 'glosswrightlaw5.BooleanAcceptsWords': WHATEVER THE INPUT: true; the input reads as it did. -/
def booleanAcceptsWordsSpec : ChangeSpec := { name := "booleanAcceptsWords", fn := fun _ => fun
  | [d1, d2, d3, d4] => { results := [.lit (.bool true)], args := [d1, d2, d3, d4] }
  | _ => none }
def booleanAcceptsWordsRow : OpenClaim := { program := "ytopakcbhodnipaa", sum := "310595bad5f1ec30b7b0c740cf013d50d8dcb6b7df94ece9e8145c776166a443", func := "glosswright/glosswrightlaw5.BooleanAcceptsWords", spec := "booleanAcceptsWords", unfollowed := true, recurses := true, plainKeys := false, apart := false }
def BooleanAcceptsWordsSaid : Prop := booleanAcceptsWordsRow.holds Try.pinned (OpenSpec.ofChange booleanAcceptsWordsSpec)

/-- ITS FALSE NEIGHBOUR: 'it returns false'. Refute it at one input. -/
def booleanAcceptsWordsWrong : ChangeSpec := { name := "booleanAcceptsWords", fn := fun _ => fun
  | [d1, d2, d3, d4] => { results := [.lit (.bool false)], args := [d1, d2, d3, d4] }
  | _ => none }
def BooleanAcceptsWordsWrongFalsely : Prop := booleanAcceptsWordsRow.holds Try.pinned (OpenSpec.ofChange booleanAcceptsWordsWrong)

/-- 'glosswrightlaw5.BooleanSubtractIsIntersect': WHATEVER THE INPUT: true; the input reads as it did. -/
def booleanSubtractIsIntersectSpec : ChangeSpec := { name := "booleanSubtractIsIntersect", fn := fun _ => fun
  | [d1, d2] => { results := [.lit (.bool true)], args := [d1, d2] }
  | _ => none }
def booleanSubtractIsIntersectRow : OpenClaim := { program := "ytopakcbhodnipaa", sum := "310595bad5f1ec30b7b0c740cf013d50d8dcb6b7df94ece9e8145c776166a443", func := "glosswright/glosswrightlaw5.BooleanSubtractIsIntersect", spec := "booleanSubtractIsIntersect", unfollowed := true, recurses := true, plainKeys := false, apart := false }
def BooleanSubtractIsIntersectSaid : Prop := booleanSubtractIsIntersectRow.holds Try.pinned (OpenSpec.ofChange booleanSubtractIsIntersectSpec)

/-- ITS FALSE NEIGHBOUR: 'it returns false'. Refute it at one input. -/
def booleanSubtractIsIntersectWrong : ChangeSpec := { name := "booleanSubtractIsIntersect", fn := fun _ => fun
  | [d1, d2] => { results := [.lit (.bool false)], args := [d1, d2] }
  | _ => none }
def BooleanSubtractIsIntersectWrongFalsely : Prop := booleanSubtractIsIntersectRow.holds Try.pinned (OpenSpec.ofChange booleanSubtractIsIntersectWrong)

/-- 'glosswrightlaw5.BooleanComplementTurnsTwice': WHATEVER THE INPUT: true; the input reads as it did. -/
def booleanComplementTurnsTwiceSpec : ChangeSpec := { name := "booleanComplementTurnsTwice", fn := fun _ => fun
  | [d1, d2] => { results := [.lit (.bool true)], args := [d1, d2] }
  | _ => none }
def booleanComplementTurnsTwiceRow : OpenClaim := { program := "ytopakcbhodnipaa", sum := "310595bad5f1ec30b7b0c740cf013d50d8dcb6b7df94ece9e8145c776166a443", func := "glosswright/glosswrightlaw5.BooleanComplementTurnsTwice", spec := "booleanComplementTurnsTwice", unfollowed := true, recurses := true, plainKeys := false, apart := false }
def BooleanComplementTurnsTwiceSaid : Prop := booleanComplementTurnsTwiceRow.holds Try.pinned (OpenSpec.ofChange booleanComplementTurnsTwiceSpec)

/-- ITS FALSE NEIGHBOUR: 'it returns false'. Refute it at one input. -/
def booleanComplementTurnsTwiceWrong : ChangeSpec := { name := "booleanComplementTurnsTwice", fn := fun _ => fun
  | [d1, d2] => { results := [.lit (.bool false)], args := [d1, d2] }
  | _ => none }
def BooleanComplementTurnsTwiceWrongFalsely : Prop := booleanComplementTurnsTwiceRow.holds Try.pinned (OpenSpec.ofChange booleanComplementTurnsTwiceWrong)

/- THE SECOND FORM. 'bulk': how many values and letters a reading holds, each counted each time it is reached (what is shared counts as often as it is met; a slice's spare places count too). A statement '..UptoSaid' is the law's where the arguments, and the package variables that the reading takes, are together of bulk at most 1048576: NARROWER than '..Said'. Prove '..Said' where nothing that the law and all that it calls make is longer than what came in: it says more and counts as full. Else prove '..UptoSaid'. A law counts once. -/
mutual
def uptoBulk {H : Type} : DataW H → Nat
  | .lit (.string bytes) => bytes.length + 1
  | .lit _ => 1
  | .nil => 1
  | .ptr d => uptoBulk d + 1
  | .slice elems spare => uptoBulkAll elems + uptoBulkAll spare + 1
  | .agg parts => uptoBulkAll parts + 1
  | .iface _ d => uptoBulk d + 1
  | .map entries => uptoBulkEntries entries + 1
  | .held _ => 1
def uptoBulkAll {H : Type} : List (DataW H) → Nat
  | [] => 0
  | d :: r => uptoBulk d + uptoBulkAll r
def uptoBulkEntries {H : Type} : List (Lit × DataW H) → Nat
  | [] => 0
  | x :: r => uptoBulkEntry x + uptoBulkEntries r
def uptoBulkEntry {H : Type} : Lit × DataW H → Nat
  | (.string bytes, d) => bytes.length + uptoBulk d + 1
  | (_, d) => uptoBulk d + 1
 end
def uptoSmall : (H : Type) → List (DataW H) → Bool := fun _ ds => decide (uptoBulkAll ds ≤ 1048576)
def OpenSpec.upto (s : _root_.Go.ChangeSpec) : _root_.Go.OpenSpec := { _root_.Go.OpenSpec.ofChange s with cond := some uptoSmall }

/-- 'glosswrightlaw5.DetermTablesMatchSpec', WHERE WHAT IT READS IS OF BULK AT MOST 1048576: true; the input reads as it did. -/
def determTablesMatchSpecUptoRow : OpenClaim := { program := "ytopakcbhodnipaa", sum := "310595bad5f1ec30b7b0c740cf013d50d8dcb6b7df94ece9e8145c776166a443", func := "glosswright/glosswrightlaw5.DetermTablesMatchSpec", spec := "determTablesMatchSpec", plainKeys := false, apart := false, narrowed := true }
def DetermTablesMatchSpecUptoSaid : Prop := determTablesMatchSpecUptoRow.holds Try.pinned (OpenSpec.upto determTablesMatchSpecSpec)

/-- 'glosswrightlaw5.DetermEquivalentMatchesSpec', WHERE WHAT IT READS IS OF BULK AT MOST 1048576: true; the input reads as it did. -/
def determEquivalentMatchesSpecUptoRow : OpenClaim := { program := "ytopakcbhodnipaa", sum := "310595bad5f1ec30b7b0c740cf013d50d8dcb6b7df94ece9e8145c776166a443", func := "glosswright/glosswrightlaw5.DetermEquivalentMatchesSpec", spec := "determEquivalentMatchesSpec", unfollowed := true, recurses := true, plainKeys := false, apart := false, narrowed := true }
def DetermEquivalentMatchesSpecUptoSaid : Prop := determEquivalentMatchesSpecUptoRow.holds Try.pinned (OpenSpec.upto determEquivalentMatchesSpecSpec)

/-- 'glosswrightlaw5.DetermStepsMatchSpec', WHERE WHAT IT READS IS OF BULK AT MOST 1048576: true; the input reads as it did. -/
def determStepsMatchSpecUptoRow : OpenClaim := { program := "ytopakcbhodnipaa", sum := "310595bad5f1ec30b7b0c740cf013d50d8dcb6b7df94ece9e8145c776166a443", func := "glosswright/glosswrightlaw5.DetermStepsMatchSpec", spec := "determStepsMatchSpec", unfollowed := true, recurses := true, plainKeys := false, apart := false, narrowed := true }
def DetermStepsMatchSpecUptoSaid : Prop := determStepsMatchSpecUptoRow.holds Try.pinned (OpenSpec.upto determStepsMatchSpecSpec)

/-- 'glosswrightlaw5.DetermLeastMatchesSpec', WHERE WHAT IT READS IS OF BULK AT MOST 1048576: true; the input reads as it did. -/
def determLeastMatchesSpecUptoRow : OpenClaim := { program := "ytopakcbhodnipaa", sum := "310595bad5f1ec30b7b0c740cf013d50d8dcb6b7df94ece9e8145c776166a443", func := "glosswright/glosswrightlaw5.DetermLeastMatchesSpec", spec := "determLeastMatchesSpec", unfollowed := true, recurses := true, plainKeys := false, apart := false, narrowed := true }
def DetermLeastMatchesSpecUptoSaid : Prop := determLeastMatchesSpecUptoRow.holds Try.pinned (OpenSpec.upto determLeastMatchesSpecSpec)

/-- 'glosswrightlaw5.DetermAcceptsTheSame', WHERE WHAT IT READS IS OF BULK AT MOST 1048576: true; the input reads as it did. -/
def determAcceptsTheSameUptoRow : OpenClaim := { program := "ytopakcbhodnipaa", sum := "310595bad5f1ec30b7b0c740cf013d50d8dcb6b7df94ece9e8145c776166a443", func := "glosswright/glosswrightlaw5.DetermAcceptsTheSame", spec := "determAcceptsTheSame", unfollowed := true, recurses := true, plainKeys := false, apart := false, narrowed := true }
def DetermAcceptsTheSameUptoSaid : Prop := determAcceptsTheSameUptoRow.holds Try.pinned (OpenSpec.upto determAcceptsTheSameSpec)

/-- 'glosswrightlaw5.DetermLeastIsDone', WHERE WHAT IT READS IS OF BULK AT MOST 1048576: true; the input reads as it did. -/
def determLeastIsDoneUptoRow : OpenClaim := { program := "ytopakcbhodnipaa", sum := "310595bad5f1ec30b7b0c740cf013d50d8dcb6b7df94ece9e8145c776166a443", func := "glosswright/glosswrightlaw5.DetermLeastIsDone", spec := "determLeastIsDone", unfollowed := true, recurses := true, plainKeys := false, apart := false, narrowed := true }
def DetermLeastIsDoneUptoSaid : Prop := determLeastIsDoneUptoRow.holds Try.pinned (OpenSpec.upto determLeastIsDoneSpec)

/-- 'glosswrightlaw5.DetermLeastIsUnique', WHERE WHAT IT READS IS OF BULK AT MOST 1048576: true; the input reads as it did. -/
def determLeastIsUniqueUptoRow : OpenClaim := { program := "ytopakcbhodnipaa", sum := "310595bad5f1ec30b7b0c740cf013d50d8dcb6b7df94ece9e8145c776166a443", func := "glosswright/glosswrightlaw5.DetermLeastIsUnique", spec := "determLeastIsUnique", unfollowed := true, recurses := true, plainKeys := false, apart := false, narrowed := true }
def DetermLeastIsUniqueUptoSaid : Prop := determLeastIsUniqueUptoRow.holds Try.pinned (OpenSpec.upto determLeastIsUniqueSpec)

/-- 'glosswrightlaw5.BooleanMatchesSpec', WHERE WHAT IT READS IS OF BULK AT MOST 1048576: true; the input reads as it did. -/
def booleanMatchesSpecUptoRow : OpenClaim := { program := "ytopakcbhodnipaa", sum := "310595bad5f1ec30b7b0c740cf013d50d8dcb6b7df94ece9e8145c776166a443", func := "glosswright/glosswrightlaw5.BooleanMatchesSpec", spec := "booleanMatchesSpec", unfollowed := true, recurses := true, plainKeys := false, apart := false, narrowed := true }
def BooleanMatchesSpecUptoSaid : Prop := booleanMatchesSpecUptoRow.holds Try.pinned (OpenSpec.upto booleanMatchesSpecSpec)

/-- 'glosswrightlaw5.BooleanComplementMatchesSpec', WHERE WHAT IT READS IS OF BULK AT MOST 1048576: true; the input reads as it did. -/
def booleanComplementMatchesSpecUptoRow : OpenClaim := { program := "ytopakcbhodnipaa", sum := "310595bad5f1ec30b7b0c740cf013d50d8dcb6b7df94ece9e8145c776166a443", func := "glosswright/glosswrightlaw5.BooleanComplementMatchesSpec", spec := "booleanComplementMatchesSpec", unfollowed := true, recurses := true, plainKeys := false, apart := false, narrowed := true }
def BooleanComplementMatchesSpecUptoSaid : Prop := booleanComplementMatchesSpecUptoRow.holds Try.pinned (OpenSpec.upto booleanComplementMatchesSpecSpec)

/-- 'glosswrightlaw5.BooleanAcceptsWords', WHERE WHAT IT READS IS OF BULK AT MOST 1048576: true; the input reads as it did. -/
def booleanAcceptsWordsUptoRow : OpenClaim := { program := "ytopakcbhodnipaa", sum := "310595bad5f1ec30b7b0c740cf013d50d8dcb6b7df94ece9e8145c776166a443", func := "glosswright/glosswrightlaw5.BooleanAcceptsWords", spec := "booleanAcceptsWords", unfollowed := true, recurses := true, plainKeys := false, apart := false, narrowed := true }
def BooleanAcceptsWordsUptoSaid : Prop := booleanAcceptsWordsUptoRow.holds Try.pinned (OpenSpec.upto booleanAcceptsWordsSpec)

/-- 'glosswrightlaw5.BooleanSubtractIsIntersect', WHERE WHAT IT READS IS OF BULK AT MOST 1048576: true; the input reads as it did. -/
def booleanSubtractIsIntersectUptoRow : OpenClaim := { program := "ytopakcbhodnipaa", sum := "310595bad5f1ec30b7b0c740cf013d50d8dcb6b7df94ece9e8145c776166a443", func := "glosswright/glosswrightlaw5.BooleanSubtractIsIntersect", spec := "booleanSubtractIsIntersect", unfollowed := true, recurses := true, plainKeys := false, apart := false, narrowed := true }
def BooleanSubtractIsIntersectUptoSaid : Prop := booleanSubtractIsIntersectUptoRow.holds Try.pinned (OpenSpec.upto booleanSubtractIsIntersectSpec)

/-- 'glosswrightlaw5.BooleanComplementTurnsTwice', WHERE WHAT IT READS IS OF BULK AT MOST 1048576: true; the input reads as it did. -/
def booleanComplementTurnsTwiceUptoRow : OpenClaim := { program := "ytopakcbhodnipaa", sum := "310595bad5f1ec30b7b0c740cf013d50d8dcb6b7df94ece9e8145c776166a443", func := "glosswright/glosswrightlaw5.BooleanComplementTurnsTwice", spec := "booleanComplementTurnsTwice", unfollowed := true, recurses := true, plainKeys := false, apart := false, narrowed := true }
def BooleanComplementTurnsTwiceUptoSaid : Prop := booleanComplementTurnsTwiceUptoRow.holds Try.pinned (OpenSpec.upto booleanComplementTurnsTwiceSpec)

end Rows
end Go.Proofs.Ytopakcbhodnipaa
