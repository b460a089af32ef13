/-
  No cell of these rows narrows 'for every input' (looked for: loops, veiled, ifaces, maps, wideKeys, modest, calm, conditions, laid).
  DERIVED. THE GIVEN ROWS OF THIS SEAT. 7 by the template 'for every input the law returns true; each argument reads behind the call as it read before'; 0 by the template 'total and deterministic' (their statements: YtkfdhpbnphojoaaTotals.lean).
  GIVEN WITH THE SEED: the statements are not yours to turn. If you find one false, say at which input.
  Laid BY PROGRAM, IN A SANDBOX (cutbox-rows.mjs): the forced cells as the released guide's own fill.sh prints them over the translation 47830c91968b15ae… (all of the seat's roots in one cut). By AI agents, Wed Nov 11 2026. No macro, syntax, notation, axiom, sorry.
-/
import Derived.Test.YtkfdhpbnphojoaaChecked
import GoSem.Claim
import GoSem.ClaimJoined
import GoSem.ClaimMapViews
import Derived.JoinedTies
import Derived.KernelRfl
namespace Go.Proofs.Ytkfdhpbnphojoaa
/- THE CELL 'sum', in the pinned program and in every row, IS THE sha256 OF THE DUMP (.gsa) THAT YtkfdhpbnphojoaaProg.lean LOADS. Nothing in Lean hashes anything: it is a label: what it is worth is what the hold of that sum in a sandbox is worth. -/
noncomputable def Try.pinned : Pinned := { name := "ytkfdhpbnphojoaa", sum := "47830c91968b15aedc1834c2a1e7c728a02e6234ac0481b03eed55c89b5a8a51", checked := Try.checked }
namespace Rows
def none {H : Type} : Left H := { results := [], args := [] }

/-- 'glosswrightlaw5.DetermEquivalentMatchesSpec': WHATEVER THE INPUT: true; the input reads as it did. -/
def determEquivalentMatchesSpecSpec : ChangeSpec := { name := "determEquivalentMatchesSpec", fn := fun _ => fun
  | [d1, d2] => { results := [.lit (.bool true)], args := [d1, d2] }
  | _ => none }
def determEquivalentMatchesSpecRow : OpenClaim := { program := "ytkfdhpbnphojoaa", sum := "47830c91968b15aedc1834c2a1e7c728a02e6234ac0481b03eed55c89b5a8a51", func := "glosswright/glosswrightlaw5.DetermEquivalentMatchesSpec", spec := "determEquivalentMatchesSpec", unfollowed := true, recurses := true, plainKeys := false, apart := false }
def DetermEquivalentMatchesSpecSaid : Prop := determEquivalentMatchesSpecRow.holds Try.pinned (OpenSpec.ofChange determEquivalentMatchesSpecSpec)

/-- ITS FALSE NEIGHBOUR: 'it returns false'. Refute it at one input. -/
def determEquivalentMatchesSpecWrong : ChangeSpec := { name := "determEquivalentMatchesSpec", fn := fun _ => fun
  | [d1, d2] => { results := [.lit (.bool false)], args := [d1, d2] }
  | _ => none }
def DetermEquivalentMatchesSpecWrongFalsely : Prop := determEquivalentMatchesSpecRow.holds Try.pinned (OpenSpec.ofChange determEquivalentMatchesSpecWrong)

/-- 'glosswrightlaw5.DetermLeastIsUnique': WHATEVER THE INPUT: true; the input reads as it did. -/
def determLeastIsUniqueSpec : ChangeSpec := { name := "determLeastIsUnique", fn := fun _ => fun
  | [d1, d2] => { results := [.lit (.bool true)], args := [d1, d2] }
  | _ => none }
def determLeastIsUniqueRow : OpenClaim := { program := "ytkfdhpbnphojoaa", sum := "47830c91968b15aedc1834c2a1e7c728a02e6234ac0481b03eed55c89b5a8a51", func := "glosswright/glosswrightlaw5.DetermLeastIsUnique", spec := "determLeastIsUnique", unfollowed := true, recurses := true, plainKeys := false, apart := false }
def DetermLeastIsUniqueSaid : Prop := determLeastIsUniqueRow.holds Try.pinned (OpenSpec.ofChange determLeastIsUniqueSpec)

/-- ITS FALSE NEIGHBOUR: 'it returns false'. Refute it at one input. -/
def determLeastIsUniqueWrong : ChangeSpec := { name := "determLeastIsUnique", fn := fun _ => fun
  | [d1, d2] => { results := [.lit (.bool false)], args := [d1, d2] }
  | _ => none }
def DetermLeastIsUniqueWrongFalsely : Prop := determLeastIsUniqueRow.holds Try.pinned (OpenSpec.ofChange determLeastIsUniqueWrong)

/-- 'glosswrightlaw5.BooleanMatchesSpec': WHATEVER THE INPUT: true; the input reads as it did. -/
def booleanMatchesSpecSpec : ChangeSpec := { name := "booleanMatchesSpec", fn := fun _ => fun
  | [d1, d2] => { results := [.lit (.bool true)], args := [d1, d2] }
  | _ => none }
def booleanMatchesSpecRow : OpenClaim := { program := "ytkfdhpbnphojoaa", sum := "47830c91968b15aedc1834c2a1e7c728a02e6234ac0481b03eed55c89b5a8a51", func := "glosswright/glosswrightlaw5.BooleanMatchesSpec", spec := "booleanMatchesSpec", unfollowed := true, recurses := true, plainKeys := false, apart := false }
def BooleanMatchesSpecSaid : Prop := booleanMatchesSpecRow.holds Try.pinned (OpenSpec.ofChange booleanMatchesSpecSpec)

/-- ITS FALSE NEIGHBOUR: 'it returns false'. Refute it at one input. -/
def booleanMatchesSpecWrong : ChangeSpec := { name := "booleanMatchesSpec", fn := fun _ => fun
  | [d1, d2] => { results := [.lit (.bool false)], args := [d1, d2] }
  | _ => none }
def BooleanMatchesSpecWrongFalsely : Prop := booleanMatchesSpecRow.holds Try.pinned (OpenSpec.ofChange booleanMatchesSpecWrong)

/-- 'glosswrightlaw5.BooleanComplementMatchesSpec': WHATEVER THE INPUT: true; the input reads as it did. -/
def booleanComplementMatchesSpecSpec : ChangeSpec := { name := "booleanComplementMatchesSpec", fn := fun _ => fun
  | [d1, d2] => { results := [.lit (.bool true)], args := [d1, d2] }
  | _ => none }
def booleanComplementMatchesSpecRow : OpenClaim := { program := "ytkfdhpbnphojoaa", sum := "47830c91968b15aedc1834c2a1e7c728a02e6234ac0481b03eed55c89b5a8a51", func := "glosswright/glosswrightlaw5.BooleanComplementMatchesSpec", spec := "booleanComplementMatchesSpec", unfollowed := true, recurses := true, plainKeys := false, apart := false }
def BooleanComplementMatchesSpecSaid : Prop := booleanComplementMatchesSpecRow.holds Try.pinned (OpenSpec.ofChange booleanComplementMatchesSpecSpec)

/-- ITS FALSE NEIGHBOUR: 'it returns false'. Refute it at one input. -/
def booleanComplementMatchesSpecWrong : ChangeSpec := { name := "booleanComplementMatchesSpec", fn := fun _ => fun
  | [d1, d2] => { results := [.lit (.bool false)], args := [d1, d2] }
  | _ => none }
def BooleanComplementMatchesSpecWrongFalsely : Prop := booleanComplementMatchesSpecRow.holds Try.pinned (OpenSpec.ofChange booleanComplementMatchesSpecWrong)

/-- 'glosswrightlaw5.BooleanComplementTurnsTwice': WHATEVER THE INPUT: true; the input reads as it did. -/
def booleanComplementTurnsTwiceSpec : ChangeSpec := { name := "booleanComplementTurnsTwice", fn := fun _ => fun
  | [d1, d2] => { results := [.lit (.bool true)], args := [d1, d2] }
  | _ => none }
def booleanComplementTurnsTwiceRow : OpenClaim := { program := "ytkfdhpbnphojoaa", sum := "47830c91968b15aedc1834c2a1e7c728a02e6234ac0481b03eed55c89b5a8a51", func := "glosswright/glosswrightlaw5.BooleanComplementTurnsTwice", spec := "booleanComplementTurnsTwice", unfollowed := true, recurses := true, plainKeys := false, apart := false }
def BooleanComplementTurnsTwiceSaid : Prop := booleanComplementTurnsTwiceRow.holds Try.pinned (OpenSpec.ofChange booleanComplementTurnsTwiceSpec)

/-- ITS FALSE NEIGHBOUR: 'it returns false'. Refute it at one input. -/
def booleanComplementTurnsTwiceWrong : ChangeSpec := { name := "booleanComplementTurnsTwice", fn := fun _ => fun
  | [d1, d2] => { results := [.lit (.bool false)], args := [d1, d2] }
  | _ => none }
def BooleanComplementTurnsTwiceWrongFalsely : Prop := booleanComplementTurnsTwiceRow.holds Try.pinned (OpenSpec.ofChange booleanComplementTurnsTwiceWrong)

/-- 'glosswrightlaw5.BooleanDeMorgan': WHATEVER THE INPUT: true; the input reads as it did. -/
def booleanDeMorganSpec : ChangeSpec := { name := "booleanDeMorgan", fn := fun _ => fun
  | [d1, d2] => { results := [.lit (.bool true)], args := [d1, d2] }
  | _ => none }
def booleanDeMorganRow : OpenClaim := { program := "ytkfdhpbnphojoaa", sum := "47830c91968b15aedc1834c2a1e7c728a02e6234ac0481b03eed55c89b5a8a51", func := "glosswright/glosswrightlaw5.BooleanDeMorgan", spec := "booleanDeMorgan", unfollowed := true, recurses := true, plainKeys := false, apart := false }
def BooleanDeMorganSaid : Prop := booleanDeMorganRow.holds Try.pinned (OpenSpec.ofChange booleanDeMorganSpec)

/-- ITS FALSE NEIGHBOUR: 'it returns false'. Refute it at one input. -/
def booleanDeMorganWrong : ChangeSpec := { name := "booleanDeMorgan", fn := fun _ => fun
  | [d1, d2] => { results := [.lit (.bool false)], args := [d1, d2] }
  | _ => none }
def BooleanDeMorganWrongFalsely : Prop := booleanDeMorganRow.holds Try.pinned (OpenSpec.ofChange booleanDeMorganWrong)

/-- 'glosswrightlaw5.BooleanPartsJoin': WHATEVER THE INPUT: true; the input reads as it did. -/
def booleanPartsJoinSpec : ChangeSpec := { name := "booleanPartsJoin", fn := fun _ => fun
  | [d1, d2] => { results := [.lit (.bool true)], args := [d1, d2] }
  | _ => none }
def booleanPartsJoinRow : OpenClaim := { program := "ytkfdhpbnphojoaa", sum := "47830c91968b15aedc1834c2a1e7c728a02e6234ac0481b03eed55c89b5a8a51", func := "glosswright/glosswrightlaw5.BooleanPartsJoin", spec := "booleanPartsJoin", unfollowed := true, recurses := true, plainKeys := false, apart := false }
def BooleanPartsJoinSaid : Prop := booleanPartsJoinRow.holds Try.pinned (OpenSpec.ofChange booleanPartsJoinSpec)

/-- ITS FALSE NEIGHBOUR: 'it returns false'. Refute it at one input. -/
def booleanPartsJoinWrong : ChangeSpec := { name := "booleanPartsJoin", fn := fun _ => fun
  | [d1, d2] => { results := [.lit (.bool false)], args := [d1, d2] }
  | _ => none }
def BooleanPartsJoinWrongFalsely : Prop := booleanPartsJoinRow.holds Try.pinned (OpenSpec.ofChange booleanPartsJoinWrong)

/- THE SECOND FORM. 'bulk': how many values and letters a reading holds, each counted each time it is reached (what is shared counts as often as it is met; a slice's spare places count too). A statement '..UptoSaid' is the law's where the arguments, and the package variables that the reading takes, are together of bulk at most 1048576: NARROWER than '..Said'. Prove '..Said' where nothing that the law and all that it calls make is longer than what came in: it says more and counts as full. Else prove '..UptoSaid'. A law counts once. -/
mutual
def uptoBulk {H : Type} : DataW H → Nat
  | .lit (.string bytes) => bytes.length + 1
  | .lit _ => 1
  | .nil => 1
  | .ptr d => uptoBulk d + 1
  | .slice elems spare => uptoBulkAll elems + uptoBulkAll spare + 1
  | .agg parts => uptoBulkAll parts + 1
  | .iface _ d => uptoBulk d + 1
  | .map entries => uptoBulkEntries entries + 1
  | .held _ => 1
def uptoBulkAll {H : Type} : List (DataW H) → Nat
  | [] => 0
  | d :: r => uptoBulk d + uptoBulkAll r
def uptoBulkEntries {H : Type} : List (Lit × DataW H) → Nat
  | [] => 0
  | x :: r => uptoBulkEntry x + uptoBulkEntries r
def uptoBulkEntry {H : Type} : Lit × DataW H → Nat
  | (.string bytes, d) => bytes.length + uptoBulk d + 1
  | (_, d) => uptoBulk d + 1
 end
def uptoSmall : (H : Type) → List (DataW H) → Bool := fun _ ds => decide (uptoBulkAll ds ≤ 1048576)
def OpenSpec.upto (s : _root_.Go.ChangeSpec) : _root_.Go.OpenSpec := { _root_.Go.OpenSpec.ofChange s with cond := some uptoSmall }

/-- 'glosswrightlaw5.DetermEquivalentMatchesSpec', WHERE WHAT IT READS IS OF BULK AT MOST 1048576: true; the input reads as it did. -/
def determEquivalentMatchesSpecUptoRow : OpenClaim := { program := "ytkfdhpbnphojoaa", sum := "47830c91968b15aedc1834c2a1e7c728a02e6234ac0481b03eed55c89b5a8a51", func := "glosswright/glosswrightlaw5.DetermEquivalentMatchesSpec", spec := "determEquivalentMatchesSpec", unfollowed := true, recurses := true, plainKeys := false, apart := false, narrowed := true }
def DetermEquivalentMatchesSpecUptoSaid : Prop := determEquivalentMatchesSpecUptoRow.holds Try.pinned (OpenSpec.upto determEquivalentMatchesSpecSpec)

/-- 'glosswrightlaw5.DetermLeastIsUnique', WHERE WHAT IT READS IS OF BULK AT MOST 1048576: true; the input reads as it did. -/
def determLeastIsUniqueUptoRow : OpenClaim := { program := "ytkfdhpbnphojoaa", sum := "47830c91968b15aedc1834c2a1e7c728a02e6234ac0481b03eed55c89b5a8a51", func := "glosswright/glosswrightlaw5.DetermLeastIsUnique", spec := "determLeastIsUnique", unfollowed := true, recurses := true, plainKeys := false, apart := false, narrowed := true }
def DetermLeastIsUniqueUptoSaid : Prop := determLeastIsUniqueUptoRow.holds Try.pinned (OpenSpec.upto determLeastIsUniqueSpec)

/-- 'glosswrightlaw5.BooleanMatchesSpec', WHERE WHAT IT READS IS OF BULK AT MOST 1048576: true; the input reads as it did. -/
def booleanMatchesSpecUptoRow : OpenClaim := { program := "ytkfdhpbnphojoaa", sum := "47830c91968b15aedc1834c2a1e7c728a02e6234ac0481b03eed55c89b5a8a51", func := "glosswright/glosswrightlaw5.BooleanMatchesSpec", spec := "booleanMatchesSpec", unfollowed := true, recurses := true, plainKeys := false, apart := false, narrowed := true }
def BooleanMatchesSpecUptoSaid : Prop := booleanMatchesSpecUptoRow.holds Try.pinned (OpenSpec.upto booleanMatchesSpecSpec)

/-- 'glosswrightlaw5.BooleanComplementMatchesSpec', WHERE WHAT IT READS IS OF BULK AT MOST 1048576: true; the input reads as it did. -/
def booleanComplementMatchesSpecUptoRow : OpenClaim := { program := "ytkfdhpbnphojoaa", sum := "47830c91968b15aedc1834c2a1e7c728a02e6234ac0481b03eed55c89b5a8a51", func := "glosswright/glosswrightlaw5.BooleanComplementMatchesSpec", spec := "booleanComplementMatchesSpec", unfollowed := true, recurses := true, plainKeys := false, apart := false, narrowed := true }
def BooleanComplementMatchesSpecUptoSaid : Prop := booleanComplementMatchesSpecUptoRow.holds Try.pinned (OpenSpec.upto booleanComplementMatchesSpecSpec)

/-- 'glosswrightlaw5.BooleanComplementTurnsTwice', WHERE WHAT IT READS IS OF BULK AT MOST 1048576: true; the input reads as it did. -/
def booleanComplementTurnsTwiceUptoRow : OpenClaim := { program := "ytkfdhpbnphojoaa", sum := "47830c91968b15aedc1834c2a1e7c728a02e6234ac0481b03eed55c89b5a8a51", func := "glosswright/glosswrightlaw5.BooleanComplementTurnsTwice", spec := "booleanComplementTurnsTwice", unfollowed := true, recurses := true, plainKeys := false, apart := false, narrowed := true }
def BooleanComplementTurnsTwiceUptoSaid : Prop := booleanComplementTurnsTwiceUptoRow.holds Try.pinned (OpenSpec.upto booleanComplementTurnsTwiceSpec)

/-- 'glosswrightlaw5.BooleanDeMorgan', WHERE WHAT IT READS IS OF BULK AT MOST 1048576: true; the input reads as it did. -/
def booleanDeMorganUptoRow : OpenClaim := { program := "ytkfdhpbnphojoaa", sum := "47830c91968b15aedc1834c2a1e7c728a02e6234ac0481b03eed55c89b5a8a51", func := "glosswright/glosswrightlaw5.BooleanDeMorgan", spec := "booleanDeMorgan", unfollowed := true, recurses := true, plainKeys := false, apart := false, narrowed := true }
def BooleanDeMorganUptoSaid : Prop := booleanDeMorganUptoRow.holds Try.pinned (OpenSpec.upto booleanDeMorganSpec)

/-- 'glosswrightlaw5.BooleanPartsJoin', WHERE WHAT IT READS IS OF BULK AT MOST 1048576: true; the input reads as it did. -/
def booleanPartsJoinUptoRow : OpenClaim := { program := "ytkfdhpbnphojoaa", sum := "47830c91968b15aedc1834c2a1e7c728a02e6234ac0481b03eed55c89b5a8a51", func := "glosswright/glosswrightlaw5.BooleanPartsJoin", spec := "booleanPartsJoin", unfollowed := true, recurses := true, plainKeys := false, apart := false, narrowed := true }
def BooleanPartsJoinUptoSaid : Prop := booleanPartsJoinUptoRow.holds Try.pinned (OpenSpec.upto booleanPartsJoinSpec)

end Rows
end Go.Proofs.Ytkfdhpbnphojoaa
