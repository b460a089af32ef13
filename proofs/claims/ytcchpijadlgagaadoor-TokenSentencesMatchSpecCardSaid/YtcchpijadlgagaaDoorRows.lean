/-
  NARROWER THAN 'FOR EVERY INPUT', by the rows' own cells (each row's printed sentence says how): TokenJoinMatchesSpec: laid · TokenJoinedIsCut: laid · TokenTokensStandAlone: laid · TokenSentencesMatchSpec: laid · TokenSentencesPartition: laid.
  DERIVED. THE GIVEN ROWS OF THIS SEAT. 5 by the template 'for every input the law returns true; each argument reads behind the call as it read before'; 0 by the template 'total and deterministic' (their statements: YtcchpijadlgagaaDoorTotals.lean).
  GIVEN WITH THE SEED: the statements are not yours to turn. If you find one false, say at which input.
  Laid BY PROGRAM, IN A SANDBOX (cutbox-rows.mjs): the forced cells as the released guide's own fill.sh prints them over the translation cfed1fe67a93227c… (all of the seat's roots in one cut). By AI agents, Wed Nov 11 2026. No macro, syntax, notation, axiom, sorry.
-/
import Derived.Test.YtcchpijadlgagaaDoorChecked
import GoSem.PinnedTables
import GoSem.Claim
import GoSem.ClaimJoined
import GoSem.ClaimMapViews
import Derived.JoinedTies
import Derived.KernelRfl
namespace Go.Proofs.YtcchpijadlgagaaDoor
/- THE CELL 'sum', in the pinned program and in every row, IS THE sha256 OF THE DUMP (.gsa) THAT YtcchpijadlgagaaDoorProg.lean LOADS. Nothing in Lean hashes anything: it is a label: what it is worth is what the hold of that sum in a sandbox is worth. -/
noncomputable def Tryd.pinned : Pinned := { name := "ytcchpijadlgagaadoor", sum := "cfed1fe67a93227c01ddc6039a9509ad95f49de4dabe09842facc74e115104a5", checked := Tryd.checked }
namespace Rows
def none {H : Type} : Left H := { results := [], args := [] }

/- WHAT THE LISTED PACKAGE-LEVEL VARIABLES READ AS WHEN THE CALL BEGINS. Each datum BY PROGRAM (the guide's laid-datum.mjs) off the statement by which the dump's own 'gosem.cut.vars' lays the variable. In a bare row this is a premise. The card (YtcchpijadlgagaaDoorCards.lean) ties it to the program's text. -/
def laid_unicode_utf8_acceptRanges {H : Type} : DataW H := .agg [.agg [.lit (.int .u8 128), .lit (.int .u8 191)], .agg [.lit (.int .u8 160), .lit (.int .u8 191)], .agg [.lit (.int .u8 128), .lit (.int .u8 159)], .agg [.lit (.int .u8 144), .lit (.int .u8 191)], .agg [.lit (.int .u8 128), .lit (.int .u8 143)], .agg [.lit (.int .u8 0), .lit (.int .u8 0)], .agg [.lit (.int .u8 0), .lit (.int .u8 0)], .agg [.lit (.int .u8 0), .lit (.int .u8 0)], .agg [.lit (.int .u8 0), .lit (.int .u8 0)], .agg [.lit (.int .u8 0), .lit (.int .u8 0)], .agg [.lit (.int .u8 0), .lit (.int .u8 0)], .agg [.lit (.int .u8 0), .lit (.int .u8 0)], .agg [.lit (.int .u8 0), .lit (.int .u8 0)], .agg [.lit (.int .u8 0), .lit (.int .u8 0)], .agg [.lit (.int .u8 0), .lit (.int .u8 0)], .agg [.lit (.int .u8 0), .lit (.int .u8 0)]]
/-- One of Go's own tables, pinned by name: the form's constant. -/
def laid_unicode_utf8_first : DataW Unit := Go.Pinned.utf8First

/-- 'glosswrightlaw5.TokenJoinMatchesSpec': WHATEVER THE INPUT: true; the input reads as it did. -/
def tokenJoinMatchesSpecSpec : ChangeSpec := { name := "tokenJoinMatchesSpec", fn := fun _ => fun
  | [d] => { results := [.lit (.bool true)], args := [d] }
  | _ => none }
def tokenJoinMatchesSpecRow : OpenClaim := { program := "ytcchpijadlgagaadoor", sum := "cfed1fe67a93227c01ddc6039a9509ad95f49de4dabe09842facc74e115104a5", func := "glosswright/glosswrightlaw5.TokenJoinMatchesSpec", spec := "tokenJoinMatchesSpec", inPlace := ["internal/abi.NoEscape", "internal/bytealg.MakeNoZero"], unfollowed := true, recurses := true, named := ["unicode/utf8.first", "unicode/utf8.acceptRanges"], apart := false, laid := [("unicode/utf8.acceptRanges", laid_unicode_utf8_acceptRanges), ("unicode/utf8.first", laid_unicode_utf8_first)] }
def TokenJoinMatchesSpecSaid : Prop := tokenJoinMatchesSpecRow.holds Tryd.pinned (OpenSpec.ofChange tokenJoinMatchesSpecSpec)

/-- ITS FALSE NEIGHBOUR: 'it returns false'. Refute it at one input. -/
def tokenJoinMatchesSpecWrong : ChangeSpec := { name := "tokenJoinMatchesSpec", fn := fun _ => fun
  | [d] => { results := [.lit (.bool false)], args := [d] }
  | _ => none }
def TokenJoinMatchesSpecWrongFalsely : Prop := tokenJoinMatchesSpecRow.holds Tryd.pinned (OpenSpec.ofChange tokenJoinMatchesSpecWrong)

/-- 'glosswrightlaw5.TokenJoinedIsCut': WHATEVER THE INPUT: true; the input reads as it did. -/
def tokenJoinedIsCutSpec : ChangeSpec := { name := "tokenJoinedIsCut", fn := fun _ => fun
  | [d] => { results := [.lit (.bool true)], args := [d] }
  | _ => none }
def tokenJoinedIsCutRow : OpenClaim := { program := "ytcchpijadlgagaadoor", sum := "cfed1fe67a93227c01ddc6039a9509ad95f49de4dabe09842facc74e115104a5", func := "glosswright/glosswrightlaw5.TokenJoinedIsCut", spec := "tokenJoinedIsCut", inPlace := ["internal/abi.NoEscape", "internal/bytealg.MakeNoZero"], unfollowed := true, recurses := true, named := ["unicode/utf8.first", "unicode/utf8.acceptRanges"], apart := false, laid := [("unicode/utf8.acceptRanges", laid_unicode_utf8_acceptRanges), ("unicode/utf8.first", laid_unicode_utf8_first)] }
def TokenJoinedIsCutSaid : Prop := tokenJoinedIsCutRow.holds Tryd.pinned (OpenSpec.ofChange tokenJoinedIsCutSpec)

/-- ITS FALSE NEIGHBOUR: 'it returns false'. Refute it at one input. -/
def tokenJoinedIsCutWrong : ChangeSpec := { name := "tokenJoinedIsCut", fn := fun _ => fun
  | [d] => { results := [.lit (.bool false)], args := [d] }
  | _ => none }
def TokenJoinedIsCutWrongFalsely : Prop := tokenJoinedIsCutRow.holds Tryd.pinned (OpenSpec.ofChange tokenJoinedIsCutWrong)

/-- 'glosswrightlaw5.TokenTokensStandAlone': WHATEVER THE INPUT: true; the input reads as it did. -/
def tokenTokensStandAloneSpec : ChangeSpec := { name := "tokenTokensStandAlone", fn := fun _ => fun
  | [d] => { results := [.lit (.bool true)], args := [d] }
  | _ => none }
def tokenTokensStandAloneRow : OpenClaim := { program := "ytcchpijadlgagaadoor", sum := "cfed1fe67a93227c01ddc6039a9509ad95f49de4dabe09842facc74e115104a5", func := "glosswright/glosswrightlaw5.TokenTokensStandAlone", spec := "tokenTokensStandAlone", inPlace := ["internal/abi.NoEscape", "internal/bytealg.MakeNoZero"], unfollowed := true, recurses := true, named := ["unicode/utf8.first", "unicode/utf8.acceptRanges"], apart := false, laid := [("unicode/utf8.acceptRanges", laid_unicode_utf8_acceptRanges), ("unicode/utf8.first", laid_unicode_utf8_first)] }
def TokenTokensStandAloneSaid : Prop := tokenTokensStandAloneRow.holds Tryd.pinned (OpenSpec.ofChange tokenTokensStandAloneSpec)

/-- ITS FALSE NEIGHBOUR: 'it returns false'. Refute it at one input. -/
def tokenTokensStandAloneWrong : ChangeSpec := { name := "tokenTokensStandAlone", fn := fun _ => fun
  | [d] => { results := [.lit (.bool false)], args := [d] }
  | _ => none }
def TokenTokensStandAloneWrongFalsely : Prop := tokenTokensStandAloneRow.holds Tryd.pinned (OpenSpec.ofChange tokenTokensStandAloneWrong)

/-- 'glosswrightlaw5.TokenSentencesMatchSpec': WHATEVER THE INPUT: true; the input reads as it did. -/
def tokenSentencesMatchSpecSpec : ChangeSpec := { name := "tokenSentencesMatchSpec", fn := fun _ => fun
  | [d] => { results := [.lit (.bool true)], args := [d] }
  | _ => none }
def tokenSentencesMatchSpecRow : OpenClaim := { program := "ytcchpijadlgagaadoor", sum := "cfed1fe67a93227c01ddc6039a9509ad95f49de4dabe09842facc74e115104a5", func := "glosswright/glosswrightlaw5.TokenSentencesMatchSpec", spec := "tokenSentencesMatchSpec", unfollowed := true, recurses := true, named := ["unicode/utf8.first", "unicode/utf8.acceptRanges"], apart := false, laid := [("unicode/utf8.acceptRanges", laid_unicode_utf8_acceptRanges), ("unicode/utf8.first", laid_unicode_utf8_first)] }
def TokenSentencesMatchSpecSaid : Prop := tokenSentencesMatchSpecRow.holds Tryd.pinned (OpenSpec.ofChange tokenSentencesMatchSpecSpec)

/-- ITS FALSE NEIGHBOUR: 'it returns false'. Refute it at one input. -/
def tokenSentencesMatchSpecWrong : ChangeSpec := { name := "tokenSentencesMatchSpec", fn := fun _ => fun
  | [d] => { results := [.lit (.bool false)], args := [d] }
  | _ => none }
def TokenSentencesMatchSpecWrongFalsely : Prop := tokenSentencesMatchSpecRow.holds Tryd.pinned (OpenSpec.ofChange tokenSentencesMatchSpecWrong)

/-- 'glosswrightlaw5.TokenSentencesPartition': WHATEVER THE INPUT: true; the input reads as it did. -/
def tokenSentencesPartitionSpec : ChangeSpec := { name := "tokenSentencesPartition", fn := fun _ => fun
  | [d] => { results := [.lit (.bool true)], args := [d] }
  | _ => none }
def tokenSentencesPartitionRow : OpenClaim := { program := "ytcchpijadlgagaadoor", sum := "cfed1fe67a93227c01ddc6039a9509ad95f49de4dabe09842facc74e115104a5", func := "glosswright/glosswrightlaw5.TokenSentencesPartition", spec := "tokenSentencesPartition", unfollowed := true, recurses := true, named := ["unicode/utf8.first", "unicode/utf8.acceptRanges"], apart := false, laid := [("unicode/utf8.acceptRanges", laid_unicode_utf8_acceptRanges), ("unicode/utf8.first", laid_unicode_utf8_first)] }
def TokenSentencesPartitionSaid : Prop := tokenSentencesPartitionRow.holds Tryd.pinned (OpenSpec.ofChange tokenSentencesPartitionSpec)

/-- ITS FALSE NEIGHBOUR: 'it returns false'. Refute it at one input. -/
def tokenSentencesPartitionWrong : ChangeSpec := { name := "tokenSentencesPartition", fn := fun _ => fun
  | [d] => { results := [.lit (.bool false)], args := [d] }
  | _ => none }
def TokenSentencesPartitionWrongFalsely : Prop := tokenSentencesPartitionRow.holds Tryd.pinned (OpenSpec.ofChange tokenSentencesPartitionWrong)

/- THE SECOND FORM. 'bulk': how many values and letters a reading holds, each counted each time it is reached (what is shared counts as often as it is met; a slice's spare places count too). A statement '..UptoSaid' is the law's where the arguments, and the package variables that the reading takes, are together of bulk at most 1048576: NARROWER than '..Said'. Prove '..Said' where nothing that the law and all that it calls make is longer than what came in: it says more and counts as full. Else prove '..UptoSaid'. A law counts once. -/
mutual
def uptoBulk {H : Type} : DataW H → Nat
  | .lit (.string bytes) => bytes.length + 1
  | .lit _ => 1
  | .nil => 1
  | .ptr d => uptoBulk d + 1
  | .slice elems spare => uptoBulkAll elems + uptoBulkAll spare + 1
  | .agg parts => uptoBulkAll parts + 1
  | .iface _ d => uptoBulk d + 1
  | .map entries => uptoBulkEntries entries + 1
  | .held _ => 1
def uptoBulkAll {H : Type} : List (DataW H) → Nat
  | [] => 0
  | d :: r => uptoBulk d + uptoBulkAll r
def uptoBulkEntries {H : Type} : List (Lit × DataW H) → Nat
  | [] => 0
  | x :: r => uptoBulkEntry x + uptoBulkEntries r
def uptoBulkEntry {H : Type} : Lit × DataW H → Nat
  | (.string bytes, d) => bytes.length + uptoBulk d + 1
  | (_, d) => uptoBulk d + 1
 end
def uptoSmall : (H : Type) → List (DataW H) → Bool := fun _ ds => decide (uptoBulkAll ds ≤ 1048576)
def OpenSpec.upto (s : _root_.Go.ChangeSpec) : _root_.Go.OpenSpec := { _root_.Go.OpenSpec.ofChange s with cond := some uptoSmall }

/-- 'glosswrightlaw5.TokenJoinMatchesSpec', WHERE WHAT IT READS IS OF BULK AT MOST 1048576: true; the input reads as it did. -/
def tokenJoinMatchesSpecUptoRow : OpenClaim := { program := "ytcchpijadlgagaadoor", sum := "cfed1fe67a93227c01ddc6039a9509ad95f49de4dabe09842facc74e115104a5", func := "glosswright/glosswrightlaw5.TokenJoinMatchesSpec", spec := "tokenJoinMatchesSpec", inPlace := ["internal/abi.NoEscape", "internal/bytealg.MakeNoZero"], unfollowed := true, recurses := true, named := ["unicode/utf8.first", "unicode/utf8.acceptRanges"], apart := false, laid := [("unicode/utf8.acceptRanges", laid_unicode_utf8_acceptRanges), ("unicode/utf8.first", laid_unicode_utf8_first)], narrowed := true }
def TokenJoinMatchesSpecUptoSaid : Prop := tokenJoinMatchesSpecUptoRow.holds Tryd.pinned (OpenSpec.upto tokenJoinMatchesSpecSpec)

/-- 'glosswrightlaw5.TokenJoinedIsCut', WHERE WHAT IT READS IS OF BULK AT MOST 1048576: true; the input reads as it did. -/
def tokenJoinedIsCutUptoRow : OpenClaim := { program := "ytcchpijadlgagaadoor", sum := "cfed1fe67a93227c01ddc6039a9509ad95f49de4dabe09842facc74e115104a5", func := "glosswright/glosswrightlaw5.TokenJoinedIsCut", spec := "tokenJoinedIsCut", inPlace := ["internal/abi.NoEscape", "internal/bytealg.MakeNoZero"], unfollowed := true, recurses := true, named := ["unicode/utf8.first", "unicode/utf8.acceptRanges"], apart := false, laid := [("unicode/utf8.acceptRanges", laid_unicode_utf8_acceptRanges), ("unicode/utf8.first", laid_unicode_utf8_first)], narrowed := true }
def TokenJoinedIsCutUptoSaid : Prop := tokenJoinedIsCutUptoRow.holds Tryd.pinned (OpenSpec.upto tokenJoinedIsCutSpec)

/-- 'glosswrightlaw5.TokenTokensStandAlone', WHERE WHAT IT READS IS OF BULK AT MOST 1048576: true; the input reads as it did. -/
def tokenTokensStandAloneUptoRow : OpenClaim := { program := "ytcchpijadlgagaadoor", sum := "cfed1fe67a93227c01ddc6039a9509ad95f49de4dabe09842facc74e115104a5", func := "glosswright/glosswrightlaw5.TokenTokensStandAlone", spec := "tokenTokensStandAlone", inPlace := ["internal/abi.NoEscape", "internal/bytealg.MakeNoZero"], unfollowed := true, recurses := true, named := ["unicode/utf8.first", "unicode/utf8.acceptRanges"], apart := false, laid := [("unicode/utf8.acceptRanges", laid_unicode_utf8_acceptRanges), ("unicode/utf8.first", laid_unicode_utf8_first)], narrowed := true }
def TokenTokensStandAloneUptoSaid : Prop := tokenTokensStandAloneUptoRow.holds Tryd.pinned (OpenSpec.upto tokenTokensStandAloneSpec)

/-- 'glosswrightlaw5.TokenSentencesMatchSpec', WHERE WHAT IT READS IS OF BULK AT MOST 1048576: true; the input reads as it did. -/
def tokenSentencesMatchSpecUptoRow : OpenClaim := { program := "ytcchpijadlgagaadoor", sum := "cfed1fe67a93227c01ddc6039a9509ad95f49de4dabe09842facc74e115104a5", func := "glosswright/glosswrightlaw5.TokenSentencesMatchSpec", spec := "tokenSentencesMatchSpec", unfollowed := true, recurses := true, named := ["unicode/utf8.first", "unicode/utf8.acceptRanges"], apart := false, laid := [("unicode/utf8.acceptRanges", laid_unicode_utf8_acceptRanges), ("unicode/utf8.first", laid_unicode_utf8_first)], narrowed := true }
def TokenSentencesMatchSpecUptoSaid : Prop := tokenSentencesMatchSpecUptoRow.holds Tryd.pinned (OpenSpec.upto tokenSentencesMatchSpecSpec)

/-- 'glosswrightlaw5.TokenSentencesPartition', WHERE WHAT IT READS IS OF BULK AT MOST 1048576: true; the input reads as it did. -/
def tokenSentencesPartitionUptoRow : OpenClaim := { program := "ytcchpijadlgagaadoor", sum := "cfed1fe67a93227c01ddc6039a9509ad95f49de4dabe09842facc74e115104a5", func := "glosswright/glosswrightlaw5.TokenSentencesPartition", spec := "tokenSentencesPartition", unfollowed := true, recurses := true, named := ["unicode/utf8.first", "unicode/utf8.acceptRanges"], apart := false, laid := [("unicode/utf8.acceptRanges", laid_unicode_utf8_acceptRanges), ("unicode/utf8.first", laid_unicode_utf8_first)], narrowed := true }
def TokenSentencesPartitionUptoSaid : Prop := tokenSentencesPartitionUptoRow.holds Tryd.pinned (OpenSpec.upto tokenSentencesPartitionSpec)

end Rows
end Go.Proofs.YtcchpijadlgagaaDoor
