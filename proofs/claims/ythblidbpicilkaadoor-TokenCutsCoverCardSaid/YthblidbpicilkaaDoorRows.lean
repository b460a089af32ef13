/-
  NARROWER THAN 'FOR EVERY INPUT', by the rows' own cells (each row's printed sentence says how): LettersCodeMatchesSpec: laid · LettersComeBack: laid · LettersClassMatchesSpec: laid · TokenCutMatchesSpec: laid · TokenCutsCover: laid · TokenJoinMatchesSpec: laid.
  DERIVED. THE GIVEN ROWS OF THIS SEAT. 6 by the template 'for every input the law returns true; each argument reads behind the call as it read before'; 0 by the template 'total and deterministic' (their statements: YthblidbpicilkaaDoorTotals.lean).
  GIVEN WITH THE SEED: the statements are not yours to turn. If you find one false, say at which input.
  Laid BY PROGRAM, IN A SANDBOX (cutbox-rows.mjs): the forced cells as the released guide's own fill.sh prints them over the translation 8ed81351b693dbee… (all of the seat's roots in one cut). By AI agents, Wed Nov 11 2026. No macro, syntax, notation, axiom, sorry.
-/
import Derived.Test.YthblidbpicilkaaDoorChecked
import GoSem.PinnedTables
import GoSem.Claim
import GoSem.ClaimJoined
import GoSem.ClaimMapViews
import Derived.JoinedTies
import Derived.KernelRfl
namespace Go.Proofs.YthblidbpicilkaaDoor
/- THE CELL 'sum', in the pinned program and in every row, IS THE sha256 OF THE DUMP (.gsa) THAT YthblidbpicilkaaDoorProg.lean LOADS. Nothing in Lean hashes anything: it is a label: what it is worth is what the hold of that sum in a sandbox is worth. -/
noncomputable def Tryd.pinned : Pinned := { name := "ythblidbpicilkaadoor", sum := "8ed81351b693dbeeafe5b7d619adb53bd6125e09f0e29c57c54035f8e9a2b677", checked := Tryd.checked }
namespace Rows
def none {H : Type} : Left H := { results := [], args := [] }

/- WHAT THE LISTED PACKAGE-LEVEL VARIABLES READ AS WHEN THE CALL BEGINS. Each datum BY PROGRAM (the guide's laid-datum.mjs) off the statement by which the dump's own 'gosem.cut.vars' lays the variable. In a bare row this is a premise. The card (YthblidbpicilkaaDoorCards.lean) ties it to the program's text. -/
def laid_unicode_utf8_acceptRanges {H : Type} : DataW H := .agg [.agg [.lit (.int .u8 128), .lit (.int .u8 191)], .agg [.lit (.int .u8 160), .lit (.int .u8 191)], .agg [.lit (.int .u8 128), .lit (.int .u8 159)], .agg [.lit (.int .u8 144), .lit (.int .u8 191)], .agg [.lit (.int .u8 128), .lit (.int .u8 143)], .agg [.lit (.int .u8 0), .lit (.int .u8 0)], .agg [.lit (.int .u8 0), .lit (.int .u8 0)], .agg [.lit (.int .u8 0), .lit (.int .u8 0)], .agg [.lit (.int .u8 0), .lit (.int .u8 0)], .agg [.lit (.int .u8 0), .lit (.int .u8 0)], .agg [.lit (.int .u8 0), .lit (.int .u8 0)], .agg [.lit (.int .u8 0), .lit (.int .u8 0)], .agg [.lit (.int .u8 0), .lit (.int .u8 0)], .agg [.lit (.int .u8 0), .lit (.int .u8 0)], .agg [.lit (.int .u8 0), .lit (.int .u8 0)], .agg [.lit (.int .u8 0), .lit (.int .u8 0)]]
/-- One of Go's own tables, pinned by name: the form's constant. -/
def laid_unicode_utf8_first : DataW Unit := Go.Pinned.utf8First

/-- 'glosswrightlaw5.LettersCodeMatchesSpec': WHATEVER THE INPUT: true; the input reads as it did. -/
def lettersCodeMatchesSpecSpec : ChangeSpec := { name := "lettersCodeMatchesSpec", fn := fun _ => fun
  | [d1, d2] => { results := [.lit (.bool true)], args := [d1, d2] }
  | _ => none }
def lettersCodeMatchesSpecRow : OpenClaim := { program := "ythblidbpicilkaadoor", sum := "8ed81351b693dbeeafe5b7d619adb53bd6125e09f0e29c57c54035f8e9a2b677", func := "glosswright/glosswrightlaw5.LettersCodeMatchesSpec", spec := "lettersCodeMatchesSpec", named := ["unicode/utf8.first", "unicode/utf8.acceptRanges"], apart := false, laid := [("unicode/utf8.acceptRanges", laid_unicode_utf8_acceptRanges), ("unicode/utf8.first", laid_unicode_utf8_first)] }
def LettersCodeMatchesSpecSaid : Prop := lettersCodeMatchesSpecRow.holds Tryd.pinned (OpenSpec.ofChange lettersCodeMatchesSpecSpec)

/-- ITS FALSE NEIGHBOUR: 'it returns false'. Refute it at one input. -/
def lettersCodeMatchesSpecWrong : ChangeSpec := { name := "lettersCodeMatchesSpec", fn := fun _ => fun
  | [d1, d2] => { results := [.lit (.bool false)], args := [d1, d2] }
  | _ => none }
def LettersCodeMatchesSpecWrongFalsely : Prop := lettersCodeMatchesSpecRow.holds Tryd.pinned (OpenSpec.ofChange lettersCodeMatchesSpecWrong)

/-- 'glosswrightlaw5.LettersComeBack': WHATEVER THE INPUT: true; the input reads as it did. -/
def lettersComeBackSpec : ChangeSpec := { name := "lettersComeBack", fn := fun _ => fun
  | [d1, d2] => { results := [.lit (.bool true)], args := [d1, d2] }
  | _ => none }
def lettersComeBackRow : OpenClaim := { program := "ythblidbpicilkaadoor", sum := "8ed81351b693dbeeafe5b7d619adb53bd6125e09f0e29c57c54035f8e9a2b677", func := "glosswright/glosswrightlaw5.LettersComeBack", spec := "lettersComeBack", named := ["unicode/utf8.first", "unicode/utf8.acceptRanges"], apart := false, laid := [("unicode/utf8.acceptRanges", laid_unicode_utf8_acceptRanges), ("unicode/utf8.first", laid_unicode_utf8_first)] }
def LettersComeBackSaid : Prop := lettersComeBackRow.holds Tryd.pinned (OpenSpec.ofChange lettersComeBackSpec)

/-- ITS FALSE NEIGHBOUR: 'it returns false'. Refute it at one input. -/
def lettersComeBackWrong : ChangeSpec := { name := "lettersComeBack", fn := fun _ => fun
  | [d1, d2] => { results := [.lit (.bool false)], args := [d1, d2] }
  | _ => none }
def LettersComeBackWrongFalsely : Prop := lettersComeBackRow.holds Tryd.pinned (OpenSpec.ofChange lettersComeBackWrong)

/-- 'glosswrightlaw5.LettersClassMatchesSpec': WHATEVER THE INPUT: true; the input reads as it did. -/
def lettersClassMatchesSpecSpec : ChangeSpec := { name := "lettersClassMatchesSpec", fn := fun _ => fun
  | [d1, d2] => { results := [.lit (.bool true)], args := [d1, d2] }
  | _ => none }
def lettersClassMatchesSpecRow : OpenClaim := { program := "ythblidbpicilkaadoor", sum := "8ed81351b693dbeeafe5b7d619adb53bd6125e09f0e29c57c54035f8e9a2b677", func := "glosswright/glosswrightlaw5.LettersClassMatchesSpec", spec := "lettersClassMatchesSpec", named := ["unicode/utf8.first", "unicode/utf8.acceptRanges"], apart := false, laid := [("unicode/utf8.acceptRanges", laid_unicode_utf8_acceptRanges), ("unicode/utf8.first", laid_unicode_utf8_first)] }
def LettersClassMatchesSpecSaid : Prop := lettersClassMatchesSpecRow.holds Tryd.pinned (OpenSpec.ofChange lettersClassMatchesSpecSpec)

/-- ITS FALSE NEIGHBOUR: 'it returns false'. Refute it at one input. -/
def lettersClassMatchesSpecWrong : ChangeSpec := { name := "lettersClassMatchesSpec", fn := fun _ => fun
  | [d1, d2] => { results := [.lit (.bool false)], args := [d1, d2] }
  | _ => none }
def LettersClassMatchesSpecWrongFalsely : Prop := lettersClassMatchesSpecRow.holds Tryd.pinned (OpenSpec.ofChange lettersClassMatchesSpecWrong)

/-- 'glosswrightlaw5.TokenCutMatchesSpec': WHATEVER THE INPUT: true; the input reads as it did. -/
def tokenCutMatchesSpecSpec : ChangeSpec := { name := "tokenCutMatchesSpec", fn := fun _ => fun
  | [d] => { results := [.lit (.bool true)], args := [d] }
  | _ => none }
def tokenCutMatchesSpecRow : OpenClaim := { program := "ythblidbpicilkaadoor", sum := "8ed81351b693dbeeafe5b7d619adb53bd6125e09f0e29c57c54035f8e9a2b677", func := "glosswright/glosswrightlaw5.TokenCutMatchesSpec", spec := "tokenCutMatchesSpec", unfollowed := true, recurses := true, named := ["unicode/utf8.first", "unicode/utf8.acceptRanges"], apart := false, laid := [("unicode/utf8.acceptRanges", laid_unicode_utf8_acceptRanges), ("unicode/utf8.first", laid_unicode_utf8_first)] }
def TokenCutMatchesSpecSaid : Prop := tokenCutMatchesSpecRow.holds Tryd.pinned (OpenSpec.ofChange tokenCutMatchesSpecSpec)

/-- ITS FALSE NEIGHBOUR: 'it returns false'. Refute it at one input. -/
def tokenCutMatchesSpecWrong : ChangeSpec := { name := "tokenCutMatchesSpec", fn := fun _ => fun
  | [d] => { results := [.lit (.bool false)], args := [d] }
  | _ => none }
def TokenCutMatchesSpecWrongFalsely : Prop := tokenCutMatchesSpecRow.holds Tryd.pinned (OpenSpec.ofChange tokenCutMatchesSpecWrong)

/-- 'glosswrightlaw5.TokenCutsCover': WHATEVER THE INPUT: true; the input reads as it did. -/
def tokenCutsCoverSpec : ChangeSpec := { name := "tokenCutsCover", fn := fun _ => fun
  | [d] => { results := [.lit (.bool true)], args := [d] }
  | _ => none }
def tokenCutsCoverRow : OpenClaim := { program := "ythblidbpicilkaadoor", sum := "8ed81351b693dbeeafe5b7d619adb53bd6125e09f0e29c57c54035f8e9a2b677", func := "glosswright/glosswrightlaw5.TokenCutsCover", spec := "tokenCutsCover", unfollowed := true, recurses := true, named := ["unicode/utf8.first", "unicode/utf8.acceptRanges"], apart := false, laid := [("unicode/utf8.acceptRanges", laid_unicode_utf8_acceptRanges), ("unicode/utf8.first", laid_unicode_utf8_first)] }
def TokenCutsCoverSaid : Prop := tokenCutsCoverRow.holds Tryd.pinned (OpenSpec.ofChange tokenCutsCoverSpec)

/-- ITS FALSE NEIGHBOUR: 'it returns false'. Refute it at one input. -/
def tokenCutsCoverWrong : ChangeSpec := { name := "tokenCutsCover", fn := fun _ => fun
  | [d] => { results := [.lit (.bool false)], args := [d] }
  | _ => none }
def TokenCutsCoverWrongFalsely : Prop := tokenCutsCoverRow.holds Tryd.pinned (OpenSpec.ofChange tokenCutsCoverWrong)

/-- 'glosswrightlaw5.TokenJoinMatchesSpec': WHATEVER THE INPUT: true; the input reads as it did. -/
def tokenJoinMatchesSpecSpec : ChangeSpec := { name := "tokenJoinMatchesSpec", fn := fun _ => fun
  | [d] => { results := [.lit (.bool true)], args := [d] }
  | _ => none }
def tokenJoinMatchesSpecRow : OpenClaim := { program := "ythblidbpicilkaadoor", sum := "8ed81351b693dbeeafe5b7d619adb53bd6125e09f0e29c57c54035f8e9a2b677", func := "glosswright/glosswrightlaw5.TokenJoinMatchesSpec", spec := "tokenJoinMatchesSpec", inPlace := ["internal/abi.NoEscape", "internal/bytealg.MakeNoZero"], unfollowed := true, recurses := true, named := ["unicode/utf8.first", "unicode/utf8.acceptRanges"], apart := false, laid := [("unicode/utf8.acceptRanges", laid_unicode_utf8_acceptRanges), ("unicode/utf8.first", laid_unicode_utf8_first)] }
def TokenJoinMatchesSpecSaid : Prop := tokenJoinMatchesSpecRow.holds Tryd.pinned (OpenSpec.ofChange tokenJoinMatchesSpecSpec)

/-- ITS FALSE NEIGHBOUR: 'it returns false'. Refute it at one input. -/
def tokenJoinMatchesSpecWrong : ChangeSpec := { name := "tokenJoinMatchesSpec", fn := fun _ => fun
  | [d] => { results := [.lit (.bool false)], args := [d] }
  | _ => none }
def TokenJoinMatchesSpecWrongFalsely : Prop := tokenJoinMatchesSpecRow.holds Tryd.pinned (OpenSpec.ofChange tokenJoinMatchesSpecWrong)

/- THE SECOND FORM. 'bulk': how many values and letters a reading holds, each counted each time it is reached (what is shared counts as often as it is met; a slice's spare places count too). A statement '..UptoSaid' is the law's where the arguments, and the package variables that the reading takes, are together of bulk at most 1048576: NARROWER than '..Said'. Prove '..Said' where nothing that the law and all that it calls make is longer than what came in: it says more and counts as full. Else prove '..UptoSaid'. A law counts once. -/
mutual
def uptoBulk {H : Type} : DataW H → Nat
  | .lit (.string bytes) => bytes.length + 1
  | .lit _ => 1
  | .nil => 1
  | .ptr d => uptoBulk d + 1
  | .slice elems spare => uptoBulkAll elems + uptoBulkAll spare + 1
  | .agg parts => uptoBulkAll parts + 1
  | .iface _ d => uptoBulk d + 1
  | .map entries => uptoBulkEntries entries + 1
  | .held _ => 1
def uptoBulkAll {H : Type} : List (DataW H) → Nat
  | [] => 0
  | d :: r => uptoBulk d + uptoBulkAll r
def uptoBulkEntries {H : Type} : List (Lit × DataW H) → Nat
  | [] => 0
  | x :: r => uptoBulkEntry x + uptoBulkEntries r
def uptoBulkEntry {H : Type} : Lit × DataW H → Nat
  | (.string bytes, d) => bytes.length + uptoBulk d + 1
  | (_, d) => uptoBulk d + 1
 end
def uptoSmall : (H : Type) → List (DataW H) → Bool := fun _ ds => decide (uptoBulkAll ds ≤ 1048576)
def OpenSpec.upto (s : _root_.Go.ChangeSpec) : _root_.Go.OpenSpec := { _root_.Go.OpenSpec.ofChange s with cond := some uptoSmall }

/-- 'glosswrightlaw5.LettersCodeMatchesSpec', WHERE WHAT IT READS IS OF BULK AT MOST 1048576: true; the input reads as it did. -/
def lettersCodeMatchesSpecUptoRow : OpenClaim := { program := "ythblidbpicilkaadoor", sum := "8ed81351b693dbeeafe5b7d619adb53bd6125e09f0e29c57c54035f8e9a2b677", func := "glosswright/glosswrightlaw5.LettersCodeMatchesSpec", spec := "lettersCodeMatchesSpec", named := ["unicode/utf8.first", "unicode/utf8.acceptRanges"], apart := false, laid := [("unicode/utf8.acceptRanges", laid_unicode_utf8_acceptRanges), ("unicode/utf8.first", laid_unicode_utf8_first)], narrowed := true }
def LettersCodeMatchesSpecUptoSaid : Prop := lettersCodeMatchesSpecUptoRow.holds Tryd.pinned (OpenSpec.upto lettersCodeMatchesSpecSpec)

/-- 'glosswrightlaw5.LettersComeBack', WHERE WHAT IT READS IS OF BULK AT MOST 1048576: true; the input reads as it did. -/
def lettersComeBackUptoRow : OpenClaim := { program := "ythblidbpicilkaadoor", sum := "8ed81351b693dbeeafe5b7d619adb53bd6125e09f0e29c57c54035f8e9a2b677", func := "glosswright/glosswrightlaw5.LettersComeBack", spec := "lettersComeBack", named := ["unicode/utf8.first", "unicode/utf8.acceptRanges"], apart := false, laid := [("unicode/utf8.acceptRanges", laid_unicode_utf8_acceptRanges), ("unicode/utf8.first", laid_unicode_utf8_first)], narrowed := true }
def LettersComeBackUptoSaid : Prop := lettersComeBackUptoRow.holds Tryd.pinned (OpenSpec.upto lettersComeBackSpec)

/-- 'glosswrightlaw5.LettersClassMatchesSpec', WHERE WHAT IT READS IS OF BULK AT MOST 1048576: true; the input reads as it did. -/
def lettersClassMatchesSpecUptoRow : OpenClaim := { program := "ythblidbpicilkaadoor", sum := "8ed81351b693dbeeafe5b7d619adb53bd6125e09f0e29c57c54035f8e9a2b677", func := "glosswright/glosswrightlaw5.LettersClassMatchesSpec", spec := "lettersClassMatchesSpec", named := ["unicode/utf8.first", "unicode/utf8.acceptRanges"], apart := false, laid := [("unicode/utf8.acceptRanges", laid_unicode_utf8_acceptRanges), ("unicode/utf8.first", laid_unicode_utf8_first)], narrowed := true }
def LettersClassMatchesSpecUptoSaid : Prop := lettersClassMatchesSpecUptoRow.holds Tryd.pinned (OpenSpec.upto lettersClassMatchesSpecSpec)

/-- 'glosswrightlaw5.TokenCutMatchesSpec', WHERE WHAT IT READS IS OF BULK AT MOST 1048576: true; the input reads as it did. -/
def tokenCutMatchesSpecUptoRow : OpenClaim := { program := "ythblidbpicilkaadoor", sum := "8ed81351b693dbeeafe5b7d619adb53bd6125e09f0e29c57c54035f8e9a2b677", func := "glosswright/glosswrightlaw5.TokenCutMatchesSpec", spec := "tokenCutMatchesSpec", unfollowed := true, recurses := true, named := ["unicode/utf8.first", "unicode/utf8.acceptRanges"], apart := false, laid := [("unicode/utf8.acceptRanges", laid_unicode_utf8_acceptRanges), ("unicode/utf8.first", laid_unicode_utf8_first)], narrowed := true }
def TokenCutMatchesSpecUptoSaid : Prop := tokenCutMatchesSpecUptoRow.holds Tryd.pinned (OpenSpec.upto tokenCutMatchesSpecSpec)

/-- 'glosswrightlaw5.TokenCutsCover', WHERE WHAT IT READS IS OF BULK AT MOST 1048576: true; the input reads as it did. -/
def tokenCutsCoverUptoRow : OpenClaim := { program := "ythblidbpicilkaadoor", sum := "8ed81351b693dbeeafe5b7d619adb53bd6125e09f0e29c57c54035f8e9a2b677", func := "glosswright/glosswrightlaw5.TokenCutsCover", spec := "tokenCutsCover", unfollowed := true, recurses := true, named := ["unicode/utf8.first", "unicode/utf8.acceptRanges"], apart := false, laid := [("unicode/utf8.acceptRanges", laid_unicode_utf8_acceptRanges), ("unicode/utf8.first", laid_unicode_utf8_first)], narrowed := true }
def TokenCutsCoverUptoSaid : Prop := tokenCutsCoverUptoRow.holds Tryd.pinned (OpenSpec.upto tokenCutsCoverSpec)

/-- 'glosswrightlaw5.TokenJoinMatchesSpec', WHERE WHAT IT READS IS OF BULK AT MOST 1048576: true; the input reads as it did. -/
def tokenJoinMatchesSpecUptoRow : OpenClaim := { program := "ythblidbpicilkaadoor", sum := "8ed81351b693dbeeafe5b7d619adb53bd6125e09f0e29c57c54035f8e9a2b677", func := "glosswright/glosswrightlaw5.TokenJoinMatchesSpec", spec := "tokenJoinMatchesSpec", inPlace := ["internal/abi.NoEscape", "internal/bytealg.MakeNoZero"], unfollowed := true, recurses := true, named := ["unicode/utf8.first", "unicode/utf8.acceptRanges"], apart := false, laid := [("unicode/utf8.acceptRanges", laid_unicode_utf8_acceptRanges), ("unicode/utf8.first", laid_unicode_utf8_first)], narrowed := true }
def TokenJoinMatchesSpecUptoSaid : Prop := tokenJoinMatchesSpecUptoRow.holds Tryd.pinned (OpenSpec.upto tokenJoinMatchesSpecSpec)

end Rows
end Go.Proofs.YthblidbpicilkaaDoor
