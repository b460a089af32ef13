/-
  DERIVED. GIVEN WITH THE SEED: THE CARDS: each row of YthblidbpicilkaaDoorRows.lean that lists a variable, with what it lists TIED to the program's text (the seventh form; the later family's looks); each row that meets fmt, with fmt's text TOLD by the authors' own Lean function (tested against real Go, not proved from fmt's source: count such statements apart). THE CARD IS WHAT COUNTS. Prove the row's statement (the work); the ties are given (YthblidbpicilkaaDoorTie.lean); close each card by the builder's one call (the guide's Derived/Test/ToyasCard.lean, 'card_holds'). Laid BY PROGRAM, IN A SANDBOX (cutbox-door.mjs). By AI agents, Wed Nov 11 2026. No macro, syntax, notation, axiom, sorry.
-/
import Derived.Test.YthblidbpicilkaaDoorRows
import GoSem.ClaimSeven
namespace Go.Proofs.YthblidbpicilkaaDoor
namespace Rows

/-- THE TIED CARD OF 'glosswrightlaw5.LettersCodeMatchesSpec'. -/
def lettersCodeMatchesSpecCard : Claim7 := { stood := { row := lettersCodeMatchesSpecRow, standIns := [], harness := (true, "153f5259fc387c2047ac7341650897c9f725bed53e953d2808261c8267ae0afc"), looks := false }, kinds := [], alts := [], laidByText := true, laidKinds := [.data, .pinned], laidTests := true, laidLooks := .later }
def LettersCodeMatchesSpecCardSaid : Prop := Claim7.holds Tryd.pinned (.plain (OpenSpec.ofChange lettersCodeMatchesSpecSpec)) lettersCodeMatchesSpecCard

/-- THE TIED CARD OF 'glosswrightlaw5.LettersComeBack'. -/
def lettersComeBackCard : Claim7 := { stood := { row := lettersComeBackRow, standIns := [], harness := (true, "153f5259fc387c2047ac7341650897c9f725bed53e953d2808261c8267ae0afc"), looks := false }, kinds := [], alts := [], laidByText := true, laidKinds := [.data, .pinned], laidTests := true, laidLooks := .later }
def LettersComeBackCardSaid : Prop := Claim7.holds Tryd.pinned (.plain (OpenSpec.ofChange lettersComeBackSpec)) lettersComeBackCard

/-- THE TIED CARD OF 'glosswrightlaw5.LettersClassMatchesSpec'. -/
def lettersClassMatchesSpecCard : Claim7 := { stood := { row := lettersClassMatchesSpecRow, standIns := [], harness := (true, "153f5259fc387c2047ac7341650897c9f725bed53e953d2808261c8267ae0afc"), looks := false }, kinds := [], alts := [], laidByText := true, laidKinds := [.data, .pinned], laidTests := true, laidLooks := .later }
def LettersClassMatchesSpecCardSaid : Prop := Claim7.holds Tryd.pinned (.plain (OpenSpec.ofChange lettersClassMatchesSpecSpec)) lettersClassMatchesSpecCard

/-- THE TIED CARD OF 'glosswrightlaw5.TokenCutMatchesSpec'. -/
def tokenCutMatchesSpecCard : Claim7 := { stood := { row := tokenCutMatchesSpecRow, standIns := [], harness := (true, "153f5259fc387c2047ac7341650897c9f725bed53e953d2808261c8267ae0afc"), looks := false }, kinds := [], alts := [], laidByText := true, laidKinds := [.data, .pinned], laidTests := true, laidLooks := .later }
def TokenCutMatchesSpecCardSaid : Prop := Claim7.holds Tryd.pinned (.plain (OpenSpec.ofChange tokenCutMatchesSpecSpec)) tokenCutMatchesSpecCard

/-- THE TIED CARD OF 'glosswrightlaw5.TokenCutsCover'. -/
def tokenCutsCoverCard : Claim7 := { stood := { row := tokenCutsCoverRow, standIns := [], harness := (true, "153f5259fc387c2047ac7341650897c9f725bed53e953d2808261c8267ae0afc"), looks := false }, kinds := [], alts := [], laidByText := true, laidKinds := [.data, .pinned], laidTests := true, laidLooks := .later }
def TokenCutsCoverCardSaid : Prop := Claim7.holds Tryd.pinned (.plain (OpenSpec.ofChange tokenCutsCoverSpec)) tokenCutsCoverCard

/-- THE TIED CARD OF 'glosswrightlaw5.TokenJoinMatchesSpec'. -/
def tokenJoinMatchesSpecCard : Claim7 := { stood := { row := tokenJoinMatchesSpecRow, standIns := [], harness := (true, "153f5259fc387c2047ac7341650897c9f725bed53e953d2808261c8267ae0afc"), looks := false }, kinds := [], alts := [], laidByText := true, laidKinds := [.data, .pinned], laidTests := true, laidLooks := .later }
def TokenJoinMatchesSpecCardSaid : Prop := Claim7.holds Tryd.pinned (.plain (OpenSpec.ofChange tokenJoinMatchesSpecSpec)) tokenJoinMatchesSpecCard

/-- THE SECOND FORM's CARD OF 'glosswrightlaw5.LettersCodeMatchesSpec'. -/
def lettersCodeMatchesSpecUptoCard : Claim7 := { stood := { row := lettersCodeMatchesSpecUptoRow, standIns := [], harness := (true, "153f5259fc387c2047ac7341650897c9f725bed53e953d2808261c8267ae0afc"), looks := false }, kinds := [], alts := [], laidByText := true, laidKinds := [.data, .pinned], laidTests := true, laidLooks := .later }
def LettersCodeMatchesSpecUptoCardSaid : Prop := Claim7.holds Tryd.pinned (.plain (OpenSpec.upto lettersCodeMatchesSpecSpec)) lettersCodeMatchesSpecUptoCard

/-- THE SECOND FORM's CARD OF 'glosswrightlaw5.LettersComeBack'. -/
def lettersComeBackUptoCard : Claim7 := { stood := { row := lettersComeBackUptoRow, standIns := [], harness := (true, "153f5259fc387c2047ac7341650897c9f725bed53e953d2808261c8267ae0afc"), looks := false }, kinds := [], alts := [], laidByText := true, laidKinds := [.data, .pinned], laidTests := true, laidLooks := .later }
def LettersComeBackUptoCardSaid : Prop := Claim7.holds Tryd.pinned (.plain (OpenSpec.upto lettersComeBackSpec)) lettersComeBackUptoCard

/-- THE SECOND FORM's CARD OF 'glosswrightlaw5.LettersClassMatchesSpec'. -/
def lettersClassMatchesSpecUptoCard : Claim7 := { stood := { row := lettersClassMatchesSpecUptoRow, standIns := [], harness := (true, "153f5259fc387c2047ac7341650897c9f725bed53e953d2808261c8267ae0afc"), looks := false }, kinds := [], alts := [], laidByText := true, laidKinds := [.data, .pinned], laidTests := true, laidLooks := .later }
def LettersClassMatchesSpecUptoCardSaid : Prop := Claim7.holds Tryd.pinned (.plain (OpenSpec.upto lettersClassMatchesSpecSpec)) lettersClassMatchesSpecUptoCard

/-- THE SECOND FORM's CARD OF 'glosswrightlaw5.TokenCutMatchesSpec'. -/
def tokenCutMatchesSpecUptoCard : Claim7 := { stood := { row := tokenCutMatchesSpecUptoRow, standIns := [], harness := (true, "153f5259fc387c2047ac7341650897c9f725bed53e953d2808261c8267ae0afc"), looks := false }, kinds := [], alts := [], laidByText := true, laidKinds := [.data, .pinned], laidTests := true, laidLooks := .later }
def TokenCutMatchesSpecUptoCardSaid : Prop := Claim7.holds Tryd.pinned (.plain (OpenSpec.upto tokenCutMatchesSpecSpec)) tokenCutMatchesSpecUptoCard

/-- THE SECOND FORM's CARD OF 'glosswrightlaw5.TokenCutsCover'. -/
def tokenCutsCoverUptoCard : Claim7 := { stood := { row := tokenCutsCoverUptoRow, standIns := [], harness := (true, "153f5259fc387c2047ac7341650897c9f725bed53e953d2808261c8267ae0afc"), looks := false }, kinds := [], alts := [], laidByText := true, laidKinds := [.data, .pinned], laidTests := true, laidLooks := .later }
def TokenCutsCoverUptoCardSaid : Prop := Claim7.holds Tryd.pinned (.plain (OpenSpec.upto tokenCutsCoverSpec)) tokenCutsCoverUptoCard

/-- THE SECOND FORM's CARD OF 'glosswrightlaw5.TokenJoinMatchesSpec'. -/
def tokenJoinMatchesSpecUptoCard : Claim7 := { stood := { row := tokenJoinMatchesSpecUptoRow, standIns := [], harness := (true, "153f5259fc387c2047ac7341650897c9f725bed53e953d2808261c8267ae0afc"), looks := false }, kinds := [], alts := [], laidByText := true, laidKinds := [.data, .pinned], laidTests := true, laidLooks := .later }
def TokenJoinMatchesSpecUptoCardSaid : Prop := Claim7.holds Tryd.pinned (.plain (OpenSpec.upto tokenJoinMatchesSpecSpec)) tokenJoinMatchesSpecUptoCard
end Rows
end Go.Proofs.YthblidbpicilkaaDoor
