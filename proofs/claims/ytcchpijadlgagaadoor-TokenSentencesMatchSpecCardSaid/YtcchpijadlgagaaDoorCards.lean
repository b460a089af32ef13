/-
  DERIVED. GIVEN WITH THE SEED: THE CARDS: each row of YtcchpijadlgagaaDoorRows.lean that lists a variable, with what it lists TIED to the program's text (the seventh form; the later family's looks); each row that meets fmt, with fmt's text TOLD by the authors' own Lean function (tested against real Go, not proved from fmt's source: count such statements apart). THE CARD IS WHAT COUNTS. Prove the row's statement (the work); the ties are given (YtcchpijadlgagaaDoorTie.lean); close each card by the builder's one call (the guide's Derived/Test/ToyasCard.lean, 'card_holds'). Laid BY PROGRAM, IN A SANDBOX (cutbox-door.mjs). By AI agents, Wed Nov 11 2026. No macro, syntax, notation, axiom, sorry.
-/
import Derived.Test.YtcchpijadlgagaaDoorRows
import GoSem.ClaimSeven
namespace Go.Proofs.YtcchpijadlgagaaDoor
namespace Rows

/-- THE TIED CARD OF 'glosswrightlaw5.TokenJoinMatchesSpec'. -/
def tokenJoinMatchesSpecCard : Claim7 := { stood := { row := tokenJoinMatchesSpecRow, standIns := [], harness := (true, "d70090a632864975271a1eca5b4725ec993a3b205e148b8628e17727cd8f24be"), looks := false }, kinds := [], alts := [], laidByText := true, laidKinds := [.data, .pinned], laidTests := true, laidLooks := .later }
def TokenJoinMatchesSpecCardSaid : Prop := Claim7.holds Tryd.pinned (.plain (OpenSpec.ofChange tokenJoinMatchesSpecSpec)) tokenJoinMatchesSpecCard

/-- THE TIED CARD OF 'glosswrightlaw5.TokenJoinedIsCut'. -/
def tokenJoinedIsCutCard : Claim7 := { stood := { row := tokenJoinedIsCutRow, standIns := [], harness := (true, "d70090a632864975271a1eca5b4725ec993a3b205e148b8628e17727cd8f24be"), looks := false }, kinds := [], alts := [], laidByText := true, laidKinds := [.data, .pinned], laidTests := true, laidLooks := .later }
def TokenJoinedIsCutCardSaid : Prop := Claim7.holds Tryd.pinned (.plain (OpenSpec.ofChange tokenJoinedIsCutSpec)) tokenJoinedIsCutCard

/-- THE TIED CARD OF 'glosswrightlaw5.TokenTokensStandAlone'. -/
def tokenTokensStandAloneCard : Claim7 := { stood := { row := tokenTokensStandAloneRow, standIns := [], harness := (true, "d70090a632864975271a1eca5b4725ec993a3b205e148b8628e17727cd8f24be"), looks := false }, kinds := [], alts := [], laidByText := true, laidKinds := [.data, .pinned], laidTests := true, laidLooks := .later }
def TokenTokensStandAloneCardSaid : Prop := Claim7.holds Tryd.pinned (.plain (OpenSpec.ofChange tokenTokensStandAloneSpec)) tokenTokensStandAloneCard

/-- THE TIED CARD OF 'glosswrightlaw5.TokenSentencesMatchSpec'. -/
def tokenSentencesMatchSpecCard : Claim7 := { stood := { row := tokenSentencesMatchSpecRow, standIns := [], harness := (true, "d70090a632864975271a1eca5b4725ec993a3b205e148b8628e17727cd8f24be"), looks := false }, kinds := [], alts := [], laidByText := true, laidKinds := [.data, .pinned], laidTests := true, laidLooks := .later }
def TokenSentencesMatchSpecCardSaid : Prop := Claim7.holds Tryd.pinned (.plain (OpenSpec.ofChange tokenSentencesMatchSpecSpec)) tokenSentencesMatchSpecCard

/-- THE TIED CARD OF 'glosswrightlaw5.TokenSentencesPartition'. -/
def tokenSentencesPartitionCard : Claim7 := { stood := { row := tokenSentencesPartitionRow, standIns := [], harness := (true, "d70090a632864975271a1eca5b4725ec993a3b205e148b8628e17727cd8f24be"), looks := false }, kinds := [], alts := [], laidByText := true, laidKinds := [.data, .pinned], laidTests := true, laidLooks := .later }
def TokenSentencesPartitionCardSaid : Prop := Claim7.holds Tryd.pinned (.plain (OpenSpec.ofChange tokenSentencesPartitionSpec)) tokenSentencesPartitionCard

/-- THE SECOND FORM's CARD OF 'glosswrightlaw5.TokenJoinMatchesSpec'. -/
def tokenJoinMatchesSpecUptoCard : Claim7 := { stood := { row := tokenJoinMatchesSpecUptoRow, standIns := [], harness := (true, "d70090a632864975271a1eca5b4725ec993a3b205e148b8628e17727cd8f24be"), looks := false }, kinds := [], alts := [], laidByText := true, laidKinds := [.data, .pinned], laidTests := true, laidLooks := .later }
def TokenJoinMatchesSpecUptoCardSaid : Prop := Claim7.holds Tryd.pinned (.plain (OpenSpec.upto tokenJoinMatchesSpecSpec)) tokenJoinMatchesSpecUptoCard

/-- THE SECOND FORM's CARD OF 'glosswrightlaw5.TokenJoinedIsCut'. -/
def tokenJoinedIsCutUptoCard : Claim7 := { stood := { row := tokenJoinedIsCutUptoRow, standIns := [], harness := (true, "d70090a632864975271a1eca5b4725ec993a3b205e148b8628e17727cd8f24be"), looks := false }, kinds := [], alts := [], laidByText := true, laidKinds := [.data, .pinned], laidTests := true, laidLooks := .later }
def TokenJoinedIsCutUptoCardSaid : Prop := Claim7.holds Tryd.pinned (.plain (OpenSpec.upto tokenJoinedIsCutSpec)) tokenJoinedIsCutUptoCard

/-- THE SECOND FORM's CARD OF 'glosswrightlaw5.TokenTokensStandAlone'. -/
def tokenTokensStandAloneUptoCard : Claim7 := { stood := { row := tokenTokensStandAloneUptoRow, standIns := [], harness := (true, "d70090a632864975271a1eca5b4725ec993a3b205e148b8628e17727cd8f24be"), looks := false }, kinds := [], alts := [], laidByText := true, laidKinds := [.data, .pinned], laidTests := true, laidLooks := .later }
def TokenTokensStandAloneUptoCardSaid : Prop := Claim7.holds Tryd.pinned (.plain (OpenSpec.upto tokenTokensStandAloneSpec)) tokenTokensStandAloneUptoCard

/-- THE SECOND FORM's CARD OF 'glosswrightlaw5.TokenSentencesMatchSpec'. -/
def tokenSentencesMatchSpecUptoCard : Claim7 := { stood := { row := tokenSentencesMatchSpecUptoRow, standIns := [], harness := (true, "d70090a632864975271a1eca5b4725ec993a3b205e148b8628e17727cd8f24be"), looks := false }, kinds := [], alts := [], laidByText := true, laidKinds := [.data, .pinned], laidTests := true, laidLooks := .later }
def TokenSentencesMatchSpecUptoCardSaid : Prop := Claim7.holds Tryd.pinned (.plain (OpenSpec.upto tokenSentencesMatchSpecSpec)) tokenSentencesMatchSpecUptoCard

/-- THE SECOND FORM's CARD OF 'glosswrightlaw5.TokenSentencesPartition'. -/
def tokenSentencesPartitionUptoCard : Claim7 := { stood := { row := tokenSentencesPartitionUptoRow, standIns := [], harness := (true, "d70090a632864975271a1eca5b4725ec993a3b205e148b8628e17727cd8f24be"), looks := false }, kinds := [], alts := [], laidByText := true, laidKinds := [.data, .pinned], laidTests := true, laidLooks := .later }
def TokenSentencesPartitionUptoCardSaid : Prop := Claim7.holds Tryd.pinned (.plain (OpenSpec.upto tokenSentencesPartitionSpec)) tokenSentencesPartitionUptoCard
end Rows
end Go.Proofs.YtcchpijadlgagaaDoor
