/-
  No cell of these rows narrows 'for every input' (looked for: loops, veiled, ifaces, maps, wideKeys, modest, calm, conditions, laid).
  DERIVED. THE GIVEN ROWS OF THIS SEAT. 8 by the template 'for every input the law returns true; each argument reads behind the call as it read before'; 0 by the template 'total and deterministic' (their statements: YtmgpcnkmmgkjgaaTotals.lean).
  GIVEN WITH THE SEED: the statements are not yours to turn. If you find one false, say at which input.
  Laid BY PROGRAM, IN A SANDBOX (cutbox-rows.mjs): the forced cells as the released guide's own fill.sh prints them over the translation f13976d63cd5adf8… (all of the seat's roots in one cut). By AI agents, Wed Nov 11 2026. No macro, syntax, notation, axiom, sorry.
-/
import Derived.Test.YtmgpcnkmmgkjgaaChecked
import GoSem.Claim
import GoSem.ClaimJoined
import GoSem.ClaimMapViews
import Derived.JoinedTies
import Derived.KernelRfl
namespace Go.Proofs.Ytmgpcnkmmgkjgaa
/- THE CELL 'sum', in the pinned program and in every row, IS THE sha256 OF THE DUMP (.gsa) THAT YtmgpcnkmmgkjgaaProg.lean LOADS. Nothing in Lean hashes anything: it is a label: what it is worth is what the hold of that sum in a sandbox is worth. -/
noncomputable def Try.pinned : Pinned := { name := "ytmgpcnkmmgkjgaa", sum := "f13976d63cd5adf827dea8aea3c4bb195a03179a0d5d6a606c0ddaebe352e811", checked := Try.checked }
namespace Rows
def none {H : Type} : Left H := { results := [], args := [] }

/-- 'glosswrightlaw5.ComposeChangesMatchSpec': WHATEVER THE INPUT: true; the input reads as it did. -/
def composeChangesMatchSpecSpec : ChangeSpec := { name := "composeChangesMatchSpec", fn := fun _ => fun
  | [d] => { results := [.lit (.bool true)], args := [d] }
  | _ => none }
def composeChangesMatchSpecRow : OpenClaim := { program := "ytmgpcnkmmgkjgaa", sum := "f13976d63cd5adf827dea8aea3c4bb195a03179a0d5d6a606c0ddaebe352e811", func := "glosswright/glosswrightlaw5.ComposeChangesMatchSpec", spec := "composeChangesMatchSpec", unfollowed := true, recurses := true, plainKeys := false, apart := false }
def ComposeChangesMatchSpecSaid : Prop := composeChangesMatchSpecRow.holds Try.pinned (OpenSpec.ofChange composeChangesMatchSpecSpec)

/-- ITS FALSE NEIGHBOUR: 'it returns false'. Refute it at one input. -/
def composeChangesMatchSpecWrong : ChangeSpec := { name := "composeChangesMatchSpec", fn := fun _ => fun
  | [d] => { results := [.lit (.bool false)], args := [d] }
  | _ => none }
def ComposeChangesMatchSpecWrongFalsely : Prop := composeChangesMatchSpecRow.holds Try.pinned (OpenSpec.ofChange composeChangesMatchSpecWrong)

/-- 'glosswrightlaw5.RationalShapesMatchSpec': WHATEVER THE INPUT: true; the input reads as it did. -/
def rationalShapesMatchSpecSpec : ChangeSpec := { name := "rationalShapesMatchSpec", fn := fun _ => fun
  | [d1, d2] => { results := [.lit (.bool true)], args := [d1, d2] }
  | _ => none }
def rationalShapesMatchSpecRow : OpenClaim := { program := "ytmgpcnkmmgkjgaa", sum := "f13976d63cd5adf827dea8aea3c4bb195a03179a0d5d6a606c0ddaebe352e811", func := "glosswright/glosswrightlaw5.RationalShapesMatchSpec", spec := "rationalShapesMatchSpec", unfollowed := true, recurses := true, plainKeys := false, apart := false }
def RationalShapesMatchSpecSaid : Prop := rationalShapesMatchSpecRow.holds Try.pinned (OpenSpec.ofChange rationalShapesMatchSpecSpec)

/-- ITS FALSE NEIGHBOUR: 'it returns false'. Refute it at one input. -/
def rationalShapesMatchSpecWrong : ChangeSpec := { name := "rationalShapesMatchSpec", fn := fun _ => fun
  | [d1, d2] => { results := [.lit (.bool false)], args := [d1, d2] }
  | _ => none }
def RationalShapesMatchSpecWrongFalsely : Prop := rationalShapesMatchSpecRow.holds Try.pinned (OpenSpec.ofChange rationalShapesMatchSpecWrong)

/-- 'glosswrightlaw5.ComposeMatchesSpec': WHATEVER THE INPUT: true; the input reads as it did. -/
def composeMatchesSpecSpec : ChangeSpec := { name := "composeMatchesSpec", fn := fun _ => fun
  | [d1, d2] => { results := [.lit (.bool true)], args := [d1, d2] }
  | _ => none }
def composeMatchesSpecRow : OpenClaim := { program := "ytmgpcnkmmgkjgaa", sum := "f13976d63cd5adf827dea8aea3c4bb195a03179a0d5d6a606c0ddaebe352e811", func := "glosswright/glosswrightlaw5.ComposeMatchesSpec", spec := "composeMatchesSpec", unfollowed := true, recurses := true, plainKeys := false, apart := false }
def ComposeMatchesSpecSaid : Prop := composeMatchesSpecRow.holds Try.pinned (OpenSpec.ofChange composeMatchesSpecSpec)

/-- ITS FALSE NEIGHBOUR: 'it returns false'. Refute it at one input. -/
def composeMatchesSpecWrong : ChangeSpec := { name := "composeMatchesSpec", fn := fun _ => fun
  | [d1, d2] => { results := [.lit (.bool false)], args := [d1, d2] }
  | _ => none }
def ComposeMatchesSpecWrongFalsely : Prop := composeMatchesSpecRow.holds Try.pinned (OpenSpec.ofChange composeMatchesSpecWrong)

/-- 'glosswrightlaw5.ComposeProjects': WHATEVER THE INPUT: true; the input reads as it did. -/
def composeProjectsSpec : ChangeSpec := { name := "composeProjects", fn := fun _ => fun
  | [d1, d2, d3] => { results := [.lit (.bool true)], args := [d1, d2, d3] }
  | _ => none }
def composeProjectsRow : OpenClaim := { program := "ytmgpcnkmmgkjgaa", sum := "f13976d63cd5adf827dea8aea3c4bb195a03179a0d5d6a606c0ddaebe352e811", func := "glosswright/glosswrightlaw5.ComposeProjects", spec := "composeProjects", unfollowed := true, recurses := true, plainKeys := false, apart := false }
def ComposeProjectsSaid : Prop := composeProjectsRow.holds Try.pinned (OpenSpec.ofChange composeProjectsSpec)

/-- ITS FALSE NEIGHBOUR: 'it returns false'. Refute it at one input. -/
def composeProjectsWrong : ChangeSpec := { name := "composeProjects", fn := fun _ => fun
  | [d1, d2, d3] => { results := [.lit (.bool false)], args := [d1, d2, d3] }
  | _ => none }
def ComposeProjectsWrongFalsely : Prop := composeProjectsRow.holds Try.pinned (OpenSpec.ofChange composeProjectsWrong)

/-- 'glosswrightlaw5.ComposePassesThrough': WHATEVER THE INPUT: true; the input reads as it did. -/
def composePassesThroughSpec : ChangeSpec := { name := "composePassesThrough", fn := fun _ => fun
  | [d1, d2, d3, d4, d5] => { results := [.lit (.bool true)], args := [d1, d2, d3, d4, d5] }
  | _ => none }
def composePassesThroughRow : OpenClaim := { program := "ytmgpcnkmmgkjgaa", sum := "f13976d63cd5adf827dea8aea3c4bb195a03179a0d5d6a606c0ddaebe352e811", func := "glosswright/glosswrightlaw5.ComposePassesThrough", spec := "composePassesThrough", unfollowed := true, recurses := true, plainKeys := false, apart := false }
def ComposePassesThroughSaid : Prop := composePassesThroughRow.holds Try.pinned (OpenSpec.ofChange composePassesThroughSpec)

/-- ITS FALSE NEIGHBOUR: 'it returns false'. Refute it at one input. -/
def composePassesThroughWrong : ChangeSpec := { name := "composePassesThrough", fn := fun _ => fun
  | [d1, d2, d3, d4, d5] => { results := [.lit (.bool false)], args := [d1, d2, d3, d4, d5] }
  | _ => none }
def ComposePassesThroughWrongFalsely : Prop := composePassesThroughRow.holds Try.pinned (OpenSpec.ofChange composePassesThroughWrong)

/-- 'glosswrightlaw5.ComposeIsAssociative': WHATEVER THE INPUT: true; the input reads as it did. -/
def composeIsAssociativeSpec : ChangeSpec := { name := "composeIsAssociative", fn := fun _ => fun
  | [d1, d2, d3, d4, d5] => { results := [.lit (.bool true)], args := [d1, d2, d3, d4, d5] }
  | _ => none }
def composeIsAssociativeRow : OpenClaim := { program := "ytmgpcnkmmgkjgaa", sum := "f13976d63cd5adf827dea8aea3c4bb195a03179a0d5d6a606c0ddaebe352e811", func := "glosswright/glosswrightlaw5.ComposeIsAssociative", spec := "composeIsAssociative", unfollowed := true, recurses := true, plainKeys := false, apart := false }
def ComposeIsAssociativeSaid : Prop := composeIsAssociativeRow.holds Try.pinned (OpenSpec.ofChange composeIsAssociativeSpec)

/-- ITS FALSE NEIGHBOUR: 'it returns false'. Refute it at one input. -/
def composeIsAssociativeWrong : ChangeSpec := { name := "composeIsAssociative", fn := fun _ => fun
  | [d1, d2, d3, d4, d5] => { results := [.lit (.bool false)], args := [d1, d2, d3, d4, d5] }
  | _ => none }
def ComposeIsAssociativeWrongFalsely : Prop := composeIsAssociativeRow.holds Try.pinned (OpenSpec.ofChange composeIsAssociativeWrong)

/-- 'glosswrightlaw5.ComposeWithIdentity': WHATEVER THE INPUT: true; the input reads as it did. -/
def composeWithIdentitySpec : ChangeSpec := { name := "composeWithIdentity", fn := fun _ => fun
  | [d1, d2, d3] => { results := [.lit (.bool true)], args := [d1, d2, d3] }
  | _ => none }
def composeWithIdentityRow : OpenClaim := { program := "ytmgpcnkmmgkjgaa", sum := "f13976d63cd5adf827dea8aea3c4bb195a03179a0d5d6a606c0ddaebe352e811", func := "glosswright/glosswrightlaw5.ComposeWithIdentity", spec := "composeWithIdentity", unfollowed := true, recurses := true, plainKeys := false, apart := false }
def ComposeWithIdentitySaid : Prop := composeWithIdentityRow.holds Try.pinned (OpenSpec.ofChange composeWithIdentitySpec)

/-- ITS FALSE NEIGHBOUR: 'it returns false'. Refute it at one input. -/
def composeWithIdentityWrong : ChangeSpec := { name := "composeWithIdentity", fn := fun _ => fun
  | [d1, d2, d3] => { results := [.lit (.bool false)], args := [d1, d2, d3] }
  | _ => none }
def ComposeWithIdentityWrongFalsely : Prop := composeWithIdentityRow.holds Try.pinned (OpenSpec.ofChange composeWithIdentityWrong)

/-- 'glosswrightlaw5.ComposeInvertTurns': WHATEVER THE INPUT: true; the input reads as it did. -/
def composeInvertTurnsSpec : ChangeSpec := { name := "composeInvertTurns", fn := fun _ => fun
  | [d1, d2, d3, d4] => { results := [.lit (.bool true)], args := [d1, d2, d3, d4] }
  | _ => none }
def composeInvertTurnsRow : OpenClaim := { program := "ytmgpcnkmmgkjgaa", sum := "f13976d63cd5adf827dea8aea3c4bb195a03179a0d5d6a606c0ddaebe352e811", func := "glosswright/glosswrightlaw5.ComposeInvertTurns", spec := "composeInvertTurns", unfollowed := true, recurses := true, plainKeys := false, apart := false }
def ComposeInvertTurnsSaid : Prop := composeInvertTurnsRow.holds Try.pinned (OpenSpec.ofChange composeInvertTurnsSpec)

/-- ITS FALSE NEIGHBOUR: 'it returns false'. Refute it at one input. -/
def composeInvertTurnsWrong : ChangeSpec := { name := "composeInvertTurns", fn := fun _ => fun
  | [d1, d2, d3, d4] => { results := [.lit (.bool false)], args := [d1, d2, d3, d4] }
  | _ => none }
def ComposeInvertTurnsWrongFalsely : Prop := composeInvertTurnsRow.holds Try.pinned (OpenSpec.ofChange composeInvertTurnsWrong)

/- THE SECOND FORM. 'bulk': how many values and letters a reading holds, each counted each time it is reached (what is shared counts as often as it is met; a slice's spare places count too). A statement '..UptoSaid' is the law's where the arguments, and the package variables that the reading takes, are together of bulk at most 1048576: NARROWER than '..Said'. Prove '..Said' where nothing that the law and all that it calls make is longer than what came in: it says more and counts as full. Else prove '..UptoSaid'. A law counts once. -/
mutual
def uptoBulk {H : Type} : DataW H → Nat
  | .lit (.string bytes) => bytes.length + 1
  | .lit _ => 1
  | .nil => 1
  | .ptr d => uptoBulk d + 1
  | .slice elems spare => uptoBulkAll elems + uptoBulkAll spare + 1
  | .agg parts => uptoBulkAll parts + 1
  | .iface _ d => uptoBulk d + 1
  | .map entries => uptoBulkEntries entries + 1
  | .held _ => 1
def uptoBulkAll {H : Type} : List (DataW H) → Nat
  | [] => 0
  | d :: r => uptoBulk d + uptoBulkAll r
def uptoBulkEntries {H : Type} : List (Lit × DataW H) → Nat
  | [] => 0
  | x :: r => uptoBulkEntry x + uptoBulkEntries r
def uptoBulkEntry {H : Type} : Lit × DataW H → Nat
  | (.string bytes, d) => bytes.length + uptoBulk d + 1
  | (_, d) => uptoBulk d + 1
 end
def uptoSmall : (H : Type) → List (DataW H) → Bool := fun _ ds => decide (uptoBulkAll ds ≤ 1048576)
def OpenSpec.upto (s : _root_.Go.ChangeSpec) : _root_.Go.OpenSpec := { _root_.Go.OpenSpec.ofChange s with cond := some uptoSmall }

/-- 'glosswrightlaw5.ComposeChangesMatchSpec', WHERE WHAT IT READS IS OF BULK AT MOST 1048576: true; the input reads as it did. -/
def composeChangesMatchSpecUptoRow : OpenClaim := { program := "ytmgpcnkmmgkjgaa", sum := "f13976d63cd5adf827dea8aea3c4bb195a03179a0d5d6a606c0ddaebe352e811", func := "glosswright/glosswrightlaw5.ComposeChangesMatchSpec", spec := "composeChangesMatchSpec", unfollowed := true, recurses := true, plainKeys := false, apart := false, narrowed := true }
def ComposeChangesMatchSpecUptoSaid : Prop := composeChangesMatchSpecUptoRow.holds Try.pinned (OpenSpec.upto composeChangesMatchSpecSpec)

/-- 'glosswrightlaw5.RationalShapesMatchSpec', WHERE WHAT IT READS IS OF BULK AT MOST 1048576: true; the input reads as it did. -/
def rationalShapesMatchSpecUptoRow : OpenClaim := { program := "ytmgpcnkmmgkjgaa", sum := "f13976d63cd5adf827dea8aea3c4bb195a03179a0d5d6a606c0ddaebe352e811", func := "glosswright/glosswrightlaw5.RationalShapesMatchSpec", spec := "rationalShapesMatchSpec", unfollowed := true, recurses := true, plainKeys := false, apart := false, narrowed := true }
def RationalShapesMatchSpecUptoSaid : Prop := rationalShapesMatchSpecUptoRow.holds Try.pinned (OpenSpec.upto rationalShapesMatchSpecSpec)

/-- 'glosswrightlaw5.ComposeMatchesSpec', WHERE WHAT IT READS IS OF BULK AT MOST 1048576: true; the input reads as it did. -/
def composeMatchesSpecUptoRow : OpenClaim := { program := "ytmgpcnkmmgkjgaa", sum := "f13976d63cd5adf827dea8aea3c4bb195a03179a0d5d6a606c0ddaebe352e811", func := "glosswright/glosswrightlaw5.ComposeMatchesSpec", spec := "composeMatchesSpec", unfollowed := true, recurses := true, plainKeys := false, apart := false, narrowed := true }
def ComposeMatchesSpecUptoSaid : Prop := composeMatchesSpecUptoRow.holds Try.pinned (OpenSpec.upto composeMatchesSpecSpec)

/-- 'glosswrightlaw5.ComposeProjects', WHERE WHAT IT READS IS OF BULK AT MOST 1048576: true; the input reads as it did. -/
def composeProjectsUptoRow : OpenClaim := { program := "ytmgpcnkmmgkjgaa", sum := "f13976d63cd5adf827dea8aea3c4bb195a03179a0d5d6a606c0ddaebe352e811", func := "glosswright/glosswrightlaw5.ComposeProjects", spec := "composeProjects", unfollowed := true, recurses := true, plainKeys := false, apart := false, narrowed := true }
def ComposeProjectsUptoSaid : Prop := composeProjectsUptoRow.holds Try.pinned (OpenSpec.upto composeProjectsSpec)

/-- 'glosswrightlaw5.ComposePassesThrough', WHERE WHAT IT READS IS OF BULK AT MOST 1048576: true; the input reads as it did. -/
def composePassesThroughUptoRow : OpenClaim := { program := "ytmgpcnkmmgkjgaa", sum := "f13976d63cd5adf827dea8aea3c4bb195a03179a0d5d6a606c0ddaebe352e811", func := "glosswright/glosswrightlaw5.ComposePassesThrough", spec := "composePassesThrough", unfollowed := true, recurses := true, plainKeys := false, apart := false, narrowed := true }
def ComposePassesThroughUptoSaid : Prop := composePassesThroughUptoRow.holds Try.pinned (OpenSpec.upto composePassesThroughSpec)

/-- 'glosswrightlaw5.ComposeIsAssociative', WHERE WHAT IT READS IS OF BULK AT MOST 1048576: true; the input reads as it did. -/
def composeIsAssociativeUptoRow : OpenClaim := { program := "ytmgpcnkmmgkjgaa", sum := "f13976d63cd5adf827dea8aea3c4bb195a03179a0d5d6a606c0ddaebe352e811", func := "glosswright/glosswrightlaw5.ComposeIsAssociative", spec := "composeIsAssociative", unfollowed := true, recurses := true, plainKeys := false, apart := false, narrowed := true }
def ComposeIsAssociativeUptoSaid : Prop := composeIsAssociativeUptoRow.holds Try.pinned (OpenSpec.upto composeIsAssociativeSpec)

/-- 'glosswrightlaw5.ComposeWithIdentity', WHERE WHAT IT READS IS OF BULK AT MOST 1048576: true; the input reads as it did. -/
def composeWithIdentityUptoRow : OpenClaim := { program := "ytmgpcnkmmgkjgaa", sum := "f13976d63cd5adf827dea8aea3c4bb195a03179a0d5d6a606c0ddaebe352e811", func := "glosswright/glosswrightlaw5.ComposeWithIdentity", spec := "composeWithIdentity", unfollowed := true, recurses := true, plainKeys := false, apart := false, narrowed := true }
def ComposeWithIdentityUptoSaid : Prop := composeWithIdentityUptoRow.holds Try.pinned (OpenSpec.upto composeWithIdentitySpec)

/-- 'glosswrightlaw5.ComposeInvertTurns', WHERE WHAT IT READS IS OF BULK AT MOST 1048576: true; the input reads as it did. -/
def composeInvertTurnsUptoRow : OpenClaim := { program := "ytmgpcnkmmgkjgaa", sum := "f13976d63cd5adf827dea8aea3c4bb195a03179a0d5d6a606c0ddaebe352e811", func := "glosswright/glosswrightlaw5.ComposeInvertTurns", spec := "composeInvertTurns", unfollowed := true, recurses := true, plainKeys := false, apart := false, narrowed := true }
def ComposeInvertTurnsUptoSaid : Prop := composeInvertTurnsUptoRow.holds Try.pinned (OpenSpec.upto composeInvertTurnsSpec)

end Rows
end Go.Proofs.Ytmgpcnkmmgkjgaa
