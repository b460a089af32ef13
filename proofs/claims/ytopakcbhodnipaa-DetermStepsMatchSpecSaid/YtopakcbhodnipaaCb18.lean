/- The texts TbW of this proof. No conditions. -/
import Derived.Test.YtopakcbhodnipaaCb17
import Derived.Test.YtopakcbhodnipaaCb5
/- Text TbW. -/
namespace Go.Proofs.Ytopakcbhodnipaa
open Go.RowKit Gm
set_option linter.unusedSimpArgs false
set_option linter.unusedVariables false
structure TabAt (w : World) (m : Mach) (S gA gF : Nat) (va : Nat → Value) : Prop where
 fin : w.rowIs gF 4 S (fun i => .bool (fnB m.fins m.fins.length i))
 arcs : ∃ B, OwnLL w B 25 61 5 gA S va (fun s => arcRow (arT m.arcs m.arcs.length s)) (fun s => (arT m.arcs m.arcs.length s).length)
theorem TabAt.below {w w' : World} {m : Mach} {S gA gF : Nat} {va : Nat → Value} (h : TabAt w m S gA gF va) (hb : Below w.heap.size w w') : TabAt w' m S gA gF va :=
 ⟨h.fin.of_block (hb.block gF h.fin.lt), h.arcs.elim fun B g => ⟨B, g.below hb⟩⟩
end Go.Proofs.Ytopakcbhodnipaa
