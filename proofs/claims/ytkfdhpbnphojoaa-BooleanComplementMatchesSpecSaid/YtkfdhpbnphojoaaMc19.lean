/- Part of the proof. -/
import Derived.Test.YtkfdhpbnphojoaaMc18
set_option linter.unusedSimpArgs false
set_option linter.unusedVariables false
namespace Go.Proofs.Ytkfdhpbnphojoaa
open Go.RowKit Gm
structure TabAt (w:World) (m:Mach) (S gA gF:Nat) (va:Nat→Value):Prop where
 fin:w.rowIs gF 4 S (fun i=>.bool (fnB m.fins m.fins.length i))
 arcs:∃ B,OwnLL w B 22 64 5 gA S va (fun s=>arcRow (arT m.arcs m.arcs.length s)) (fun s=>(arT m.arcs m.arcs.length s).length)
theorem TabAt.below {w w':World} {m:Mach} {S gA gF:Nat} {va:Nat→Value} (h:TabAt w m S gA gF va) (hb:Below w.heap.size w w'):TabAt w' m S gA gF va :=
 ⟨h.fin.of_block (hb.block gF h.fin.lt),h.arcs.elim fun B g=>⟨B,g.below hb⟩⟩
theorem TabAt.lts {w:World} {m:Mach} {S gA gF:Nat} {va:Nat→Value} (h:TabAt w m S gA gF va):gF<w.heap.size∧gA<w.heap.size :=
 ⟨h.fin.lt,h.arcs.elim fun _ g=>g.row.lt⟩
theorem TabAt.arcsAt {w:World} {m:Mach} {S gA gF:Nat} {va:Nat→Value} (h:TabAt w m S gA gF va) {s:Nat} (hs:s<S):∃ A c,w.cell? ⟨gA,s,none⟩=some (.slice A (arT m.arcs m.arcs.length s).length c)∧Rd w w.heap.size 5 A (arT m.arcs m.arcs.length s).length (arcCell (arT m.arcs m.arcs.length s)):=by
 obtain⟨B,g⟩:=h.arcs;have hc:=g.row.cell hs;have ho:=g.own s hs;obtain⟨A,c,hv,_,_⟩:=zAa ho;rw[hv] at hc ho;exact⟨A,c,hc,Rd.of_own ho fun i j hi hj=>zAr _ i j hi hj⟩
end Go.Proofs.Ytkfdhpbnphojoaa
