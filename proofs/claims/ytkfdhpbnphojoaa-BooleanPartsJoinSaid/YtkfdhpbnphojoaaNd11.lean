/- Part of the proof. -/
import Derived.Test.YtkfdhpbnphojoaaNd9
import Derived.Test.YtkfdhpbnphojoaaNd5
set_option linter.unusedSimpArgs false
set_option linter.unusedVariables false
set_option maxRecDepth 100000
set_option maxHeartbeats 1000000
open Nat renaming zero_add→wAa
namespace Gm
open Go Go.RowKit
theorem MachNew.of_blk {w:World} {lo gA gF:Nat} {eA eF:TypeId} {m:Mach} (hA:Blk w gA eA (arcRow m.arcs).toArray) (hF:Blk w gF eF (finRow m.fins).toArray) (h1:lo≤gA) (h2:lo≤gF) (ha:m.arcs.length≤big) (hf:m.fins.length≤big) :
 MachNew lo w (.agg #[.int .i64 m.n,.slice (some ⟨gA,0,none⟩) m.arcs.length m.arcs.length,.slice (some ⟨gF,0,none⟩) m.fins.length m.fins.length]) m:=fun W hs hag=>by
 have bA:Blk W gA eA (arcRow m.arcs).toArray:=(hag gA h1 hA.lt).trans hA;have bF:Blk W gF eF (finRow m.fins).toArray:=(hag gF h2 hF.lt).trans hF;refine⟨_,_,_,_,_,_,rfl,zh rfl,zh rfl,Nat.le_refl _,Nat.le_refl _,ha,hf,fun _=>⟨gA,0,rfl,bA.lt,fun i j hi hj=>?_⟩,fun _=>⟨gF,0,rfl,bF.lt,fun i j hi hj=>?_⟩⟩
 · rw[wAa,bA.cell];simpa using zAr m.arcs i j hi hj
 · rw[wAa,bF.cell];simpa using zCt m.fins i j hi hj
end Gm
namespace Go.Proofs.Ytkfdhpbnphojoaa
open Go.RowKit Gm
theorem zBd {lo:Nat} {w:World} {v:Value} {m:Mach} (h:MachNew lo w v m):∃ A n c AF nf cf,v=.agg #[.int .i64 m.n,.slice A n c,.slice AF nf cf]:=by
 obtain⟨A',AF',n',c',nf',cf',e,_⟩:=h.at_;exact⟨_,_,_,_,_,_,e⟩
theorem zBU (w:World):Calls Try.prog 12 #[] w fun e w'=>∃ v1,e=.returned v1∧MachNew w.heap.size w' v1 letM∧Below w.heap.size w w':=by
 go_enter Try.func12,Try.ntmps12
 go_wp2
 exact bodyPost_ret (v:=.agg #[.int .i64 2,.slice (some ⟨w.heap.size+1,0,none⟩) 1 1,.slice (some ⟨w.heap.size+1+1,0,none⟩) 1 1]) (by simp[results,Try.results12,go_sem]) rfl
  ⟨_,rfl,MachNew.of_blk (m:=letM) (eA:=64) (eF:=69) ((Blk.at_ (by simp)).alloc _) (Blk.at_ (by simp)) (by omega) (by omega) (by decide) (by decide),by go_grown⟩
end Go.Proofs.Ytkfdhpbnphojoaa
