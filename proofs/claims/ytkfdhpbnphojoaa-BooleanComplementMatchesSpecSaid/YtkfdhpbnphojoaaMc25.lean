/- Part of the proof. -/
import Derived.Test.YtkfdhpbnphojoaaMc24
import Derived.Test.YtkfdhpbnphojoaaMc19
import Derived.Test.YtkfdhpbnphojoaaMc17
set_option linter.unusedSimpArgs false
set_option linter.unusedVariables false
open List renaming replicate→wAa
namespace Gm
open Go Go.RowKit
def R2 (q s i:Nat):List Int:=if i<s then wAa q (-1) else []
def R3 (q s k i:Nat):List Int:=if i<s then wAa q (-1) else if i=s then wAa k (-1)++wAa (q-k) 0 else []
theorem zKR (w:World) (n:Nat) (t:TypeId) (hn:n≤1000000):(w.alloc (.cells (madeCells #[.int .i64 0] n) t)).ownsRow w.heap.size t 1 (.slice (some ⟨w.heap.size,0,none⟩) n n) n (intRow (wAa n 0)):=by
 have h:=zBE (w:=w.alloc (.cells (madeCells #[.int .i64 0] n) t)) (base:=w.heap.size) (e:=t) (cs:=madeCells #[.int .i64 0] n) (Blk.at_ rfl) (Nat.le_refl _) (by rw[size_madeCells];simp only[maxLen];omega);rw[size_madeCells] at h
 have e:(madeCells #[Value.int .i64 0] n).toList=intRow (wAa n 0):=by
  refine List.ext_getElem? fun i=>?_
  unfold intRow madeCells;by_cases hi:i<n
  · simp[hi,Nat.mod_one]
  · simp[hi]
 rw[e] at h;exact h
end Gm
namespace Go.Proofs.Ytkfdhpbnphojoaa
open Go.RowKit Gm
theorem zEr {P:Program} {w:World} {ops:Array Oper} {rest:List Oper} {o:Oper} {A:Act} {Q:Exit→Act→World→Prop} (hg:o.guard=none) (t:TypeId) (x:Operand) (f:Nat) (hop:o.op=Op.field t x f) {v:Value}
 (h:(Instr.field t (A.eval x) f).run P w=.ok v w) (hK:wpList P ops Q rest (A.put o.dst v) w):wpList P ops Q (o::rest) A w:=by
 refine wpList_plain hg fun K' hK'=>?_
 unfold Oper.wp;simp[execOp,hop,h,Result.andThen];exact hK' _ _ hK
theorem zCm (va:Value) (m:Mach) (w:World) (B:Nat) (hB:B≤w.heap.size) (ha:MachAt w B va m) :
 Calls Try.prog 33 #[va] w fun e w'=>∃ v1,e=.returned (.tuple #[v1,.agg #[.int .i64 (detW m).2.1,.int .i64 (detW m).2.2]])∧MachNew w.heap.size w' v1 (detW m).1∧Below w.heap.size w w':=by
 by_cases h1:(silR m).2=(0,0)
 ·by_cases h2:(silR m).1.n=0
  · exact zHR va m w B hB ha (.inr h2)
  · exact zPZ va m w B hB ha h1 h2
 · exact zHR va m w B hB ha (.inl h1)
end Go.Proofs.Ytkfdhpbnphojoaa
