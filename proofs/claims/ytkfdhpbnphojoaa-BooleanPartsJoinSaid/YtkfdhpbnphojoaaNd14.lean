/- Part of the proof. -/
import Derived.Test.YtkfdhpbnphojoaaNd10
import Derived.Deep.CutRange
import Derived.IntWalk
set_option linter.unusedSimpArgs false
set_option linter.unusedVariables false
namespace Gm
open Go Go.RowKit
theorem zC3 {w w':World} {base sz n:Nat} {e:TypeId} {v:Value} {xs:List Value} (h:w.ownsRow base e sz v n xs) (hb:Below w.heap.size w w'):w'.ownsRow base e sz v n xs :=
 zFh h hb.size (fun b _ hlt=>hb.block b hlt)
theorem zCH (a:Arc) (l:List Arc):arcRow (a::l)=[.int .i64 a.f,.int .i64 a.t,.int .i64 a.i,.int .i64 a.o,.int .i64 a.w]++arcRow l:=rfl
theorem zC4:∀ (l:List Arc) (k:Nat) (x:Arc),k<l.length →
 (((((arcRow l).set (k*5) (.int .i64 x.f)).set (k*5+1) (.int .i64 x.t)).set (k*5+2) (.int .i64 x.i)).set (k*5+3) (.int .i64 x.o)).set (k*5+4) (.int .i64 x.w)=arcRow (l.set k x)
 | [],k,x,h=>by simp at h
 | a::l,0,x,_=>by
  rw[List.set_cons_zero,zCH,zCH];rfl
 | a::l,k+1,x,h=>by
  have ih:=zC4 l k x (by simpa using h);rw[List.set_cons_succ,zCH,zCH,← ih];have e:(k+1)*5=k*5+5:=by omega
  rw[e];rfl
theorem zAF {w:World} {base n:Nat} {e:TypeId} {l:List Arc} {g cap:Nat} (h:w.ownsRow base e 5 (.slice (some ⟨g,0,none⟩) n cap) n (arcRow l)) (hn:l.length=n) {k:Nat} (hk:k<n) {x:Arc} (hx:l.getD k dA=x) :
 w.cell? ⟨g,k*5,none⟩=some (.int .i64 x.f)∧w.cell? ⟨g,k*5+1,none⟩=some (.int .i64 x.t)∧w.cell? ⟨g,k*5+2,none⟩=some (.int .i64 x.i)∧w.cell? ⟨g,k*5+3,none⟩=some (.int .i64 x.o)∧w.cell? ⟨g,k*5+4,none⟩=some (.int .i64 x.w):=by
 have key:∀ j,j<5→w.cell? ⟨g,k*5+j,none⟩=some (arcCell l k j):=fun j hj=>by
  have h1:=zAr l k j (by omega) hj
  have:=h.cells (g:=g) rfl (k*5+j) _ h1
  have e:(⟨g,0,none⟩:Addr).add (k*5+j)=⟨g,k*5+j,none⟩:=by unfold Addr.add;split<;>simp_all
  rwa [e] at this
 subst hx;exact⟨key 0 (by omega),key 1 (by omega),key 2 (by omega),key 3 (by omega),key 4 (by omega)⟩
end Gm
