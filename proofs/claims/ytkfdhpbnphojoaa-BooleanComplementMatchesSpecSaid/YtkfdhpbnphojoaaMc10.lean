/- Part of the proof. -/
import Derived.Test.YtkfdhpbnphojoaaMc3
import Derived.Test.YtkfdhpbnphojoaaMc9
import Derived.Shelf.SlSortCmp.NoneTotal
set_option linter.unusedSimpArgs false
set_option linter.unusedVariables false
namespace Go.Proofs.Ytkfdhpbnphojoaa
open Go.RowKit Gm Go.Sort Go.Shelf
theorem zMm (A:Option Addr) (c:Nat) (w:World) :
 Calls Try.prog 80 #[.slice A 0 c,.func (.func 81) #[] #[]] w fun e w'=>e=.returned (.tuple #[])∧w'=w:=by
 have h:=AnyF.slices_SortFunc_none Try.laySortA A c (.func (.func 81) #[] #[]) w;exact h
theorem zOP (l:List Arc) (n base:Nat) (v:Value) (w:World) (hl:l.length=n) (hn2:n≤1000000000) (h:w.ownsRow base 64 5 v n (arcRow l)) :
 Calls Try.prog 80 #[v,.func (.func 81) #[] #[]] w fun e w'=>e=.returned (.tuple #[])∧w'.ownsRow base 64 5 v n (arcRow (srtA l))∧w.grownBy w' v.ownBlock:=by
 by_cases hn:0<n
 ·obtain⟨g,c,rfl,_⟩:=zDa h hn;exact (zPR l n c g base w hl hn hn2 h).mono fun e w' ⟨h1,h2,h3⟩=>⟨h1,h2,h3⟩
 ·obtain rfl:n=0:=by omega
  obtain⟨A,c,rfl,_⟩:=zAa h;obtain rfl:l=[]:=List.length_eq_zero_iff.1 hl
  exact (zMm A c w).mono fun e w' ⟨h1,h2⟩=>by
   subst h2;exact⟨h1,h,⟨rfl,rfl,rfl,Nat.le_refl _,fun _ _ _=>rfl⟩⟩
theorem zE6 (a b:Arc) (w:World):(binOp .eql 64 (.agg #[.int .i64 a.f,.int .i64 a.t,.int .i64 a.i,.int .i64 a.o,.int .i64 a.w]) (.agg #[.int .i64 b.f,.int .i64 b.t,.int .i64 b.i,.int .i64 b.o,.int .i64 b.w])).run Try.prog w=.ok (.bool (eqA a b)) w:=by
 have e:eqA a b=(decide (a.f=b.f)&&(decide (a.t=b.t)&&(decide (a.i=b.i)&&(decide (a.o=b.o)&&decide (a.w=b.w))))):=by
  unfold eqA;rw[Bool.eq_iff_iff];simp only[decide_eq_true_eq,Bool.and_eq_true];constructor
  · rintro rfl;exact⟨rfl,rfl,rfl,rfl,rfl⟩
  · rintro⟨h1,h2,h3,h4,h5⟩;exact Arc.ext' h1 h2 h3 h4 h5
 rw[e];simp[go_sem];by_cases e1:a.f=b.f<;>by_cases e2:a.t=b.t<;>by_cases e3:a.i=b.i<;>by_cases e4:a.o=b.o<;>by_cases e5:a.w=b.w<;>simp_all
end Go.Proofs.Ytkfdhpbnphojoaa
