/- A machine that grows in memory: its lists in rows of its own. Written by gen_rg3.py. -/
import Derived.Test.YtmgpcnkmmgkjgaaRfW
namespace Go.Proofs.Ytmgpcnkmmgkjgaa
open Go.RowKit Gm Go.Sort Go.Shelf
set_option linter.unusedSimpArgs false
set_option linter.unusedVariables false
/-- The block O holds a machine with n0 states, q arcs L and r final states F, in rows of its own at or above base and G. -/
def Mk (w : World) (O base G : Nat) (n0 : Int) (q : Nat) (L : List Arc) (r : Nat) (F : List Fnl) : Prop :=
  ∃ A c AF cf, Blk w O 25 #[.int .i64 n0, .slice A q c, .slice AF r cf] ∧ w.ownsRow base 45 5 (.slice A q c) q (arcRow L) ∧ w.ownsRow G 51 2 (.slice AF r cf) r (finRow F) ∧ (Value.slice AF r cf).ownBlock ≠ some O
theorem mk_pushA {w w6 : World} {O base G q r : Nat} {n0 : Int} {A AF Av : Option Addr} {c cf cv : Nat} {L : List Arc} {F : List Fnl} {x : Arc} (bO : Blk w O 25 #[.int .i64 n0, .slice A q c, .slice AF r cf]) (hA : w.ownsRow base 45 5 (.slice A q c) q (arcRow L))
    (hF : w.ownsRow G 51 2 (.slice AF r cf) r (finRow F)) (hFO : (Value.slice AF r cf).ownBlock ≠ some O) (hg : w.grownBy w6 (Value.slice A q c).ownBlock) (hown : w6.ownsRow base 45 5 (.slice Av (q + 1) cv) (q + 1) (arcRow L ++ arcRow [x])) (hOb : O < base) :
    Mk (w6.setCell ⟨O, 1, none⟩ (.slice Av (q + 1) cv)) O base G n0 (q + 1) (L ++ [x]) r F := by
  have hne : some O ≠ (Value.slice A q c).ownBlock := fun e => by have := (hA.lt O e.symm).1; omega
  exact ⟨Av, cv, AF, cf, (bO.grown hg hne).set_ 1 _, ownsRow_setCell_below (by rw [arcRow_append]; exact hown) (by simpa using hOb) _, ownsRow_setCell_other (hF.kept hg (own_ne hF hA (by decide))) hFO _, hFO⟩
theorem mk_pushF {w w6 : World} {O base G q r : Nat} {n0 : Int} {A AF Av : Option Addr} {c cf cv : Nat} {L : List Arc} {F : List Fnl} {x : Fnl} (bO : Blk w O 25 #[.int .i64 n0, .slice A q c, .slice AF r cf]) (hA : w.ownsRow base 45 5 (.slice A q c) q (arcRow L))
    (hF : w.ownsRow G 51 2 (.slice AF r cf) r (finRow F)) (hFO : (Value.slice AF r cf).ownBlock ≠ some O) (hg : w.grownBy w6 (Value.slice AF r cf).ownBlock) (hown : w6.ownsRow G 51 2 (.slice Av (r + 1) cv) (r + 1) (finRow F ++ finRow [x])) (hOb : O < base) (hOG : O < G) :
    Mk (w6.setCell ⟨O, 2, none⟩ (.slice Av (r + 1) cv)) O base G n0 q L (r + 1) (F ++ [x]) := by
  exact ⟨A, c, Av, cv, (bO.grown hg (Ne.symm hFO)).set_ 2 _, ownsRow_setCell_below (hA.kept hg (own_ne hA hF (by decide))) (by simpa using hOb) _, ownsRow_setCell_below (by rw [finRow_append]; exact hown) (by simpa using hOG) _, fun e => by have := (hown.lt O e).1; omega⟩
end Go.Proofs.Ytmgpcnkmmgkjgaa
