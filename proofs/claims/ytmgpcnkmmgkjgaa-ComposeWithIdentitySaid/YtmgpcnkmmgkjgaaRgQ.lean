/- A machine that grows in memory, wherever its block and its rows lie (for Concatenated): the blocks differ by their types. -/
import Derived.Test.YtmgpcnkmmgkjgaaSdW
namespace Go.Proofs.Ytmgpcnkmmgkjgaa
open Go.RowKit Gm Go.Sort Go.Shelf
set_option linter.unusedSimpArgs false
set_option linter.unusedVariables false
theorem own_blk_ne {w : World} {base sz n O : Nat} {e t : TypeId} {v : Value} {xs : List Value} {cs : Array Value} (h : w.ownsRow base e sz v n xs) (hb : Blk w O t cs) (hne : e ≠ t) : v.ownBlock ≠ some O := by
  rcases h.2 with ⟨rfl, _⟩ | ⟨g1, c1, cur1, rfl, _, hh1, _⟩
  · simp [Value.ownBlock]
  · intro ev
    have : g1 = O := by simpa [Value.ownBlock] using ev
    subst this
    unfold Blk at hb
    rw [hh1] at hb
    injection hb with hb
    injection hb with _ he
    exact hne he
/-- The block O holds a machine with n0 states, q arcs L and r final states F, in rows of its own at or above base. -/
def Mq (w : World) (O base : Nat) (n0 : Int) (q : Nat) (L : List Arc) (r : Nat) (F : List Fnl) : Prop :=
  ∃ A c AF cf, Blk w O 25 #[.int .i64 n0, .slice A q c, .slice AF r cf] ∧ w.ownsRow base 45 5 (.slice A q c) q (arcRow L) ∧ w.ownsRow base 51 2 (.slice AF r cf) r (finRow F)
theorem mq_pushA {w w6 : World} {O base q r : Nat} {n0 : Int} {A AF Av : Option Addr} {c cf cv : Nat} {L : List Arc} {F : List Fnl} {x : Arc} (bO : Blk w O 25 #[.int .i64 n0, .slice A q c, .slice AF r cf]) (hA : w.ownsRow base 45 5 (.slice A q c) q (arcRow L))
    (hF : w.ownsRow base 51 2 (.slice AF r cf) r (finRow F)) (hg : w.grownBy w6 (Value.slice A q c).ownBlock) (hown : w6.ownsRow base 45 5 (.slice Av (q + 1) cv) (q + 1) (arcRow L ++ arcRow [x])) :
    Mq (w6.setCell ⟨O, 1, none⟩ (.slice Av (q + 1) cv)) O base n0 (q + 1) (L ++ [x]) r F := by
  have b6 := bO.grown hg (Ne.symm (own_blk_ne hA bO (by decide)))
  have hF6 := hF.kept hg (own_ne hF hA (by decide))
  exact ⟨Av, cv, AF, cf, b6.set_ 1 _, ownsRow_setCell_other (by rw [arcRow_append]; exact hown) (own_blk_ne hown b6 (by decide)) _, ownsRow_setCell_other hF6 (own_blk_ne hF6 b6 (by decide)) _⟩
theorem mq_pushF {w w6 : World} {O base q r : Nat} {n0 : Int} {A AF Av : Option Addr} {c cf cv : Nat} {L : List Arc} {F : List Fnl} {x : Fnl} (bO : Blk w O 25 #[.int .i64 n0, .slice A q c, .slice AF r cf]) (hA : w.ownsRow base 45 5 (.slice A q c) q (arcRow L))
    (hF : w.ownsRow base 51 2 (.slice AF r cf) r (finRow F)) (hg : w.grownBy w6 (Value.slice AF r cf).ownBlock) (hown : w6.ownsRow base 51 2 (.slice Av (r + 1) cv) (r + 1) (finRow F ++ finRow [x])) :
    Mq (w6.setCell ⟨O, 2, none⟩ (.slice Av (r + 1) cv)) O base n0 q L (r + 1) (F ++ [x]) := by
  have b6 := bO.grown hg (Ne.symm (own_blk_ne hF bO (by decide)))
  have hA6 := hA.kept hg (own_ne hA hF (by decide))
  exact ⟨A, c, Av, cv, b6.set_ 2 _, ownsRow_setCell_other hA6 (own_blk_ne hA6 b6 (by decide)) _, ownsRow_setCell_other (by rw [finRow_append]; exact hown) (own_blk_ne hown b6 (by decide)) _⟩
end Go.Proofs.Ytmgpcnkmmgkjgaa
