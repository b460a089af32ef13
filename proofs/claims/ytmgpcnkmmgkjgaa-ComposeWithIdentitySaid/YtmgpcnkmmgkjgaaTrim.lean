/- machine.Trim of a valid machine: the machine without the states that are on no path. -/
import Derived.Test.YtmgpcnkmmgkjgaaTrimA
namespace Go.Proofs.Ytmgpcnkmmgkjgaa
open Go.RowKit Gm
set_option linter.unusedSimpArgs false
theorem own_set5 {w : World} {base sz n : Nat} {e : TypeId} {v : Value} {xs : List Value} (h : w.ownsRow base e sz v n xs) {p1 p2 p3 p4 p5 : Addr} (h1 : p1.block < base) (h2 : p2.block < base) (h3 : p3.block < base) (h4 : p4.block < base) (h5 : p5.block < base) (u1 u2 u3 u4 u5 : Value) :
    (((((w.setCell p1 u1).setCell p2 u2).setCell p3 u3).setCell p4 u4).setCell p5 u5).ownsRow base e sz v n xs :=
  ownsRow_setCell_below (ownsRow_setCell_below (ownsRow_setCell_below (ownsRow_setCell_below (ownsRow_setCell_below h h1 u1) h2 u2) h3 u3) h4 u4) h5 u5
end Go.Proofs.Ytmgpcnkmmgkjgaa
