/- A word of labels is checked: machine.word, the reference's WordFault, rational.right. -/
import Derived.Test.YtopakcbhodnipaaCmp
import Derived.Test.YtopakcbhodnipaaOwn
import Derived.Deep.LoopGhost
namespace Gm
open Go Go.RowKit
/-- The list of numbers l, as a value; it lies below block B. -/
def Nums (w : World) (B : Nat) (v : Value) (l : List Int) : Prop :=
  ∃ A n c, v = .slice A n c ∧ Hid (l.length = n) ∧ n ≤ c ∧ n ≤ big ∧ Rd w B 1 A n (intCell l)
theorem Nums.below {w w' : World} {B B' : Nat} {v : Value} {l : List Int} (h : Nums w B v l) (hb : Below B' w w') (hB : B ≤ B') : Nums w' B v l := by
  obtain ⟨A, n, c, h1, h2, h3, h4, h5⟩ := h
  exact ⟨A, n, c, h1, h2, h3, h4, h5.below hb hB⟩
theorem Nums.mono {w : World} {B B' : Nat} {v : Value} {l : List Int} (h : Nums w B v l) (hB : B ≤ B') : Nums w B' v l := by
  obtain ⟨A, n, c, h1, h2, h3, h4, h5⟩ := h
  exact ⟨A, n, c, h1, h2, h3, h4, h5.mono hB⟩
theorem num_at {w : World} {B n : Nat} {A : Option Addr} {l : List Int} (h : Rd w B 1 A n (intCell l)) {k : Nat} (hk : k < n) :
    ∃ b off x, A = some ⟨b, off, none⟩ ∧ b < B ∧ w.cell? ⟨b, off + k, none⟩ = some (.int .i64 x) ∧ Hid (l.getD k 0 = x) := by
  obtain ⟨b, off, h1, h2, h3⟩ := h.at1 hk
  exact ⟨b, off, l.getD k 0, h1, h2, h3, hide rfl⟩
def okL (x : Int) : Prop := 1 ≤ x ∧ x ≤ 1114111
instance (x : Int) : Decidable (okL x) := inferInstanceAs (Decidable (1 ≤ x ∧ x ≤ 1114111))
/-- The fault of a word. -/
def wordF (l : List Int) (ix : Int) : Int × Int := if 30 < l.length then (2, ix) else if ∀ x ∈ l, okL x then (0, 0) else (3, ix)
theorem take_snoc {l : List Int} {k : Nat} {x : Int} (hk : k < l.length) (hx : l.getD k 0 = x) : l.take (k + 1) = l.take k ++ [x] := by
  subst hx
  rw [List.take_add_one]
  congr 1
  simp [List.getD, hk]
theorem wordF_zero {l : List Int} {ix : Int} (h : (wordF l ix).1 = 0) : wordF l ix = (0, 0) ∧ l.length ≤ 30 ∧ ∀ x ∈ l, okL x := by
  unfold wordF at h ⊢
  by_cases h1 : 30 < l.length
  · rw [if_pos h1] at h; cases h
  · rw [if_neg h1] at h ⊢
    by_cases h2 : ∀ x ∈ l, okL x
    · rw [if_pos h2]; exact ⟨rfl, by omega, h2⟩
    · rw [if_neg h2] at h; cases h
end Gm
namespace Go.Proofs.Ytopakcbhodnipaa
open Go.RowKit Gm
set_option linter.unusedSimpArgs false
set_option linter.unusedVariables false
end Go.Proofs.Ytopakcbhodnipaa
