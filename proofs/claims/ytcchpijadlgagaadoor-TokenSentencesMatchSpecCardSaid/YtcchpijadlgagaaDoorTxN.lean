/- Numbers of package glosswrightequal; lists of ints as values; the closed example decoded. -/
import Derived.Test.YtcchpijadlgagaaDoorTxE3
namespace Gm
open Go Go.RowKit
theorem dropI_eq_iff {l k : List Int} {j : Nat} (h1 : j < l.length) (h2 : l.length = k.length) :
    decide (l.drop j = k.drop j) = if l.getD j 0 = k.getD j 0 then decide (l.drop (j + 1) = k.drop (j + 1)) else false := by
  have e1 : l.getD j 0 = l[j] := by simp [h1]
  have e2 : k.getD j 0 = k[j]'(by omega) := by simp [show j < k.length by omega]
  have e3 : l.drop j = l[j] :: l.drop (j + 1) := List.drop_eq_getElem_cons h1
  have e4 : k.drop j = k[j]'(by omega) :: k.drop (j + 1) := List.drop_eq_getElem_cons (show j < k.length by omega)
  rw [e1, e2, e3, e4]
  by_cases h : l[j] = k[j]'(by omega)
  · rw [if_pos h, h]; simp only [List.cons.injEq, true_and]
  · rw [if_neg h]; simp only [List.cons.injEq, h, false_and, decide_false]
/-- The list of ints l, as a value; it lies below block B. -/
def Ints (w : World) (B : Nat) (v : Value) (l : List Int) : Prop :=
  ∃ A n c, v = .slice A n c ∧ Hid (l.length = n) ∧ n ≤ c ∧ n ≤ big ∧ Rd w B 1 A n (intCell l)
theorem Ints.below {w w' : World} {B B' : Nat} {v : Value} {l : List Int} (h : Ints w B v l) (hb : Below B' w w') (hB : B ≤ B') : Ints w' B v l := by
  obtain ⟨A, n, c, h1, h2, h3, h4, h5⟩ := h
  exact ⟨A, n, c, h1, h2, h3, h4, h5.below hb hB⟩
theorem Ints.mono {w : World} {B B' : Nat} {v : Value} {l : List Int} (h : Ints w B v l) (hB : B ≤ B') : Ints w B' v l := by
  obtain ⟨A, n, c, h1, h2, h3, h4, h5⟩ := h
  exact ⟨A, n, c, h1, h2, h3, h4, h5.mono hB⟩
theorem Ints.drewN {w : World} {B : Nat} {v : Value} {l : List Int} (h : Ints w B v l) (k : Nat) : Ints (w.drewN k) B v l := h
theorem Ints.of_own {w : World} {base n : Nat} {e : TypeId} {v : Value} {l : List Int} (h : w.ownsRow base e 1 v n (intRow l)) (hn : l.length = n) (hb : n ≤ big) : Ints w w.heap.size v l := by
  obtain ⟨A, c, rfl, hc, _⟩ := own_value h
  exact ⟨A, n, c, rfl, hide hn, hc, hb, Rd.of_own h (by subst hn; exact intRow_at l)⟩
theorem Ints.of_blk {w : World} {g : Nat} {t : TypeId} {cs : Array Value} {l : List Int} {n : Nat} (h : Blk w g t cs) (hcs : cs.toList = intRow l) (hn : l.length = n) (hb : n ≤ big) : Ints w (g + 1) (.slice (some ⟨g, 0, none⟩) n n) l := by
  subst hn
  exact ⟨_, _, _, rfl, hide rfl, Nat.le_refl _, hb, Rd.of_blk h hcs⟩
theorem Ints.nil (w : World) (B : Nat) : Ints w B (.slice none 0 0) [] := ⟨none, 0, 0, rfl, hide rfl, Nat.le_refl _, by simp [big], Rd.zero⟩
end Gm
namespace Go.Proofs.YtcchpijadlgagaaDoor
open Go.RowKit Gm
set_option linter.unusedSimpArgs false
theorem encode_ints (v : Value) (ps : List Int) (w : World) (B : Nat) (hB : B ≤ w.heap.size) (h : Ints w B v ps) :
    Calls Tryd.prog 41 #[v] w fun e w' => e = .returned (.tuple #[.string ⟨(encR ps).2.toArray⟩, .agg #[.int .i64 (encR ps).1.1, .int .i64 (encR ps).1.2]]) ∧ Below w.heap.size w w' := by
  obtain ⟨A, n, c, rfl, h2, h3, h4, h5⟩ := h
  exact encode_any A n c ps w B h2.out h4 hB h5
end Go.Proofs.YtcchpijadlgagaaDoor
