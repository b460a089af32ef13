/- Lists of strings as values; the reference's Joined. -/
import Derived.Test.YtcchpijadlgagaaDoorTkJ
namespace Gm
open Go Go.RowKit
def strCell (l : List (List UInt8)) (i _j : Nat) : Value := .string ⟨(l.getD i []).toArray⟩
/-- The list of strings l, as a value; it lies below block B. -/
def Strs (w : World) (B : Nat) (v : Value) (l : List (List UInt8)) : Prop :=
  ∃ A n c, v = .slice A n c ∧ Hid (l.length = n) ∧ n ≤ c ∧ n ≤ big ∧ Rd w B 1 A n (strCell l) ∧ Hid (∀ x ∈ l, x.length ≤ maxLen)
theorem Strs.below {w w' : World} {B B' : Nat} {v : Value} {l : List (List UInt8)} (h : Strs w B v l) (hb : Below B' w w') (hB : B ≤ B') : Strs w' B v l := by
  obtain ⟨A, n, c, h1, h2, h3, h4, h5, h6⟩ := h
  exact ⟨A, n, c, h1, h2, h3, h4, h5.below hb hB, h6⟩
theorem Strs.mono {w : World} {B B' : Nat} {v : Value} {l : List (List UInt8)} (h : Strs w B v l) (hB : B ≤ B') : Strs w B' v l := by
  obtain ⟨A, n, c, h1, h2, h3, h4, h5, h6⟩ := h
  exact ⟨A, n, c, h1, h2, h3, h4, h5.mono hB, h6⟩
theorem Strs.of_blk {w : World} {g : Nat} {t : TypeId} {cs : Array Value} {l : List (List UInt8)} {n : Nat} (h : Blk w g t cs) (hcs : cs.toList = l.map fun x => .string ⟨x.toArray⟩) (hn : l.length = n) (hb : n ≤ big) (hx : ∀ x ∈ l, x.length ≤ maxLen) : Strs w (g + 1) (.slice (some ⟨g, 0, none⟩) n n) l := by
  subst hn
  refine ⟨_, _, _, rfl, hide rfl, Nat.le_refl _, hb, fun _ => ⟨g, 0, rfl, by omega, fun i j hi hj => ?_⟩, hide hx⟩
  obtain rfl : j = 0 := by omega
  rw [h.cell, ← Array.getElem?_toList, hcs]
  simp [strCell, hi]
theorem str_at {w : World} {B n : Nat} {A : Option Addr} {l : List (List UInt8)} (h : Rd w B 1 A n (strCell l)) (HN : Hid (l.length = n)) (HX : Hid (∀ x ∈ l, x.length ≤ maxLen)) {i : Nat} (hi : i < n) :
    ∃ (b off : Nat) (s : ByteArray), A = some ⟨b, off, none⟩ ∧ b < B ∧ w.cell? ⟨b, off + i, none⟩ = some (.string s) ∧ Hid (l.getD i [] = s.data.toList) ∧ s.size ≤ maxLen ∧ Hid (s = ⟨(l.getD i []).toArray⟩) := by
  obtain ⟨b, off, h1, h2, h3⟩ := h.at1 hi
  refine ⟨b, off, ⟨(l.getD i []).toArray⟩, h1, h2, h3, hide (by simp), ?_, hide rfl⟩
  have := HX.out (l.getD i []) (by
    have hi2 : i < l.length := by rw [HN.out]; exact hi
    simp [List.getD, hi2])
  simpa [ByteArray.size] using this
end Gm
namespace Go.Proofs.YtcchpijadlgagaaDoor
open Go.RowKit Gm
set_option linter.unusedSimpArgs false
set_option linter.unusedVariables false
theorem run_addS (a b c : ByteArray) (hc : c = a ++ b) (h : a.size + b.size ≤ 100000) (W : World) : (binOp .add 9 (.string a) (.string b)).run Tryd.prog W = .ok (.string c) W := by
  subst hc
  simp [go_sem]
  omega
theorem joinR_of {l : List (List UInt8)} {n : Nat} (hn : l.length = n) (h : ¬ 300 < n) {tot : (Int × Int) × List (List UInt8)} (ht : tot = jGo l (n + 1) 0 []) : joinR l = if tot.1 = (0, 0) then jB tot.2.flatten else (tot.1, []) := by
  subst hn; subst ht; unfold joinR; rw [if_neg h]
theorem okW_of {w : List UInt8} {ps : List Int} (h : decR w = ((0, 0), ps)) : okW w = oneB ps := by unfold okW; rw [h]; simp
theorem okW_bad {w : List UInt8} (h : (decR w).1.1 ≠ 0) : okW w = false := by
  unfold okW
  have : (decR w).1 ≠ (0, 0) := fun e => h (by rw [e])
  simp [this]
theorem one_mem {ps : List Int} {q : Int} {m : Nat} (hm : ps.length = m) (hq : cl ps 0 = q) :
    oneB ps = ((decide (m = 1) && decide (q = 6)) || (decide (m = 1) && (decide (q = 1) || decide (q = 3))) || wordB ps || numB ps) := by
  rw [oneB_ref, hm, hq]
end Go.Proofs.YtcchpijadlgagaaDoor
