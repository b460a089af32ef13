/- Tokens of a list of code points, as plain data. No program in sight but the classes. -/
import Derived.Test.YtcchpijadlgagaaDoorTxG
namespace Gm
open Go Go.RowKit
structure Tok where
  k : Int
  s : Int
  e : Int
  t : List UInt8
def dT : Tok := ⟨0, 0, 0, []⟩
theorem Tok.ext' {a b : Tok} (h1 : a.k = b.k) (h2 : a.s = b.s) (h3 : a.e = b.e) (h4 : a.t = b.t) : a = b := by
  cases a; cases b; simp_all
instance : DecidableEq Tok := fun a b =>
  decidable_of_iff (a.k = b.k ∧ a.s = b.s ∧ a.e = b.e ∧ a.t = b.t) ⟨fun h => Tok.ext' h.1 h.2.1 h.2.2.1 h.2.2.2, fun h => by subst h; exact ⟨rfl, rfl, rfl, rfl⟩⟩
def tokVals (a : Tok) : List Value := [.int .i64 a.k, .int .i64 a.s, .int .i64 a.e, .string ⟨a.t.toArray⟩]
def tokRow (l : List Tok) : List Value := l.flatMap tokVals
theorem tokRow_cons (a : Tok) (l : List Tok) : tokRow (a :: l) = tokVals a ++ tokRow l := rfl
theorem tokRow_append (l k : List Tok) : tokRow (l ++ k) = tokRow l ++ tokRow k := by simp [tokRow]
theorem tokRow_length (l : List Tok) : (tokRow l).length = l.length * 4 := by
  induction l with
  | nil => rfl
  | cons a l ih => rw [tokRow_cons, List.length_append, ih, List.length_cons]; simp [tokVals]; omega
def tokCell (l : List Tok) (i j : Nat) : Value := match j with
  | 0 => .int .i64 (l.getD i dT).k | 1 => .int .i64 (l.getD i dT).s | 2 => .int .i64 (l.getD i dT).e | _ => .string ⟨(l.getD i dT).t.toArray⟩
theorem tokRow_at : ∀ (l : List Tok) (i j : Nat), i < l.length → j < 4 → (tokRow l)[i * 4 + j]? = some (tokCell l i j)
  | [], i, j, h, _ => by simp at h
  | a :: l, 0, j, _, hj => by
    rw [tokRow_cons]
    rcases (by omega : j = 0 ∨ j = 1 ∨ j = 2 ∨ j = 3) with rfl | rfl | rfl | rfl <;> rfl
  | a :: l, i + 1, j, h, hj => by
    have ih := tokRow_at l i j (by simpa using h) hj
    rw [tokRow_cons, List.getElem?_append_right (by simp [tokVals]; omega)]
    have e2 : (i + 1) * 4 + j - (tokVals a).length = i * 4 + j := by simp [tokVals]; omega
    rw [e2, ih]
    simp [tokCell]
theorem tokRow_one (l : List Tok) : ∀ u ∈ tokRow l, u.oneCell' = true := by
  intro u hu
  obtain ⟨x, _, hx⟩ := List.mem_flatMap.1 hu
  simp [tokVals] at hx
  rcases hx with rfl | rfl | rfl | rfl <;> rfl
/-- The bytes before point i. -/
def ofs (ps : List Int) (i : Nat) : Nat := (encL (ps.take i)).length
theorem ofs_zero (ps : List Int) : ofs ps 0 = 0 := by simp [ofs, encL]
theorem ofs_push {ps : List Int} {i : Nat} (h : i < ps.length) : ofs ps (i + 1) = ofs ps i + (enc1 (ps.getD i 0)).length := by
  unfold ofs; rw [encL_push h rfl, List.length_append]
theorem ofs_le (ps : List Int) (i : Nat) : ofs ps i ≤ 4 * i := encL_take_le ps i
theorem encL_split (ps : List Int) (i : Nat) : encL ps = encL (ps.take i) ++ encL (ps.drop i) := by rw [← encL_append, List.take_append_drop]
theorem ofs_mono (ps : List Int) {i j : Nat} (h : i ≤ j) : ofs ps i ≤ ofs ps j := by
  unfold ofs
  have e : ps.take j = ps.take i ++ (ps.take j).drop i := by
    have := List.take_append_drop i (ps.take j)
    rw [List.take_take, Nat.min_eq_left h] at this
    exact this.symm
  rw [e, encL_append, List.length_append]; omega
theorem ofs_total (ps : List Int) (i : Nat) : ofs ps i ≤ (encL ps).length := by
  rw [encL_split ps i, List.length_append]; unfold ofs; omega
/-- The text of the points i .. j-1. -/
def sub (ps : List Int) (i j : Nat) : List UInt8 := encL ((ps.take j).drop i)
theorem sub_take (ps : List Int) {i j : Nat} (h : i ≤ j) : ((encL ps).drop (ofs ps i)).take (ofs ps j - ofs ps i) = sub ps i j := by
  have e1 : encL ps = encL (ps.take i) ++ (encL ((ps.take j).drop i) ++ encL (ps.drop j)) := by
    rw [← encL_append, ← encL_append]
    congr 1
    have h2 : ps.take j = ps.take i ++ (ps.take j).drop i := by
      have := List.take_append_drop i (ps.take j)
      rw [List.take_take, Nat.min_eq_left h] at this
      exact this.symm
    rw [← List.append_assoc, ← h2, List.take_append_drop]
  have e2 : ofs ps j = ofs ps i + (encL ((ps.take j).drop i)).length := by
    unfold ofs
    have h2 : ps.take j = ps.take i ++ (ps.take j).drop i := by
      have := List.take_append_drop i (ps.take j)
      rw [List.take_take, Nat.min_eq_left h] at this
      exact this.symm
    conv => lhs; rw [h2, encL_append, List.length_append]
  rw [e2, Nat.add_sub_cancel_left, e1]
  unfold ofs
  rw [List.drop_left, List.take_left]
  rfl
theorem sub_len (ps : List Int) {i j : Nat} (h : i ≤ j) : ofs ps i + (sub ps i j).length = ofs ps j := by
  unfold ofs sub
  have h2 : ps.take j = ps.take i ++ (ps.take j).drop i := by
    have := List.take_append_drop i (ps.take j)
    rw [List.take_take, Nat.min_eq_left h] at this
    exact this.symm
  conv => rhs; rw [h2, encL_append, List.length_append]
end Gm
namespace Go.Proofs.YtcchpijadlgagaaDoor
open Go.RowKit Gm
/-- The class of point i. -/
def cl (ps : List Int) (i : Nat) : Int := clsP (ps.getD i 0)
/-- Does a word go on at point j, a number? -/
def insB (ps : List Int) (j : Nat) : Bool := decide (j < ps.length) && (decide (cl ps j = 2) || decide (cl ps j = 3))
def digB (ps : List Int) (j : Nat) : Bool := decide (j < ps.length) && decide (cl ps j = 4)
def wOK (ps : List Int) (j : Nat) : Bool := insB ps j || (decide (j + 1 < ps.length) && (decide (ps.getD j 0 = 45) || decide (ps.getD j 0 = 39)) && decide (cl ps (j + 1) = 2))
def nOK (ps : List Int) (j : Nat) : Bool := digB ps j || (decide (j < ps.length) && (decide (ps.getD j 0 = 46) || decide (ps.getD j 0 = 44)) && digB ps (j + 1))
def wEnd (ps : List Int) : Nat → Nat → Nat
  | 0, j => j
  | f + 1, j => if wOK ps j = true then wEnd ps f (j + 1) else j
def nEnd (ps : List Int) : Nat → Nat → Nat
  | 0, j => j
  | f + 1, j => if nOK ps j = true then nEnd ps f (j + 1) else j
theorem wOK_lt {ps : List Int} {j : Nat} (h : wOK ps j = true) : j < ps.length := by
  unfold wOK insB at h
  simp at h
  omega
theorem nOK_lt {ps : List Int} {j : Nat} (h : nOK ps j = true) : j < ps.length := by
  unfold nOK digB at h
  simp at h
  omega
theorem wEnd_ok {ps : List Int} {f j : Nat} (h : wOK ps j = true) (hf : ps.length < f + j) : wEnd ps f j = wEnd ps (f - 1) (j + 1) := by
  have := wOK_lt h
  obtain ⟨f, rfl⟩ : ∃ g, f = g + 1 := ⟨f - 1, by omega⟩
  rw [wEnd, if_pos h]; rfl
theorem wEnd_no {ps : List Int} {f j : Nat} (h : wOK ps j = false) : wEnd ps f j = j := by
  cases f with
  | zero => rfl
  | succ f => rw [wEnd, if_neg (by rw [h]; simp)]
theorem nEnd_ok {ps : List Int} {f j : Nat} (h : nOK ps j = true) (hf : ps.length < f + j) : nEnd ps f j = nEnd ps (f - 1) (j + 1) := by
  have := nOK_lt h
  obtain ⟨f, rfl⟩ : ∃ g, f = g + 1 := ⟨f - 1, by omega⟩
  rw [nEnd, if_pos h]; rfl
theorem nEnd_no {ps : List Int} {f j : Nat} (h : nOK ps j = false) : nEnd ps f j = j := by
  cases f with
  | zero => rfl
  | succ f => rw [nEnd, if_neg (by rw [h]; simp)]
theorem wEnd_bd (ps : List Int) : ∀ (f j : Nat), j ≤ ps.length → j ≤ wEnd ps f j ∧ wEnd ps f j ≤ ps.length
  | 0, j, h => ⟨Nat.le_refl _, h⟩
  | f + 1, j, h => by
    unfold wEnd
    split
    · rename_i h1
      have := wEnd_bd ps f (j + 1) (wOK_lt h1)
      omega
    · exact ⟨Nat.le_refl _, h⟩
theorem nEnd_bd (ps : List Int) : ∀ (f j : Nat), j ≤ ps.length → j ≤ nEnd ps f j ∧ nEnd ps f j ≤ ps.length
  | 0, j, h => ⟨Nat.le_refl _, h⟩
  | f + 1, j, h => by
    unfold nEnd
    split
    · rename_i h1
      have := nEnd_bd ps f (j + 1) (nOK_lt h1)
      omega
    · exact ⟨Nat.le_refl _, h⟩
/-- The kind of the token at point i, and the point behind it. -/
def tokK (ps : List Int) (i : Nat) : Int := if cl ps i = 2 then 1 else if cl ps i = 4 then 2 else if cl ps i = 6 then 3 else 4
def tokJ (ps : List Int) (i : Nat) : Nat := if cl ps i = 2 then wEnd ps (ps.length + 1) (i + 1) else if cl ps i = 4 then nEnd ps (ps.length + 1) (i + 1) else i + 1
theorem tokJ_bd {ps : List Int} {i : Nat} (h : i < ps.length) : i < tokJ ps i ∧ tokJ ps i ≤ ps.length := by
  unfold tokJ
  have h1 := wEnd_bd ps (ps.length + 1) (i + 1) h
  have h2 := nEnd_bd ps (ps.length + 1) (i + 1) h
  (repeat' split) <;> omega
def tokAt (ps : List Int) (i : Nat) : Tok := ⟨tokK ps i, ofs ps i, ofs ps (tokJ ps i), sub ps i (tokJ ps i)⟩
/-- All tokens from point i on; f: so many rounds at the most. -/
def toksGo (ps : List Int) : Nat → Nat → List Tok → List Tok
  | 0, _, acc => acc
  | f + 1, i, acc => if i < ps.length then (if cl ps i = 5 then toksGo ps f (i + 1) acc else toksGo ps f (tokJ ps i) (acc ++ [tokAt ps i])) else acc
theorem toksGo_end {ps : List Int} {f i : Nat} {acc : List Tok} (h : ¬ i < ps.length) : toksGo ps f i acc = acc := by
  cases f with
  | zero => rfl
  | succ f => rw [toksGo, if_neg h]
theorem toksGo_space {ps : List Int} {f i : Nat} {acc : List Tok} (h : i < ps.length) (hc : cl ps i = 5) : toksGo ps (f + 1) i acc = toksGo ps f (i + 1) acc := by
  rw [toksGo, if_pos h, if_pos hc]
theorem toksGo_tok {ps : List Int} {f i : Nat} {acc : List Tok} (h : i < ps.length) (hc : cl ps i ≠ 5) : toksGo ps (f + 1) i acc = toksGo ps f (tokJ ps i) (acc ++ [tokAt ps i]) := by
  rw [toksGo, if_pos h, if_neg hc]
theorem toksGo_le (ps : List Int) : ∀ (f i : Nat) (acc : List Tok), acc.length ≤ (toksGo ps f i acc).length
  | 0, _, _ => Nat.le_refl _
  | f + 1, i, acc => by
    unfold toksGo
    split
    · split
      · exact toksGo_le ps f _ acc
      · have := toksGo_le ps f (tokJ ps i) (acc ++ [tokAt ps i])
        simp at this; omega
    · exact Nat.le_refl _
def toks (ps : List Int) : List Tok := toksGo ps (ps.length + 1) 0 []
def cutB (l : List Tok) : (Int × Int) × List Tok := if 300 < l.length then ((2, -1), []) else ((0, 0), l)
/-- What Cut returns. -/
def cutR (l : List UInt8) : (Int × Int) × List Tok := if (decR l).1 = (0, 0) then cutB (toks (decR l).2) else ((decR l).1, [])
end Go.Proofs.YtcchpijadlgagaaDoor
