/- Sentences of a list of tokens: plain law, and lists of spans as values. -/
import Derived.Test.YtcchpijadlgagaaDoorTkF
import Derived.Test.YtcchpijadlgagaaDoorTkV
namespace Gm
open Go Go.RowKit
def spVals (a : Nat × Nat) : List Value := [.int .i64 (a.1 : Int), .int .i64 (a.2 : Int)]
def spRow (l : List (Nat × Nat)) : List Value := l.flatMap spVals
theorem spRow_cons (a : Nat × Nat) (l : List (Nat × Nat)) : spRow (a :: l) = spVals a ++ spRow l := rfl
theorem spRow_append (l k : List (Nat × Nat)) : spRow (l ++ k) = spRow l ++ spRow k := by simp [spRow]
def spCell (l : List (Nat × Nat)) (i j : Nat) : Value := match j with
  | 0 => .int .i64 ((l.getD i (0, 0)).1 : Int) | _ => .int .i64 ((l.getD i (0, 0)).2 : Int)
theorem spRow_at : ∀ (l : List (Nat × Nat)) (i j : Nat), i < l.length → j < 2 → (spRow l)[i * 2 + j]? = some (spCell l i j)
  | [], i, j, h, _ => by simp at h
  | a :: l, 0, j, _, hj => by
    rw [spRow_cons]
    rcases (by omega : j = 0 ∨ j = 1) with rfl | rfl <;> rfl
  | a :: l, i + 1, j, h, hj => by
    have ih := spRow_at l i j (by simpa using h) hj
    rw [spRow_cons, List.getElem?_append_right (by simp [spVals]; omega)]
    have e2 : (i + 1) * 2 + j - (spVals a).length = i * 2 + j := by simp [spVals]; omega
    rw [e2, ih]
    rcases (by omega : j = 0 ∨ j = 1) with rfl | rfl <;> simp [spCell]
/-- The list of spans l, as a value; it lies below block B. -/
def SpansAt (w : World) (B : Nat) (v : Value) (l : List (Nat × Nat)) : Prop :=
  ∃ A n c, v = .slice A n c ∧ Hid (l.length = n) ∧ n ≤ c ∧ n ≤ big ∧ Rd w B 2 A n (spCell l)
theorem SpansAt.below {w w' : World} {B B' : Nat} {v : Value} {l : List (Nat × Nat)} (h : SpansAt w B v l) (hb : Below B' w w') (hB : B ≤ B') : SpansAt w' B v l := by
  obtain ⟨A, n, c, h1, h2, h3, h4, h5⟩ := h
  exact ⟨A, n, c, h1, h2, h3, h4, h5.below hb hB⟩
theorem SpansAt.mono {w : World} {B B' : Nat} {v : Value} {l : List (Nat × Nat)} (h : SpansAt w B v l) (hB : B ≤ B') : SpansAt w B' v l := by
  obtain ⟨A, n, c, h1, h2, h3, h4, h5⟩ := h
  exact ⟨A, n, c, h1, h2, h3, h4, h5.mono hB⟩
theorem SpansAt.of_own {w : World} {base n : Nat} {e : TypeId} {v : Value} {l : List (Nat × Nat)} (h : w.ownsRow base e 2 v n (spRow l)) (hn : l.length = n) (hb : n ≤ big) : SpansAt w w.heap.size v l := by
  obtain ⟨A, c, rfl, hc, _⟩ := own_value h
  exact ⟨A, n, c, rfl, hide hn, hc, hb, Rd.of_own h (by subst hn; exact spRow_at l)⟩
theorem SpansAt.of_blk {w : World} {g : Nat} {t : TypeId} {cs : Array Value} {l : List (Nat × Nat)} {n : Nat} (h : Blk w g t cs) (hcs : cs.toList = spRow l) (hn : l.length = n) (hb : n ≤ big) : SpansAt w (g + 1) (.slice (some ⟨g, 0, none⟩) n n) l := by
  subst hn
  refine ⟨_, _, _, rfl, hide rfl, Nat.le_refl _, hb, fun _ => ⟨g, 0, rfl, by omega, fun i j hi hj => ?_⟩⟩
  have h1 := spRow_at l i j hi hj
  rw [h.cell, ← Array.getElem?_toList, hcs, Nat.zero_add, h1]
theorem sp_at {w : World} {B n : Nat} {A : Option Addr} {l : List (Nat × Nat)} (h : Rd w B 2 A n (spCell l)) {k : Nat} (hk : k < n) :
    ∃ b off x y, A = some ⟨b, off, none⟩ ∧ b < B ∧ w.cell? ⟨b, off + k * 2, none⟩ = some (.int .i64 ((x : Nat) : Int)) ∧ w.cell? ⟨b, off + k * 2 + 1, none⟩ = some (.int .i64 ((y : Nat) : Int)) ∧ Hid (l.getD k (0, 0) = (x, y)) := by
  obtain ⟨b, off, h1, h2, c0, c1⟩ := h.at2 hk
  exact ⟨b, off, (l.getD k (0, 0)).1, (l.getD k (0, 0)).2, h1, h2, c0, c1, hide rfl⟩
end Gm
namespace Go.Proofs.YtcchpijadlgagaaDoor
open Go.RowKit Gm
set_option linter.unusedSimpArgs false
set_option linter.unusedVariables false
/-- A word's first point can be folded. -/
def capB (t : Tok) : Bool := decide (lowP ((decR t.t).2.getD 0 0) ≠ (decR t.t).2.getD 0 0)
/-- The stop t stands behind one letter b. -/
def dotB (b t : Tok) : Bool := decide (b.k = 1) && (decide (b.e = t.s) && decide ((decR b.t).2.length = 1))
/-- Does a sentence end behind token t, if n follows, and b stands before it (i: whether one does)? -/
def endT (b t n : Tok) (i : Nat) : Bool :=
  if t.k ≠ 3 ∨ n.k = 3 then false else if t.t = [46] ∧ 0 < i ∧ dotB b t = true then false else if n.k = 1 then capB n else true
def endsB (L : List Tok) (i : Nat) : Bool := if i + 1 = L.length then true else endT (L.getD (i - 1) dT) (L.getD i dT) (L.getD (i + 1) dT) i
/-- All spans from token k on; a: where the sentence begins; f: so many rounds at the most. -/
def senGo (L : List Tok) : Nat → Nat → Nat → List (Nat × Nat) → List (Nat × Nat)
  | 0, _, _, acc => acc
  | f + 1, k, a, acc => if k < L.length then (if endsB L k = true then senGo L f (k + 1) (k + 1) (acc ++ [(a, k + 1)]) else senGo L f (k + 1) a acc) else acc
theorem senGo_end {L : List Tok} {f k a : Nat} {acc : List (Nat × Nat)} (h : ¬ k < L.length) : senGo L f k a acc = acc := by
  cases f with
  | zero => rfl
  | succ f => rw [senGo, if_neg h]
theorem senGo_yes {L : List Tok} {f k a : Nat} {acc : List (Nat × Nat)} (h : k < L.length) (h2 : endsB L k = true) : senGo L (f + 1) k a acc = senGo L f (k + 1) (k + 1) (acc ++ [(a, k + 1)]) := by
  rw [senGo, if_pos h, if_pos h2]
theorem senGo_no {L : List Tok} {f k a : Nat} {acc : List (Nat × Nat)} (h : k < L.length) (h2 : endsB L k = false) : senGo L (f + 1) k a acc = senGo L f (k + 1) a acc := by
  rw [senGo, if_pos h, if_neg (by rw [h2]; simp)]
theorem senGo_le {L : List Tok} : ∀ (f k a : Nat) (acc : List (Nat × Nat)), acc.length ≤ k → (senGo L f k a acc).length ≤ max k L.length
  | 0, k, a, acc, h => by unfold senGo; omega
  | f + 1, k, a, acc, h => by
    unfold senGo
    split
    · split
      · have := senGo_le (L := L) f (k + 1) (k + 1) (acc ++ [(a, k + 1)]) (by simp; omega)
        omega
      · have := senGo_le (L := L) f (k + 1) a acc (by omega)
        omega
    · omega
def sens (L : List Tok) : List (Nat × Nat) := senGo L (L.length + 1) 0 0 []
/-- What Sentences returns. -/
def senR (l : List UInt8) : (Int × Int) × List (Nat × Nat) := if (cutR l).1 = (0, 0) then ((0, 0), sens (cutR l).2) else ((cutR l).1, [])
/-- The spans l lead from a to b, none empty. -/
def Chain : Nat → List (Nat × Nat) → Nat → Prop
  | a, [], b => a = b
  | a, x :: l, b => x.1 = a ∧ x.1 < x.2 ∧ Chain x.2 l b
theorem chain_push : ∀ {l : List (Nat × Nat)} {a b c : Nat}, Chain a l b → b < c → Chain a (l ++ [(b, c)]) c
  | [], a, b, c, h, hc => by
    unfold Chain at h; subst h
    exact ⟨rfl, hc, rfl⟩
  | x :: l, a, b, c, ⟨h1, h2, h3⟩, hc => ⟨h1, h2, chain_push h3 hc⟩
theorem senGo_chain {L : List Tok} : ∀ (f k a : Nat) (acc : List (Nat × Nat)), L.length < f + k → k ≤ L.length → a ≤ k → (k = L.length → a = k) → Chain 0 acc a → Chain 0 (senGo L f k a acc) L.length
  | 0, k, a, acc, h, hk, _, _, _ => by omega
  | f + 1, k, a, acc, h, hk, ha, he, hc => by
    by_cases hl : k < L.length
    · by_cases hE : endsB L k = true
      · rw [senGo_yes hl hE]
        exact senGo_chain f (k + 1) (k + 1) _ (by omega) (by omega) (by omega) (fun _ => rfl) (chain_push hc (by omega))
      · have hE' : endsB L k = false := by simpa using hE
        rw [senGo_no hl hE']
        refine senGo_chain f (k + 1) a acc (by omega) (by omega) (by omega) (fun e => ?_) hc
        unfold endsB at hE'
        rw [if_pos e] at hE'
        cases hE'
    · rw [senGo_end hl]
      have e : k = L.length := by omega
      rw [← e, ← he e]; exact hc
theorem sens_chain (L : List Tok) : Chain 0 (sens L) L.length := senGo_chain _ 0 0 [] (by omega) (by omega) (by omega) (fun _ => rfl) rfl
theorem chain_drop : ∀ {l : List (Nat × Nat)} {a b : Nat} (k : Nat), Chain a l b → ∃ c, Chain c (l.drop k) b ∧ (k = 0 → c = a)
  | l, a, b, 0, h => ⟨a, h, fun _ => rfl⟩
  | [], a, b, k + 1, h => ⟨a, h, fun e => by omega⟩
  | x :: l, a, b, k + 1, ⟨_, _, h3⟩ => by
    obtain ⟨c, hc, _⟩ := chain_drop k h3
    exact ⟨c, hc, fun e => by omega⟩
/-- A word that is a token of a text has points. -/
def okToks (L : List Tok) : Prop := ∀ t ∈ L, ∃ ps, decR t.t = ((0, 0), ps) ∧ allS ps ∧ 0 < ps.length ∧ t.t = encL ps ∧ t.t.length ≤ 4000
theorem toks_ok {ps : List Int} (hS : allS ps) (hz : (encL ps).length ≤ 4000) : okToks (toks ps) := by
  intro t ht
  have h := (stand hS hz t ht).1
  obtain ⟨g1, g2, g3, g4⟩ := okW_dec h
  refine ⟨_, g4, g3, ?_, g2, (decR_ok g4).2.2⟩
  unfold oneB at g1
  simp only [Bool.and_eq_true, decide_eq_true_eq] at g1
  exact g1.1
/-- The first point of a word, folded, as a text. -/
theorem fold_first {p : Int} (hp : scal p = true) : foldR (encL [p]) = ((0, 0), encL [lowP p]) := by
  have hS : allS [p] := by intro x hx; simp at hx; subst hx; exact hp
  have hl : (encL [p]).length ≤ 4000 := by
    have := encL_le [p]
    simp at this; omega
  unfold foldR
  rw [decR_enc hS hl]; rfl
theorem enc_first {p : Int} (hp : scal p = true) : encR [p] = ((0, 0), encL [p]) := by
  have hS : allS [p] := by intro x hx; simp at hx; subst hx; exact hp
  have hl : (encL [p]).length ≤ 4000 := by
    have := encL_le [p]
    simp at this; omega
  exact encR_enc hS hl
theorem enc_inj1 {p q : Int} (hp : scal p = true) (hq : scal q = true) (h : encL [p] = encL [q]) : p = q := by
  have hS : ∀ {p : Int}, scal p = true → allS [p] := by intro p hp x hx; simp at hx; subst hx; exact hp
  have hl : ∀ p : Int, (encL [p]).length ≤ 4000 := by
    intro p
    have := encL_le [p]
    simp at this; omega
  have e1 := decR_enc (hS hp) (hl p)
  have e2 := decR_enc (hS hq) (hl q)
  rw [h, e2] at e1
  have := congrArg Prod.snd e1
  simpa using this.symm
theorem cap_iff {p : Int} (hp : scal p = true) : (encL [lowP p] = encL [p]) ↔ lowP p = p := by
  constructor
  · intro h; exact enc_inj1 (scal_low hp) hp h
  · intro h; rw [h]
theorem senR_cases (l : List UInt8) : (∃ ps, decR l = ((0, 0), ps) ∧ cutR l = ((0, 0), toks ps) ∧ senR l = ((0, 0), sens (toks ps)) ∧ (toks ps).length ≤ 300 ∧ okToks (toks ps)) ∨ ((cutR l).1.1 ≠ 0 ∧ senR l = ((cutR l).1, [])) := by
  rcases cutR_cases l with ⟨ps, h1, h2, h3⟩ | ⟨h1, h2⟩
  · left
    obtain ⟨g1, g2, g3⟩ := decR_ok h1
    exact ⟨ps, h1, h2, by unfold senR; rw [h2, if_pos rfl], h3, toks_ok g1 (by rw [← g2]; exact g3)⟩
  · right
    refine ⟨h1, ?_⟩
    unfold senR
    rw [if_neg (fun e => h1 (by rw [e]))]
end Go.Proofs.YtcchpijadlgagaaDoor
