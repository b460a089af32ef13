/- Lists of lists of numbers in memory: read, and made by the call itself. Over any program. -/
import Derived.Test.YtopakcbhodnipaaWdW
import Derived.OneCell
import Derived.Laws.OwnMore
namespace Gm
open Go Go.RowKit
set_option linter.unusedSimpArgs false
set_option linter.unusedVariables false
/-- A list of lists of numbers, as a value; it lies below block B. -/
def NumsL (w : World) (B : Nat) (v : Value) (L : List (List Int)) : Prop :=
  ∃ A n c, v = .slice A n c ∧ Hid (L.length = n) ∧ n ≤ c ∧ n ≤ big ∧ ∃ vs : Nat → Value, Rd w B 1 A n (fun i _ => vs i) ∧ ∀ i, i < n → Nums w B (vs i) (L.getD i [])
theorem NumsL.below {w w' : World} {B B' : Nat} {v : Value} {L : List (List Int)} (h : NumsL w B v L) (hb : Below B' w w') (hB : B ≤ B') : NumsL w' B v L := by
  obtain ⟨A, n, c, h1, h2, h3, h4, vs, h5, h6⟩ := h
  exact ⟨A, n, c, h1, h2, h3, h4, vs, h5.below hb hB, fun i hi => (h6 i hi).below hb hB⟩
theorem NumsL.mono {w : World} {B B' : Nat} {v : Value} {L : List (List Int)} (h : NumsL w B v L) (hB : B ≤ B') : NumsL w B' v L := by
  obtain ⟨A, n, c, h1, h2, h3, h4, vs, h5, h6⟩ := h
  exact ⟨A, n, c, h1, h2, h3, h4, vs, h5.mono hB, fun i hi => (h6 i hi).mono hB⟩
/-- The rows, as they are read. -/
def RdL (w : World) (B : Nat) (A : Option Addr) (n : Nat) (L : List (List Int)) : Prop := ∃ vs : Nat → Value, Rd w B 1 A n (fun i _ => vs i) ∧ ∀ i, i < n → Nums w B (vs i) (L.getD i [])
theorem RdL.below {w w' : World} {B B' n : Nat} {A : Option Addr} {L : List (List Int)} (h : RdL w B A n L) (hb : Below B' w w') (hB : B ≤ B') : RdL w' B A n L := by
  obtain ⟨vs, h5, h6⟩ := h
  exact ⟨vs, h5.below hb hB, fun i hi => (h6 i hi).below hb hB⟩
theorem RdL.mono {w : World} {B B' n : Nat} {A : Option Addr} {L : List (List Int)} (h : RdL w B A n L) (hB : B ≤ B') : RdL w B' A n L := by
  obtain ⟨vs, h5, h6⟩ := h
  exact ⟨vs, h5.mono hB, fun i hi => (h6 i hi).mono hB⟩
theorem row_at {w : World} {B n : Nat} {A : Option Addr} {L : List (List Int)} (h : RdL w B A n L) {k : Nat} (hk : k < n) :
    ∃ b off A' n' c' r, A = some ⟨b, off, none⟩ ∧ b < B ∧ w.cell? ⟨b, off + k, none⟩ = some (.slice A' n' c') ∧ Hid (L.getD k [] = r) ∧ Hid (r.length = n') ∧ n' ≤ c' ∧ n' ≤ big ∧ Rd w B 1 A' n' (intCell r) := by
  obtain ⟨vs, h1, h2⟩ := h
  obtain ⟨b, off, h3, h4, h5⟩ := h1.at1 hk
  obtain ⟨A', n', c', g1, g2, g3, g4, g5⟩ := h2 k hk
  rw [g1] at h5
  exact ⟨b, off, A', n', c', L.getD k [], h3, h4, h5, hide rfl, g2, g3, g4, g5⟩
theorem nums_own {w : World} {base : Nat} {e : TypeId} {v : Value} {n : Nat} {l : List Int} (h : w.ownsRow base e 1 v n (intRow l)) (hn : n ≤ big) : Nums w w.heap.size v l := by
  obtain ⟨A, c, rfl, hnc, _⟩ := own_value h
  have hl : l.length = n := by have := h.1; rw [intRow_length] at this; omega
  exact ⟨A, n, c, rfl, hide hl, hnc, hn, Rd.of_own h (hl ▸ intRow_at l)⟩
/-- A slice of slices that the call makes by appending rows. -/
structure OwnM (w : World) (base : Nat) (eO eI : TypeId) (sz : Nat) (v : Value) (n : Nat) (vs : Nat → Value) (L : Nat → List Value) (m : Nat → Nat) : Prop where
  out : w.ownsRow base eO 1 v n ((List.range n).map vs)
  own : ∀ i, i < n → w.ownsRow base eI sz (vs i) (m i) (L i)
  dis : ∀ i j, i < n → j < n → i ≠ j → (vs i).ownBlock = none ∨ (vs i).ownBlock ≠ (vs j).ownBlock
section
variable {w w1 : World} {base : Nat} {eO eI : TypeId} {sz n : Nat} {v : Value} {vs : Nat → Value} {L : Nat → List Value} {m : Nat → Nat}
theorem OwnM.nil (w : World) (base : Nat) (eO eI : TypeId) (sz : Nat) (vs : Nat → Value) (L : Nat → List Value) (m : Nat → Nat) : OwnM w base eO eI sz (.slice none 0 0) 0 vs L m :=
  ⟨World.ownsRow_nil _ _ _ _, fun i h => by omega, fun i j h => by omega⟩
theorem OwnM.kept (h : OwnM w base eO eI sz v n vs L m) {row : Option Nat} (hg : w.grownBy w1 row) (h1 : v.ownBlock = none ∨ v.ownBlock ≠ row) (h2 : ∀ i, i < n → (vs i).ownBlock = none ∨ (vs i).ownBlock ≠ row) : OwnM w1 base eO eI sz v n vs L m :=
  ⟨h.out.kept hg h1, fun i hi => (h.own i hi).kept hg (h2 i hi), h.dis⟩
theorem OwnM.below (h : OwnM w base eO eI sz v n vs L m) (hb : Below w.heap.size w w1) : OwnM w1 base eO eI sz v n vs L m :=
  h.kept (row := none) ⟨hb.os, hb.tape, hb.output, hb.size, fun k hk _ => hb.block k hk⟩ (by cases v.ownBlock <;> simp) (fun i _ => by cases (vs i).ownBlock <;> simp)
theorem OwnM.alloc (h : OwnM w base eO eI sz v n vs L m) (o : Obj) : OwnM (w.alloc o) base eO eI sz v n vs L m :=
  ⟨h.out.alloc o, fun i hi => (h.own i hi).alloc o, h.dis⟩
theorem OwnM.drew (h : OwnM w base eO eI sz v n vs L m) : OwnM w.drew base eO eI sz v n vs L m := ⟨h.out, h.own, h.dis⟩
theorem OwnM.drewN (h : OwnM w base eO eI sz v n vs L m) (k : Nat) : OwnM (w.drewN k) base eO eI sz v n vs L m := ⟨h.out, h.own, h.dis⟩
theorem OwnM.far (h : OwnM w base eO eI sz v n vs L m) {p : Addr} (hp : p.block < base) (u : Value) : OwnM (w.setCell p u) base eO eI sz v n vs L m :=
  ⟨ownsRow_setCell_below h.out hp u, fun i hi => ownsRow_setCell_below (h.own i hi) hp u, h.dis⟩
/-- What is owned from a higher block on lies apart. -/
theorem OwnM.apart (h : OwnM w base eO eI sz v n vs L m) {H s2 n2 : Nat} {e2 : TypeId} {v2 : Value} {x2 : List Value} {w2 : World} (ho : w2.ownsRow H e2 s2 v2 n2 x2) (hH : w.heap.size ≤ H) : (v.ownBlock = none ∨ v.ownBlock ≠ v2.ownBlock) ∧ ∀ i, i < n → (vs i).ownBlock = none ∨ (vs i).ownBlock ≠ v2.ownBlock := by
  have key : ∀ u : Value, (∀ k, u.ownBlock = some k → base ≤ k ∧ k < w.heap.size) → u.ownBlock = none ∨ u.ownBlock ≠ v2.ownBlock := fun u hu => by
    cases e : u.ownBlock with
    | none => exact .inl rfl
    | some k =>
      right
      intro e2
      have := (hu k e).2
      have := (ho.lt k e2.symm).1
      omega
  exact ⟨key v h.out.lt, fun i hi => key (vs i) (h.own i hi).lt⟩
theorem OwnM.push (h : OwnM w base eO eI sz v n vs L m) (hg : w.grownBy w1 v.ownBlock) {v' u : Value} {mu : Nat} {xu : List Value} (hout : w1.ownsRow base eO 1 v' (n + 1) ((List.range n).map vs ++ [u])) (hu : w.ownsRow base eI sz u mu xu) (hd : ∀ i, i < n → (vs i).ownBlock = none ∨ (vs i).ownBlock ≠ u.ownBlock) (hne : eO ≠ eI) :
    OwnM w1 base eO eI sz v' (n + 1) (fun i => if i = n then u else vs i) (fun i => if i = n then xu else L i) (fun i => if i = n then mu else m i) := by
  refine ⟨?_, fun i hi => ?_, fun i j hi hj hij => ?_⟩
  · rw [List.range_succ, List.map_append, List.map_cons, List.map_nil, if_pos rfl]
    rw [show (List.range n).map (fun i => if i = n then u else vs i) = (List.range n).map vs from List.map_congr_left fun i hi => by rw [if_neg (by have := List.mem_range.1 hi; omega)]]
    exact hout
  · by_cases e : i = n
    · simp only [if_pos e]
      exact hu.kept hg (own_ne hu h.out (Ne.symm hne))
    · simp only [if_neg e]
      exact (h.own i (by omega)).kept hg (own_ne (h.own i (by omega)) h.out (Ne.symm hne))
  · by_cases e : i = n
    · by_cases e2 : j = n
      · omega
      · simp only [if_pos e, if_neg e2]
        rcases hd j (by omega) with g | g
        · rw [g]
          cases u.ownBlock <;> simp
        · exact .inr (Ne.symm g)
    · by_cases e2 : j = n
      · simp only [if_neg e, if_pos e2]
        exact hd i (by omega)
      · simp only [if_neg e, if_neg e2]
        exact h.dis i j (by omega) (by omega) hij
/-- A store into one cell of one row. -/
theorem OwnM.store (h : OwnM w base eO eI sz v n vs L m) (hne : eO ≠ eI) {i g c : Nat} (hi : i < n) (hv : vs i = .slice (some ⟨g, 0, none⟩) (m i) c) (j : Nat) (u : Value) :
    OwnM (w.setCell ⟨g, j, none⟩ u) base eO eI sz v n vs (fun k => if k = i then (L i).set j u else L k) m := by
  have h1 := h.own i hi
  rw [hv] at h1
  obtain ⟨h2, hg⟩ := h1.stored j u
  have hob : (vs i).ownBlock = some g := by rw [hv]; rfl
  refine ⟨h.out.kept hg ?_, fun k hk => ?_, h.dis⟩
  · rw [← hob]
    exact own_ne h.out (h.own i hi) hne
  · by_cases e : k = i
    · subst e
      simp only [if_pos]
      rw [hv]
      exact h2
    · simp only [if_neg e]
      refine (h.own k hk).kept hg ?_
      rw [← hob]
      exact h.dis k i hk hi e
theorem OwnM.at_ (h : OwnM w base eO eI sz v n vs L m) {i : Nat} (hi : i < n) : ∃ g c, v = .slice (some ⟨g, 0, none⟩) n c ∧ n ≤ c ∧ base ≤ g ∧ g < w.heap.size ∧ w.cell? ⟨g, i, none⟩ = some (vs i) := by
  obtain ⟨g, c, rfl, h1, h2⟩ := h.out.form (by omega)
  obtain ⟨A, c', e, hnc, _⟩ := own_value h.out
  injection e with _ _ e
  refine ⟨g, c, rfl, by omega, h1, h2, ?_⟩
  rw [h.out.cellAt i (by omega)]
  simp [hi]
theorem OwnM.nums {vs : Nat → Value} {r : Nat → List Int} (h : OwnM w base eO eI 1 v n vs (fun i => intRow (r i)) m) (hn : n ≤ big) (hm : ∀ i, i < n → m i ≤ big) : NumsL w w.heap.size v ((List.range n).map r) := by
  obtain ⟨A, c, rfl, hnc, _⟩ := own_value h.out
  refine ⟨A, n, c, rfl, hide (by simp), hnc, hn, vs, Rd.of_own h.out (fun i j hi hj => ?_), fun i hi => ?_⟩
  · obtain rfl : j = 0 := by omega
    simp [hi]
  · have e : ((List.range n).map r).getD i [] = r i := by simp [List.getD, hi]
    rw [e]
    exact nums_own (h.own i hi) (hm i hi)
end
end Gm
namespace Gm
open Go Go.RowKit
theorem OwnM.congr {w : World} {base : Nat} {eO eI : TypeId} {sz n : Nat} {v : Value} {vs : Nat → Value} {L L' : Nat → List Value} {m m' : Nat → Nat} (h : OwnM w base eO eI sz v n vs L m) (e : ∀ i, i < n → L i = L' i) (e' : ∀ i, i < n → m i = m' i) : OwnM w base eO eI sz v n vs L' m' :=
  ⟨h.out, fun i hi => by rw [← e i hi, ← e' i hi]; exact h.own i hi, h.dis⟩
end Gm
namespace Gm
open Go Go.RowKit
/-- A list of truth values, as a value; it lies below block B. -/
def Bools (w : World) (B : Nat) (v : Value) (l : List Bool) : Prop :=
  ∃ A n c, v = .slice A n c ∧ Hid (l.length = n) ∧ n ≤ c ∧ n ≤ big ∧ Rd w B 1 A n (boolCell l)
theorem Bools.below {w w' : World} {B B' : Nat} {v : Value} {l : List Bool} (h : Bools w B v l) (hb : Below B' w w') (hB : B ≤ B') : Bools w' B v l := by
  obtain ⟨A, n, c, h1, h2, h3, h4, h5⟩ := h
  exact ⟨A, n, c, h1, h2, h3, h4, h5.below hb hB⟩
theorem Bools.mono {w : World} {B B' : Nat} {v : Value} {l : List Bool} (h : Bools w B v l) (hB : B ≤ B') : Bools w B' v l := by
  obtain ⟨A, n, c, h1, h2, h3, h4, h5⟩ := h
  exact ⟨A, n, c, h1, h2, h3, h4, h5.mono hB⟩
theorem bool_at {w : World} {B n : Nat} {A : Option Addr} {l : List Bool} (h : Rd w B 1 A n (boolCell l)) {k : Nat} (hk : k < n) :
    ∃ b off x, A = some ⟨b, off, none⟩ ∧ b < B ∧ w.cell? ⟨b, off + k, none⟩ = some (.bool x) ∧ Hid (l.getD k false = x) := by
  obtain ⟨b, off, h1, h2, h3⟩ := h.at1 hk
  exact ⟨b, off, l.getD k false, h1, h2, h3, hide rfl⟩
end Gm
