/- Small lemmas over any program, of this repo's own: slices that are read, worlds that only grow. No program in sight. -/
import Derived.WalkKit
import Derived.WalkSpells
import Derived.Deep.Draws
import Derived.Deep.AppendLies
namespace Gm
open Go Go.RowKit

/-- A slice that is read: for i below n, j below sz, the cell j of element i is f i j; it lies below block B. -/
def Rd (w : World) (B sz : Nat) (A : Option Addr) (n : Nat) (f : Nat → Nat → Value) : Prop :=
  0 < n → ∃ b off, A = some ⟨b, off, none⟩ ∧ b < B ∧ ∀ i j, i < n → j < sz → w.cell? ⟨b, off + (i * sz + j), none⟩ = some (f i j)

theorem Rd.below {w w' : World} {B sz n : Nat} {A : Option Addr} {f : Nat → Nat → Value} (h : Rd w B sz A n f) {B' : Nat} (hb : Below B' w w') (hB : B ≤ B') : Rd w' B sz A n f := by
  intro hn
  obtain ⟨b, off, hA, hlt, hc⟩ := h hn
  exact ⟨b, off, hA, hlt, fun i j hi hj => (hb.cell (p := ⟨b, off + (i * sz + j), none⟩) (by simp; omega)).trans (hc i j hi hj)⟩
theorem Rd.mono {w : World} {B B' sz n : Nat} {A : Option Addr} {f : Nat → Nat → Value} (h : Rd w B sz A n f) (hB : B ≤ B') : Rd w B' sz A n f := by
  intro hn
  obtain ⟨b, off, hA, hlt, hc⟩ := h hn
  exact ⟨b, off, hA, by omega, hc⟩
theorem Rd.zero {w : World} {B sz : Nat} {A : Option Addr} {f : Nat → Nat → Value} : Rd w B sz A 0 f := fun h => absurd h (by omega)
theorem Rd.congr {w : World} {B sz n : Nat} {A : Option Addr} {f g : Nat → Nat → Value} (h : Rd w B sz A n f) (e : ∀ i j, i < n → j < sz → f i j = g i j) : Rd w B sz A n g := by
  intro hn
  obtain ⟨b, off, hA, hlt, hc⟩ := h hn
  exact ⟨b, off, hA, hlt, fun i j hi hj => by rw [hc i j hi hj, e i j hi hj]⟩

/-- At one index, cells of one value. -/
theorem Rd.at1 {w : World} {B n : Nat} {A : Option Addr} {f : Nat → Nat → Value} (h : Rd w B 1 A n f) {k : Nat} (hk : k < n) :
    ∃ b off, A = some ⟨b, off, none⟩ ∧ b < B ∧ w.cell? ⟨b, off + k, none⟩ = some (f k 0) := by
  obtain ⟨b, off, hA, hlt, hc⟩ := h (by omega)
  exact ⟨b, off, hA, hlt, by have := hc k 0 hk (by omega); simpa using this⟩
theorem Rd.at2 {w : World} {B n : Nat} {A : Option Addr} {f : Nat → Nat → Value} (h : Rd w B 2 A n f) {k : Nat} (hk : k < n) :
    ∃ b off, A = some ⟨b, off, none⟩ ∧ b < B ∧ w.cell? ⟨b, off + k * 2, none⟩ = some (f k 0) ∧ w.cell? ⟨b, off + k * 2 + 1, none⟩ = some (f k 1) := by
  obtain ⟨b, off, hA, hlt, hc⟩ := h (by omega)
  exact ⟨b, off, hA, hlt, by simpa using hc k 0 hk (by omega), by simpa [Nat.add_assoc] using hc k 1 hk (by omega)⟩
theorem Rd.at5 {w : World} {B n : Nat} {A : Option Addr} {f : Nat → Nat → Value} (h : Rd w B 5 A n f) {k : Nat} (hk : k < n) :
    ∃ b off, A = some ⟨b, off, none⟩ ∧ b < B ∧ w.cell? ⟨b, off + k * 5, none⟩ = some (f k 0) ∧ w.cell? ⟨b, off + k * 5 + 1, none⟩ = some (f k 1) ∧ w.cell? ⟨b, off + k * 5 + 2, none⟩ = some (f k 2) ∧ w.cell? ⟨b, off + k * 5 + 3, none⟩ = some (f k 3) ∧ w.cell? ⟨b, off + k * 5 + 4, none⟩ = some (f k 4) := by
  obtain ⟨b, off, hA, hlt, hc⟩ := h (by omega)
  exact ⟨b, off, hA, hlt, by simpa using hc k 0 hk (by omega), by simpa [Nat.add_assoc] using hc k 1 hk (by omega), by simpa [Nat.add_assoc] using hc k 2 hk (by omega), by simpa [Nat.add_assoc] using hc k 3 hk (by omega), by simpa [Nat.add_assoc] using hc k 4 hk (by omega)⟩

theorem hide {p : Prop} (h : p) : Hid p := h

theorem below_drewN {B : Nat} {a w : World} (h : Below B a w) (n : Nat) : Below B a (w.drewN n) := ⟨h.os, h.tape, h.output, h.size, h.block⟩
theorem keep_cell {B : Nat} {W w1 : World} (hb : Below B W w1) {b o : Nat} {v : Value} (h : W.cell? ⟨b, o, none⟩ = some v) (hlt : b < B) : w1.cell? ⟨b, o, none⟩ = some v :=
  (hb.cell (p := ⟨b, o, none⟩) hlt).trans h
theorem keep_free {B : Nat} {W w1 : World} (hb : Below B W w1) {b o : Nat} {x : Bool} (h : W.frozen? ⟨b, o, none⟩ = x) (hlt : b < B) : w1.frozen? ⟨b, o, none⟩ = x :=
  (hb.frozen (p := ⟨b, o, none⟩) hlt).trans h

theorem far_cell {w w' : World} {row : Option Nat} (hg : w.grownBy w' row) {b o : Nat} {v : Value} (hne : row ≠ some b) (h : w.cell? ⟨b, o, none⟩ = some v) : w'.cell? ⟨b, o, none⟩ = some v :=
  hg.cell h (fun e => hne e.symm)
theorem far_free {w w' : World} {row : Option Nat} (hg : w.grownBy w' row) {b o : Nat} {x : Bool} (hne : row ≠ some b) (hlt : b < w.heap.size) (h : w.frozen? ⟨b, o, none⟩ = x) : w'.frozen? ⟨b, o, none⟩ = x := by
  rw [← h]; exact World.frozen?_of_block (hg.block b hlt (fun e => hne e.symm))

/-- Block g is just the cells cs of element type t, none frozen. -/
def Blk (w : World) (g : Nat) (t : TypeId) (cs : Array Value) : Prop := w.heap[g]? = some (.cells cs t (0, 0))
section
variable {w w' : World} {g : Nat} {t : TypeId} {cs : Array Value}
theorem Blk.lt (h : Blk w g t cs) : g < w.heap.size := by
  rcases Nat.lt_or_ge g w.heap.size with hlt | hge
  · exact hlt
  · unfold Blk at h; rw [Array.getElem?_eq_none hge] at h; cases h
theorem Blk.cell (h : Blk w g t cs) (i : Nat) : w.cell? ⟨g, i, none⟩ = cs[i]? := cell_of_row w g i cs t (0, 0) h
theorem Blk.frozen (h : Blk w g t cs) (i : Nat) : w.frozen? ⟨g, i, none⟩ = false := by
  unfold Blk at h
  simp [World.frozen?, h]
theorem Blk.new (w : World) (t : TypeId) (cs : Array Value) : Blk (w.alloc (.cells cs t)) w.heap.size t cs := heap_alloc_new w _
theorem Blk.at_ {w : World} {g : Nat} {t : TypeId} {cs : Array Value} (hg : g = w.heap.size) : Blk (w.alloc (.cells cs t)) g t cs := by
  subst hg; exact Blk.new _ _ _
theorem Blk.drew (h : Blk w g t cs) : Blk w.drew g t cs := h
theorem Blk.drewN (h : Blk w g t cs) (n : Nat) : Blk (w.drewN n) g t cs := h
theorem Blk.alloc (h : Blk w g t cs) (o : Obj) : Blk (w.alloc o) g t cs := (Below.heap_alloc w o g h.lt).trans h
theorem Blk.set_ (h : Blk w g t cs) (i : Nat) (u : Value) : Blk (w.setCell ⟨g, i, none⟩ u) g t (cs.setIfInBounds i u) := by
  unfold Blk at h ⊢
  simp [World.setCell, Array.getElem?_modify, h]
theorem Blk.far (h : Blk w g t cs) {p : Addr} (hp : g ≠ p.block) (u : Value) : Blk (w.setCell p u) g t cs := (Below.heap_setCell w p u g hp).trans h
theorem Blk.below {B : Nat} (h : Blk w g t cs) (hb : Below B w w') (hg : g < B) : Blk w' g t cs := (hb.block g hg).trans h
theorem Blk.grown {row : Option Nat} (h : Blk w g t cs) (hb : w.grownBy w' row) (hg : some g ≠ row) : Blk w' g t cs := (hb.block g h.lt hg).trans h
theorem Blk.ne_ {g' : Nat} {t' : TypeId} {cs' : Array Value} (h : Blk w g t cs) (h' : Blk w g' t' cs') (hne : t ≠ t') : g ≠ g' := by
  rintro rfl
  unfold Blk at h h'
  rw [h] at h'
  injection h' with h'
  injection h' with _ ht
  exact hne ht
end
/-- What the walk needs of a world that has only grown. -/
theorem bcell {W w1 : World} (hb : Below W.heap.size W w1) : (∀ b o, b < W.heap.size → w1.cell? ⟨b, o, none⟩ = W.cell? ⟨b, o, none⟩) ∧ (∀ b o, b < W.heap.size → w1.frozen? ⟨b, o, none⟩ = W.frozen? ⟨b, o, none⟩) :=
  ⟨fun b o h => hb.cell (p := ⟨b, o, none⟩) h, fun b o h => hb.frozen (p := ⟨b, o, none⟩) h⟩
end Gm
