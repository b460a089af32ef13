/- How machines and lists lie in memory. No program in sight. -/
import Derived.Test.YtopakcbhodnipaaLib
import Derived.Test.YtopakcbhodnipaaPlM
namespace Gm
open Go Go.RowKit

def big : Nat := 140737488351232
def fld (a : Arc) : Nat → Int
  | 0 => a.f | 1 => a.t | 2 => a.i | 3 => a.o | _ => a.w
def arcCell (l : List Arc) (i j : Nat) : Value := .int .i64 (fld (l.getD i dA) j)
def finCell (l : List Fnl) (i j : Nat) : Value := .int .i64 (match j with | 0 => (l.getD i dF).s | _ => (l.getD i dF).w)
def intCell (l : List Int) (i _j : Nat) : Value := .int .i64 (l.getD i 0)
def boolCell (l : List Bool) (i _j : Nat) : Value := .bool (l.getD i false)

theorem arcs_at {w : World} {B n : Nat} {A : Option Addr} {l : List Arc} (h : Rd w B 5 A n (arcCell l)) {k : Nat} (hk : k < n) :
    ∃ b off a, A = some ⟨b, off, none⟩ ∧ b < B ∧ w.cell? ⟨b, off + k * 5, none⟩ = some (.int .i64 (Arc.f a)) ∧ w.cell? ⟨b, off + k * 5 + 1, none⟩ = some (.int .i64 (Arc.t a)) ∧
      w.cell? ⟨b, off + k * 5 + 2, none⟩ = some (.int .i64 (Arc.i a)) ∧ w.cell? ⟨b, off + k * 5 + 3, none⟩ = some (.int .i64 (Arc.o a)) ∧ w.cell? ⟨b, off + k * 5 + 4, none⟩ = some (.int .i64 (Arc.w a)) ∧ Hid (l.getD k dA = a) := by
  obtain ⟨b, off, h1, h2, c0, c1, c2, c3, c4⟩ := h.at5 hk
  exact ⟨b, off, l.getD k dA, h1, h2, c0, c1, c2, c3, c4, hide rfl⟩
theorem fins_at {w : World} {B n : Nat} {A : Option Addr} {l : List Fnl} (h : Rd w B 2 A n (finCell l)) {k : Nat} (hk : k < n) :
    ∃ b off a, A = some ⟨b, off, none⟩ ∧ b < B ∧ w.cell? ⟨b, off + k * 2, none⟩ = some (.int .i64 (Fnl.s a)) ∧ w.cell? ⟨b, off + k * 2 + 1, none⟩ = some (.int .i64 (Fnl.w a)) ∧ Hid (l.getD k dF = a) := by
  obtain ⟨b, off, h1, h2, c0, c1⟩ := h.at2 hk
  exact ⟨b, off, l.getD k dF, h1, h2, c0, c1, hide rfl⟩

/-- The machine m, as a value; its lists lie below block B. -/
def MachAt (w : World) (B : Nat) (v : Value) (m : Mach) : Prop :=
  ∃ (A AF : Option Addr) (n c nf cf : Nat), v = .agg #[.int .i64 m.n, .slice A n c, .slice AF nf cf] ∧ Hid (m.arcs.length = n) ∧ Hid (m.fins.length = nf) ∧ n ≤ c ∧ nf ≤ cf ∧ n ≤ big ∧ nf ≤ big ∧
    Rd w B 5 A n (arcCell m.arcs) ∧ Rd w B 2 AF nf (finCell m.fins)
theorem MachAt.below {w w' : World} {B B' : Nat} {v : Value} {m : Mach} (h : MachAt w B v m) (hb : Below B' w w') (hB : B ≤ B') : MachAt w' B v m := by
  obtain ⟨A, AF, n, c, nf, cf, h1, h2, h3, h4, h5, h6, h7, h8, h9⟩ := h
  exact ⟨A, AF, n, c, nf, cf, h1, h2, h3, h4, h5, h6, h7, h8.below hb hB, h9.below hb hB⟩
theorem MachAt.mono {w : World} {B B' : Nat} {v : Value} {m : Mach} (h : MachAt w B v m) (hB : B ≤ B') : MachAt w B' v m := by
  obtain ⟨A, AF, n, c, nf, cf, h1, h2, h3, h4, h5, h6, h7, h8, h9⟩ := h
  exact ⟨A, AF, n, c, nf, cf, h1, h2, h3, h4, h5, h6, h7, h8.mono hB, h9.mono hB⟩
theorem MachAt.empty (w : World) (B : Nat) : MachAt w B (.agg #[.int .i64 0, .slice none 0 0, .slice none 0 0]) ⟨0, [], []⟩ :=
  ⟨none, none, 0, 0, 0, 0, rfl, hide rfl, hide rfl, Nat.le_refl _, Nat.le_refl _, by simp [big], by simp [big], Rd.zero, Rd.zero⟩
end Gm
