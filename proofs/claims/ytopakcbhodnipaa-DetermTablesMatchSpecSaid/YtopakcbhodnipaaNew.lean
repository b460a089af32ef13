/- A machine whose lists lie in blocks that the call has made: what is written elsewhere leaves it as it is. -/
import Derived.Test.YtopakcbhodnipaaOwn
namespace Gm
open Go Go.RowKit
/-- The machine m, as a value; its lists lie in blocks from lo on. -/
def MachNew (lo : Nat) (w : World) (v : Value) (m : Mach) : Prop :=
  ∀ W : World, w.heap.size ≤ W.heap.size → (∀ b, lo ≤ b → b < w.heap.size → W.heap[b]? = w.heap[b]?) → MachAt W W.heap.size v m
theorem MachNew.at_ {lo : Nat} {w : World} {v : Value} {m : Mach} (h : MachNew lo w v m) : MachAt w w.heap.size v m := h w (Nat.le_refl _) (fun _ _ _ => rfl)
theorem MachNew.empty (lo : Nat) (w : World) : MachNew lo w (.agg #[.int .i64 0, .slice none 0 0, .slice none 0 0]) ⟨0, [], []⟩ := fun _ _ _ => MachAt.empty _ _
theorem MachNew.mono {lo lo' : Nat} {w : World} {v : Value} {m : Mach} (h : MachNew lo w v m) (hl : lo' ≤ lo) : MachNew lo' w v m := fun W hs hag => h W hs (fun b hb => hag b (by omega))
theorem MachNew.set {lo : Nat} {w : World} {v : Value} {m : Mach} (h : MachNew lo w v m) {p : Addr} (hp : p.block < lo) (u : Value) : MachNew lo (w.setCell p u) v m := fun W hs hag =>
  h W (by simpa using hs) (fun b hb hlt => (hag b hb (by simpa using hlt)).trans (Below.heap_setCell w p u b (by omega)))
theorem MachNew.alloc {lo : Nat} {w : World} {v : Value} {m : Mach} (h : MachNew lo w v m) (o : Obj) : MachNew lo (w.alloc o) v m := fun W hs hag =>
  h W (by simp at hs; omega) (fun b hb hlt => (hag b hb (by simp; omega)).trans (Below.heap_alloc w o b hlt))
theorem MachNew.drew {lo : Nat} {w : World} {v : Value} {m : Mach} (h : MachNew lo w v m) : MachNew lo w.drew v m := h
theorem MachNew.below {lo B : Nat} {w w' : World} {v : Value} {m : Mach} (h : MachNew lo w v m) (hb : Below B w w') (hB : w.heap.size ≤ B) : MachNew lo w' v m := fun W hs hag =>
  h W (by have := hb.size; omega) (fun b hb' hlt => (hag b hb' (by have := hb.size; omega)).trans (hb.block b (by omega)))
theorem own_agree {w W : World} {base sz n : Nat} {e : TypeId} {v : Value} {xs : List Value} (h : w.ownsRow base e sz v n xs) (_ : w.heap.size ≤ W.heap.size) (hag : ∀ b, base ≤ b → b < w.heap.size → W.heap[b]? = w.heap[b]?) : W.ownsRow base e sz v n xs := by
  obtain ⟨h1, h2⟩ := h
  refine ⟨h1, ?_⟩
  rcases h2 with h2 | ⟨g, cap, cur, hv, hg, hh, r⟩
  · exact .inl h2
  · right
    refine ⟨g, cap, cur, hv, hg, ?_, r⟩
    rw [hag g hg (by
      rcases Nat.lt_or_ge g w.heap.size with hlt | hge
      · exact hlt
      · rw [Array.getElem?_eq_none hge] at hh; cases hh)]
    exact hh
theorem MachNew.of_own {w : World} {base b2 lo : Nat} {eA eF : TypeId} {A AF : Option Addr} {ca cf : Nat} {m : Mach} (hA : w.ownsRow base eA 5 (.slice A m.arcs.length ca) m.arcs.length (arcRow m.arcs)) (hF : w.ownsRow b2 eF 2 (.slice AF m.fins.length cf) m.fins.length (finRow m.fins))
    (h1 : lo ≤ base) (h2 : lo ≤ b2) (hac : m.arcs.length ≤ ca) (hfc : m.fins.length ≤ cf) (ha : m.arcs.length ≤ big) (hf : m.fins.length ≤ big) : MachNew lo w (.agg #[.int .i64 m.n, .slice A m.arcs.length ca, .slice AF m.fins.length cf]) m := fun _ hs hag =>
  ⟨A, AF, _, ca, _, cf, rfl, hide rfl, hide rfl, hac, hfc, ha, hf, Rd.of_own (own_agree hA hs (fun b hb => hag b (by omega))) (arcRow_at _), Rd.of_own (own_agree hF hs (fun b hb => hag b (by omega))) (finRow_at _)⟩
end Gm
