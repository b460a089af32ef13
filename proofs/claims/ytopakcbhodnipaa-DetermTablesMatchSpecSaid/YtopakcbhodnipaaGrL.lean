/- A machine that grows in memory, over any program: its block, its rows of arcs and final states differ by their types. -/
import Derived.Test.YtopakcbhodnipaaOwn
import Derived.OneCell
namespace Gm
open Go Go.RowKit
set_option linter.unusedSimpArgs false
set_option linter.unusedVariables false
theorem own_bne {w : World} {base sz n O : Nat} {e t : TypeId} {v : Value} {xs : List Value} {cs : Array Value} (h : w.ownsRow base e sz v n xs) (hb : Blk w O t cs) (hne : e ≠ t) : v.ownBlock ≠ some O := by
  rcases h.2 with ⟨rfl, _⟩ | ⟨g1, c1, cur1, rfl, _, hh1, _⟩
  · simp [Value.ownBlock]
  · intro ev
    have : g1 = O := by simpa [Value.ownBlock] using ev
    subst this
    unfold Blk at hb
    rw [hh1] at hb
    injection hb with hb
    injection hb with _ he
    exact hne he
theorem own_blw {w w' : World} {base sz n : Nat} {e : TypeId} {v : Value} {xs : List Value} (h : w.ownsRow base e sz v n xs) (hb : Below w.heap.size w w') : w'.ownsRow base e sz v n xs :=
  h.kept (row := none) ⟨hb.os, hb.tape, hb.output, hb.size, fun k hk _ => hb.block k hk⟩ (by cases v.ownBlock <;> simp)
theorem own_low {w : World} {b1 b2 sz n : Nat} {e : TypeId} {v : Value} {xs : List Value} (h : w.ownsRow b1 e sz v n xs) (hb : b2 ≤ b1) : w.ownsRow b2 e sz v n xs := by
  obtain ⟨h1, h2⟩ := h
  refine ⟨h1, ?_⟩
  rcases h2 with h2 | ⟨g, cap, cur, e1, e2, e3⟩
  · exact .inl h2
  · exact .inr ⟨g, cap, cur, e1, by omega, e3⟩
theorem own_lenI {w : World} {base q : Nat} {e : TypeId} {v : Value} {l : List Int} (h : w.ownsRow base e 1 v q (intRow l)) : l.length = q := by
  have h1 := h.1
  rw [intRow_length] at h1
  omega
theorem own_lenA {w : World} {base q : Nat} {e : TypeId} {v : Value} {L : List Arc} (h : w.ownsRow base e 5 v q (arcRow L)) : L.length = q := by
  have h1 := h.1
  rw [arcRow_length] at h1
  omega
theorem own_lenF {w : World} {base q : Nat} {e : TypeId} {v : Value} {L : List Fnl} (h : w.ownsRow base e 2 v q (finRow L)) : L.length = q := by
  have h1 := h.1
  rw [finRow_length] at h1
  omega
/-- The block O holds a machine with n0 states, q arcs L and r final states F, in rows of its own at or above base. -/
def Mg (tM tA tF : TypeId) (w : World) (O base : Nat) (n0 : Int) (q : Nat) (L : List Arc) (r : Nat) (F : List Fnl) : Prop :=
  ∃ A c AF cf, Blk w O tM #[.int .i64 n0, .slice A q c, .slice AF r cf] ∧ w.ownsRow base tA 5 (.slice A q c) q (arcRow L) ∧ w.ownsRow base tF 2 (.slice AF r cf) r (finRow F)
section
variable {tM tA tF : TypeId} {w w6 : World} {O base q r : Nat} {n0 : Int} {A AF Av : Option Addr} {c cf cv : Nat} {L : List Arc} {F : List Fnl}
theorem Mg.start (h : Blk w O tM #[.int .i64 n0, .slice none 0 0, .slice none 0 0]) (base : Nat) : Mg tM tA tF w O base n0 0 [] 0 [] := ⟨none, 0, none, 0, h, World.ownsRow_nil _ _ _ _, World.ownsRow_nil _ _ _ _⟩
theorem Mg.below {w' : World} (h : Mg tM tA tF w O base n0 q L r F) (hb : Below w.heap.size w w') : Mg tM tA tF w' O base n0 q L r F := by
  obtain ⟨A, c, AF, cf, h1, h2, h3⟩ := h
  exact ⟨A, c, AF, cf, h1.below hb h1.lt, own_blw h2 hb, own_blw h3 hb⟩
theorem Mg.alloc (h : Mg tM tA tF w O base n0 q L r F) (o : Obj) : Mg tM tA tF (w.alloc o) O base n0 q L r F := by
  obtain ⟨A, c, AF, cf, h1, h2, h3⟩ := h
  exact ⟨A, c, AF, cf, h1.alloc o, h2.alloc o, h3.alloc o⟩
theorem Mg.lt (h : Mg tM tA tF w O base n0 q L r F) : O < w.heap.size := by
  obtain ⟨A, c, AF, cf, h1, _⟩ := h
  exact h1.lt
theorem Mg.lens (h : Mg tM tA tF w O base n0 q L r F) : L.length = q ∧ F.length = r := by
  obtain ⟨A, c, AF, cf, _, h2, h3⟩ := h
  exact ⟨own_lenA h2, own_lenF h3⟩
/-- It is kept when another row of the call's own grows, whose type is another one. -/
theorem Mg.own (h : Mg tM tA tF w O base n0 q L r F) {b2 s2 n2 : Nat} {e2 : TypeId} {v2 : Value} {x2 : List Value} (ho : w.ownsRow b2 e2 s2 v2 n2 x2) (hM : e2 ≠ tM) (hA : tA ≠ e2) (hF : tF ≠ e2) (hg : w.grownBy w6 v2.ownBlock) : Mg tM tA tF w6 O base n0 q L r F := by
  obtain ⟨A, c, AF, cf, h1, h2, h3⟩ := h
  exact ⟨A, c, AF, cf, h1.grown hg (Ne.symm (own_bne ho h1 hM)), h2.kept hg (own_ne h2 ho hA), h3.kept hg (own_ne h3 ho hF)⟩
/-- A store into a block below its rows that is not its own. -/
theorem Mg.far (h : Mg tM tA tF w O base n0 q L r F) {p : Addr} (hO : O ≠ p.block) (hp : p.block < base) (u : Value) : Mg tM tA tF (w.setCell p u) O base n0 q L r F := by
  obtain ⟨A, c, AF, cf, h1, h2, h3⟩ := h
  exact ⟨A, c, AF, cf, h1.far hO u, ownsRow_setCell_below h2 hp u, ownsRow_setCell_below h3 hp u⟩
theorem mg_pushA (bO : Blk w O tM #[.int .i64 n0, .slice A q c, .slice AF r cf]) (hA : w.ownsRow base tA 5 (.slice A q c) q (arcRow L))
    (hF : w.ownsRow base tF 2 (.slice AF r cf) r (finRow F)) (h1 : tA ≠ tM) (h2 : tF ≠ tM) (h3 : tF ≠ tA) {x : Arc} (hg : w.grownBy w6 (Value.slice A q c).ownBlock) (hown : w6.ownsRow base tA 5 (.slice Av (q + 1) cv) (q + 1) (arcRow L ++ arcRow [x])) :
    Mg tM tA tF (w6.setCell ⟨O, 1, none⟩ (.slice Av (q + 1) cv)) O base n0 (q + 1) (L ++ [x]) r F := by
  have b6 := bO.grown hg (Ne.symm (own_bne hA bO h1))
  have hF6 := hF.kept hg (own_ne hF hA h3)
  exact ⟨Av, cv, AF, cf, b6.set_ 1 _, ownsRow_setCell_other (by rw [arcRow_append]; exact hown) (own_bne hown b6 h1) _, ownsRow_setCell_other hF6 (own_bne hF6 b6 h2) _⟩
theorem mg_pushF (bO : Blk w O tM #[.int .i64 n0, .slice A q c, .slice AF r cf]) (hA : w.ownsRow base tA 5 (.slice A q c) q (arcRow L))
    (hF : w.ownsRow base tF 2 (.slice AF r cf) r (finRow F)) (h1 : tA ≠ tM) (h2 : tF ≠ tM) (h3 : tA ≠ tF) {x : Fnl} (hg : w.grownBy w6 (Value.slice AF r cf).ownBlock) (hown : w6.ownsRow base tF 2 (.slice Av (r + 1) cv) (r + 1) (finRow F ++ finRow [x])) :
    Mg tM tA tF (w6.setCell ⟨O, 2, none⟩ (.slice Av (r + 1) cv)) O base n0 q L (r + 1) (F ++ [x]) := by
  have b6 := bO.grown hg (Ne.symm (own_bne hF bO h2))
  have hA6 := hA.kept hg (own_ne hA hF h3)
  exact ⟨A, c, Av, cv, b6.set_ 2 _, ownsRow_setCell_other hA6 (own_bne hA6 b6 h1) _, ownsRow_setCell_other (by rw [finRow_append]; exact hown) (own_bne hown b6 h2) _⟩
theorem mg_at (hA : w.ownsRow base tA 5 (.slice A q c) q (arcRow L)) (hF : w.ownsRow base tF 2 (.slice AF r cf) r (finRow F)) (hq : q ≤ big) (hr : r ≤ big) : MachAt w w.heap.size (.agg #[.int .i64 n0, .slice A q c, .slice AF r cf]) ⟨n0, L, F⟩ := by
  obtain ⟨_, _, ev, hqc, _⟩ := own_value hA
  injection ev with _ _ ev
  obtain ⟨_, _, fv, hrc, _⟩ := own_value hF
  injection fv with _ _ fv
  exact ⟨A, AF, q, c, r, cf, rfl, hide (own_lenA hA), hide (own_lenF hF), by omega, by omega, hq, hr, Rd.of_own hA (fun i j hi hj => arcRow_at _ i j (by rw [own_lenA hA]; exact hi) hj), Rd.of_own hF (fun i j hi hj => finRow_at _ i j (by rw [own_lenF hF]; exact hi) hj)⟩
end
end Gm
