/- The queue of machine.Weight in memory; its methods Len, Less, Swap, walked. -/
import Derived.Test.YtmgpcnkmmgkjgaaHpP
import Derived.Test.YtmgpcnkmmgkjgaaCmp
import Derived.Test.YtmgpcnkmmgkjgaaOwn
import Derived.Test.YtmgpcnkmmgkjgaaEq
import Derived.BigRegion
namespace Gm
open Go Go.RowKit
def plVals (a : Pl) : List Value := [.int .i64 (a.w : Int), .int .i64 (a.s : Int), .int .i64 (a.i : Int), .int .i64 (a.j : Int)]
def plRow (l : List Pl) : List Value := l.flatMap plVals
theorem plRow_cons (a : Pl) (l : List Pl) : plRow (a :: l) = plVals a ++ plRow l := rfl
theorem plRow_append (l k : List Pl) : plRow (l ++ k) = plRow l ++ plRow k := by simp [plRow]
theorem plRow_length (l : List Pl) : (plRow l).length = l.length * 4 := by
  induction l with
  | nil => rfl
  | cons a l ih => rw [plRow_cons, List.length_append, ih, List.length_cons]; simp [plVals]; omega
theorem plRow_at : ∀ (l : List Pl) (k j : Nat), k < l.length → j < 4 → (plRow l)[k * 4 + j]? = (plVals (l.getD k dP))[j]?
  | [], k, j, h, _ => by simp at h
  | a :: l, 0, j, _, hj => by
    rw [plRow_cons]
    rcases (by omega : j = 0 ∨ j = 1 ∨ j = 2 ∨ j = 3) with rfl | rfl | rfl | rfl <;> rfl
  | a :: l, k + 1, j, h, hj => by
    have ih := plRow_at l k j (by simpa using h) hj
    rw [plRow_cons, List.getElem?_append_right (by simp [plVals]; omega)]
    have e2 : (k + 1) * 4 + j - (plVals a).length = k * 4 + j := by simp [plVals]; omega
    rw [e2, ih]
    simp
theorem plRow_set : ∀ (l : List Pl) (k : Nat) (x : Pl), k < l.length →
    ((((plRow l).set (k * 4) (.int .i64 (x.w : Int))).set (k * 4 + 1) (.int .i64 (x.s : Int))).set (k * 4 + 2) (.int .i64 (x.i : Int))).set (k * 4 + 3) (.int .i64 (x.j : Int)) = plRow (l.set k x)
  | [], k, x, h => by simp at h
  | a :: l, 0, x, _ => by
    rw [List.set_cons_zero, plRow_cons, plRow_cons]; rfl
  | a :: l, k + 1, x, h => by
    have ih := plRow_set l k x (by simpa using h)
    rw [List.set_cons_succ, plRow_cons, plRow_cons, ← ih]
    have e : (k + 1) * 4 = k * 4 + 4 := by omega
    rw [e]
    rfl
theorem own_setN {w : World} {base sz n : Nat} {e : TypeId} {v : Value} {xs : List Value} (h : w.ownsRow base e sz v n xs) {g cap : Nat} (hv : v = .slice (some ⟨g, 0, none⟩) n cap) (hn : 0 < n) (i : Nat) (u : Value) :
    (w.setCell ⟨g, i, none⟩ u).ownsRow base e sz v n (xs.set i u) := by
  refine ⟨by rw [List.length_set]; exact h.1, ?_⟩
  rcases h.2 with ⟨_, h0⟩ | ⟨g', cap', cur, h1, h2, h3, h4, h5, h6, h7⟩
  · omega
  · rw [hv] at h1
    injection h1 with h1 _ hc
    injection h1 with h1
    injection h1 with h1
    subst h1
    refine .inr ⟨g, cap', cur.setIfInBounds i u, by rw [hv, hc], h2, ?_, h4, h5, by simpa using h6, ?_⟩
    · simp [World.setCell, Array.getElem?_modify, h3]
    · rw [Array.toList_setIfInBounds, List.take_set, h7]
theorem own_freeN {w : World} {base sz n : Nat} {e : TypeId} {v : Value} {xs : List Value} (h : w.ownsRow base e sz v n xs) {g cap : Nat} (hv : v = .slice (some ⟨g, 0, none⟩) n cap) (hn : 0 < n) (j : Nat) : w.frozen? ⟨g, j, none⟩ = false := by
  rcases h.2 with ⟨_, h0⟩ | ⟨g', cap', cur, h1, h2, h3, h4⟩
  · omega
  · rw [hv] at h1
    injection h1 with h1 _ hc
    injection h1 with h1
    injection h1 with h1
    subst h1
    simp [World.frozen?, h3]
theorem own_formN {w : World} {base sz n : Nat} {e : TypeId} {v : Value} {xs : List Value} (h : w.ownsRow base e sz v n xs) (hn : 0 < n) : ∃ g cap, v = .slice (some ⟨g, 0, none⟩) n cap ∧ base ≤ g ∧ g < w.heap.size ∧ n ≤ cap ∧ cap ≤ maxLen := by
  rcases h.2 with ⟨_, h0⟩ | ⟨g, cap, cur, h1, h2, h3, h4, h5, h6, h7⟩
  · omega
  · refine ⟨g, cap, h1, h2, ?_, h4, h5⟩
    rcases Nat.lt_or_ge g w.heap.size with hlt | hge
    · exact hlt
    · rw [Array.getElem?_eq_none hge] at h3; cases h3
theorem pl_at {w : World} {base n : Nat} {e : TypeId} {l : List Pl} {g cap : Nat} (h : w.ownsRow base e 4 (.slice (some ⟨g, 0, none⟩) n cap) n (plRow l)) (hn : l.length = n) {k : Nat} (hk : k < n) {x : Pl} (hx : l.getD k dP = x) :
    w.cell? ⟨g, k * 4, none⟩ = some (.int .i64 (x.w : Int)) ∧ w.cell? ⟨g, k * 4 + 1, none⟩ = some (.int .i64 (x.s : Int)) ∧ w.cell? ⟨g, k * 4 + 2, none⟩ = some (.int .i64 (x.i : Int)) ∧ w.cell? ⟨g, k * 4 + 3, none⟩ = some (.int .i64 (x.j : Int)) := by
  have key : ∀ j, j < 4 → w.cell? ⟨g, k * 4 + j, none⟩ = (plVals x)[j]? := fun j hj => by
    have h1 := plRow_at l k j (by omega) hj
    rw [hx] at h1
    obtain ⟨u, hu⟩ : ∃ u, (plVals x)[j]? = some u := ⟨_, List.getElem?_eq_getElem (by simpa [plVals] using hj)⟩
    rw [hu] at h1 ⊢
    have := h.cells (g := g) rfl (k * 4 + j) u h1
    have e : (⟨g, 0, none⟩ : Addr).add (k * 4 + j) = ⟨g, k * 4 + j, none⟩ := by unfold Addr.add; split <;> simp_all
    rwa [e] at this
  exact ⟨key 0 (by omega), key 1 (by omega), key 2 (by omega), key 3 (by omega)⟩
theorem own_grown_set {w w' : World} {g : Nat} (h : w.grownBy w' (some g)) (o : Nat) (u : Value) : w.grownBy (w'.setCell ⟨g, o, none⟩ u) (some g) :=
  ⟨h.os, h.tape, h.output, by simpa [World.setCell] using h.size, fun k hk hne => (Below.heap_setCell w' ⟨g, o, none⟩ u k (by rintro rfl; exact hne rfl)).trans (h.block k hk hne)⟩
theorem grownBy_refl (w : World) (r : Option Nat) : w.grownBy w r := ⟨rfl, rfl, rfl, Nat.le_refl _, fun _ _ _ => rfl⟩
theorem grownBy_drewN {w w' : World} {r : Option Nat} (h : w.grownBy w' r) (n : Nat) : w.grownBy (w'.drewN n) r := ⟨h.os, h.tape, h.output, h.size, h.block⟩
theorem grownBy_drew {w w' : World} {r : Option Nat} (h : w.grownBy w' r) : w.grownBy w'.drew r := ⟨h.os, h.tape, h.output, h.size, h.block⟩
theorem own_drew {w : World} {base n s : Nat} {e : TypeId} {v : Value} {xs : List Value} (h : w.ownsRow base e s v n xs) : w.drew.ownsRow base e s v n xs := h
theorem own_drewN' {w : World} {base n s : Nat} {e : TypeId} {v : Value} {xs : List Value} (h : w.ownsRow base e s v n xs) (k : Nat) : (w.drewN k).ownsRow base e s v n xs := h
theorem grownBy_trans {w w' w'' : World} {r : Option Nat} (h : w.grownBy w' r) (h' : w'.grownBy w'' r) : w.grownBy w'' r :=
  ⟨h'.os.trans h.os, h'.tape.trans h.tape, h'.output.trans h.output, Nat.le_trans h.size h'.size, fun k hk hne => (h'.block k (Nat.lt_of_lt_of_le hk h.size) hne).trans (h.block k hk hne)⟩
end Gm
namespace Go.Proofs.Ytmgpcnkmmgkjgaa
open Go.RowKit Gm
set_option linter.unusedSimpArgs false
set_option linter.unusedVariables false
theorem pl_len (A : Option Addr) (n c : Nat) (w : World) :
    Calls Try.prog 67 #[.slice A n c] w fun e w' => e = .returned (.int .i64 (n : Int)) ∧ w = w' := by
  go_enter Try.func67, Try.ntmps67
  go_wp2
  go_ret
  exact ⟨rfl, rfl⟩
theorem pl_less (l : List Pl) (n c g base i j : Nat) (w : World) (hl : l.length = n) (hnc : n ≤ maxLen) (hi : i < n) (hj : j < n) (h : w.ownsRow base 91 4 (.slice (some ⟨g, 0, none⟩) n c) n (plRow l)) :
    Calls Try.prog 123 #[.slice (some ⟨g, 0, none⟩) n c, .int .i64 (i : Int), .int .i64 (j : Int)] w fun e w' => e = .returned (.bool (decide (kw l i < kw l j))) ∧ ∃ q, w' = w.drewN q := by
  obtain ⟨a0, _⟩ := pl_at h hl hi rfl
  obtain ⟨b0, _⟩ := pl_at h hl hj rfl
  have e1 : (l.getD i dP).w = kw l i := rfl
  have e2 : (l.getD j dP).w = kw l j := rfl
  rw [e1] at a0
  rw [e2] at b0
  obtain ⟨x, hx⟩ : ∃ x, x = kw l i := ⟨_, rfl⟩
  obtain ⟨y, hy⟩ : ∃ y, y = kw l j := ⟨_, rfl⟩
  rw [← hx] at a0 ⊢
  rw [← hy] at b0 ⊢
  have hlt : decide ((x : Int) < (y : Int)) = decide (x < y) := by simp
  have HLT := hide hlt
  have j0 : (0 : Int) ≤ (i : Int) := by omega
  have j1 : (i : Int) < (n : Int) := by omega
  have j2 : (0 : Int) ≤ (j : Int) := by omega
  have j3 : (j : Int) < (n : Int) := by omega
  clear h hx hy e1 e2 hlt
  go_enter Try.func123, Try.ntmps123
  go_wp2
  go_quiet (fail)
  go_wp2
  go_ret
  exact ⟨by first | rfl | exact ret_bool HLT.out | simp, _, rfl⟩
set_option maxRecDepth 100000 in
set_option maxHeartbeats 2000000 in
theorem pl_swap (l : List Pl) (n c g base i j : Nat) (w : World) (hl : l.length = n) (hnc : n ≤ maxLen) (hi : i < n) (hj : j < n) (h : w.ownsRow base 91 4 (.slice (some ⟨g, 0, none⟩) n c) n (plRow l)) :
    Calls Try.prog 126 #[.slice (some ⟨g, 0, none⟩) n c, .int .i64 (i : Int), .int .i64 (j : Int)] w fun e w' => e = .returned (.tuple #[]) ∧
      w'.ownsRow base 91 4 (.slice (some ⟨g, 0, none⟩) n c) n (plRow (swp l i j)) ∧ w.grownBy w' (some g) := by
  obtain ⟨x, hx⟩ : ∃ x, x = l.getD i dP := ⟨_, rfl⟩
  obtain ⟨y, hy⟩ : ∃ y, y = l.getD j dP := ⟨_, rfl⟩
  obtain ⟨a0, a1, a2, a3⟩ := pl_at h hl hi hx.symm
  obtain ⟨b0, b1, b2, b3⟩ := pl_at h hl hj hy.symm
  have hn0 : 0 < n := by omega
  have hfr := fun o => own_freeN h rfl hn0 o
  have hO : ((((((((w.setCell ⟨g, i * 4, none⟩ (.int .i64 (y.w : Int))).setCell ⟨g, i * 4 + 1, none⟩ (.int .i64 (y.s : Int))).setCell ⟨g, i * 4 + 2, none⟩ (.int .i64 (y.i : Int))).setCell ⟨g, i * 4 + 3, none⟩ (.int .i64 (y.j : Int))).setCell ⟨g, j * 4, none⟩ (.int .i64 (x.w : Int))).setCell ⟨g, j * 4 + 1, none⟩ (.int .i64 (x.s : Int))).setCell ⟨g, j * 4 + 2, none⟩ (.int .i64 (x.i : Int))).setCell ⟨g, j * 4 + 3, none⟩ (.int .i64 (x.j : Int))).ownsRow base 91 4 (.slice (some ⟨g, 0, none⟩) n c) n (plRow (swp l i j)) := by
    have h1 := own_setN (own_setN (own_setN (own_setN h rfl hn0 (i * 4) (.int .i64 (y.w : Int))) rfl hn0 (i * 4 + 1) (.int .i64 (y.s : Int))) rfl hn0 (i * 4 + 2) (.int .i64 (y.i : Int))) rfl hn0 (i * 4 + 3) (.int .i64 (y.j : Int))
    rw [plRow_set l i y (by omega)] at h1
    have h2 := own_setN (own_setN (own_setN (own_setN h1 rfl hn0 (j * 4) (.int .i64 (x.w : Int))) rfl hn0 (j * 4 + 1) (.int .i64 (x.s : Int))) rfl hn0 (j * 4 + 2) (.int .i64 (x.i : Int))) rfl hn0 (j * 4 + 3) (.int .i64 (x.j : Int))
    rw [plRow_set (l.set i y) j x (by rw [List.length_set]; omega)] at h2
    unfold swp
    rw [← hx, ← hy]
    exact h2
  have HO := hide hO
  have j0 : (0 : Int) ≤ (i : Int) := by omega
  have j1 : (i : Int) < (n : Int) := by omega
  have j2 : (0 : Int) ≤ (j : Int) := by omega
  have j3 : (j : Int) < (n : Int) := by omega
  obtain ⟨xw, hxw⟩ : ∃ z : Int, z = (x.w : Int) := ⟨_, rfl⟩
  obtain ⟨xs, hxs⟩ : ∃ z : Int, z = (x.s : Int) := ⟨_, rfl⟩
  obtain ⟨xi, hxi⟩ : ∃ z : Int, z = (x.i : Int) := ⟨_, rfl⟩
  obtain ⟨xj, hxj⟩ : ∃ z : Int, z = (x.j : Int) := ⟨_, rfl⟩
  obtain ⟨yw, hyw⟩ : ∃ z : Int, z = (y.w : Int) := ⟨_, rfl⟩
  obtain ⟨ys, hys⟩ : ∃ z : Int, z = (y.s : Int) := ⟨_, rfl⟩
  obtain ⟨yi, hyi⟩ : ∃ z : Int, z = (y.i : Int) := ⟨_, rfl⟩
  obtain ⟨yj, hyj⟩ : ∃ z : Int, z = (y.j : Int) := ⟨_, rfl⟩
  rw [← hxw] at a0
  rw [← hxs] at a1
  rw [← hxi] at a2
  rw [← hxj] at a3
  rw [← hyw] at b0
  rw [← hys] at b1
  rw [← hyi] at b2
  rw [← hyj] at b3
  rw [← hxw, ← hxs, ← hxi, ← hxj, ← hyw, ← hys, ← hyi, ← hyj] at HO
  have hgl := h.lt
  have hgz : g < w.heap.size := by
    obtain ⟨g', c', e, _, h2, _⟩ := own_formN h hn0
    injection e with e
    injection e with e
    injection e with e
    omega
  clear h hO hx hy hxw hxs hxi hxj hyw hys hyi hyj hgl
  by_cases hij : i = j
  · subst hij
    have k0 := a0.symm.trans b0
    have k1 := a1.symm.trans b1
    have k2 := a2.symm.trans b2
    have k3 := a3.symm.trans b3
    simp only [Option.some.injEq, Value.int.injEq, true_and] at k0 k1 k2 k3
    subst k0 k1 k2 k3
    go_enter Try.func126, Try.ntmps126
    go_wp2
    go_region
    go_end0
    refine ⟨rfl, own_drew HO.out, ?_⟩
    exact grownBy_drew (own_grown_set (own_grown_set (own_grown_set (own_grown_set (own_grown_set (own_grown_set (own_grown_set (own_grown_set (grownBy_refl w (some g)) _ _) _ _) _ _) _ _) _ _) _ _) _ _) _ _)
  · have hij2 : ¬ j = i := fun e => hij e.symm
    have n00 : ¬ (i * 4 = j * 4) := by omega
    have m00 : ¬ (j * 4 = i * 4) := by omega
    have n01 : ¬ (i * 4 = j * 4 + 1) := by omega
    have m10 : ¬ (j * 4 + 1 = i * 4) := by omega
    have n02 : ¬ (i * 4 = j * 4 + 2) := by omega
    have m20 : ¬ (j * 4 + 2 = i * 4) := by omega
    have n03 : ¬ (i * 4 = j * 4 + 3) := by omega
    have m30 : ¬ (j * 4 + 3 = i * 4) := by omega
    have n10 : ¬ (i * 4 + 1 = j * 4) := by omega
    have m01 : ¬ (j * 4 = i * 4 + 1) := by omega
    have n11 : ¬ (i * 4 + 1 = j * 4 + 1) := by omega
    have m11 : ¬ (j * 4 + 1 = i * 4 + 1) := by omega
    have n12 : ¬ (i * 4 + 1 = j * 4 + 2) := by omega
    have m21 : ¬ (j * 4 + 2 = i * 4 + 1) := by omega
    have n13 : ¬ (i * 4 + 1 = j * 4 + 3) := by omega
    have m31 : ¬ (j * 4 + 3 = i * 4 + 1) := by omega
    have n20 : ¬ (i * 4 + 2 = j * 4) := by omega
    have m02 : ¬ (j * 4 = i * 4 + 2) := by omega
    have n21 : ¬ (i * 4 + 2 = j * 4 + 1) := by omega
    have m12 : ¬ (j * 4 + 1 = i * 4 + 2) := by omega
    have n22 : ¬ (i * 4 + 2 = j * 4 + 2) := by omega
    have m22 : ¬ (j * 4 + 2 = i * 4 + 2) := by omega
    have n23 : ¬ (i * 4 + 2 = j * 4 + 3) := by omega
    have m32 : ¬ (j * 4 + 3 = i * 4 + 2) := by omega
    have n30 : ¬ (i * 4 + 3 = j * 4) := by omega
    have m03 : ¬ (j * 4 = i * 4 + 3) := by omega
    have n31 : ¬ (i * 4 + 3 = j * 4 + 1) := by omega
    have m13 : ¬ (j * 4 + 1 = i * 4 + 3) := by omega
    have n32 : ¬ (i * 4 + 3 = j * 4 + 2) := by omega
    have m23 : ¬ (j * 4 + 2 = i * 4 + 3) := by omega
    have n33 : ¬ (i * 4 + 3 = j * 4 + 3) := by omega
    have m33 : ¬ (j * 4 + 3 = i * 4 + 3) := by omega
    go_enter Try.func126, Try.ntmps126
    go_wp2
    go_region
    go_end0
    refine ⟨rfl, own_drew HO.out, ?_⟩
    exact grownBy_drew (own_grown_set (own_grown_set (own_grown_set (own_grown_set (own_grown_set (own_grown_set (own_grown_set (own_grown_set (grownBy_refl w (some g)) _ _) _ _) _ _) _ _) _ _) _ _) _ _) _ _)
end Go.Proofs.Ytmgpcnkmmgkjgaa
