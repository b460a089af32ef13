/- letters.class, Class, fold, token.classOf and the reference's Lower: contracts. -/
import Derived.Test.YtcchpijadlgagaaDoorTxC2
import Derived.Test.YtcchpijadlgagaaDoorOwn
namespace Gm
open Go Go.RowKit
theorem Rd.of_blk {w : World} {g : Nat} {t : TypeId} {cs : Array Value} {l : List Int} (h : Blk w g t cs) (hcs : cs.toList = intRow l) : Rd w (g + 1) 1 (some ⟨g, 0, none⟩) l.length (intCell l) := by
  intro _
  refine ⟨g, 0, rfl, by omega, fun i j hi hj => ?_⟩
  have h1 := intRow_at l i j hi hj
  obtain rfl : j = 0 := by omega
  rw [h.cell, ← Array.getElem?_toList, hcs, ← h1]
  simp
end Gm
namespace Go.Proofs.YtcchpijadlgagaaDoor
open Go.RowKit Gm
def letL : List Int := [65, 90, 97, 122, 192, 214, 216, 246, 248, 591, 913, 929, 931, 937, 945, 969, 1040, 1103, 7688, 7689]
theorem btw_at (p : Int) (l : List Int) (b : Bool) (hb : btw p l = b) (g n : Nat) (w : World) (t : TypeId) (cs : Array Value) (hn : l.length = n) (hl : n ≤ 1000) (h : Blk w g t cs) (hcs : cs.toList = intRow l) :
    Calls Tryd.prog 56 #[.int .i64 p, .slice (some ⟨g, 0, none⟩) n n] w fun e w' => e = .returned (.bool b) ∧ w = w' := by
  subst hb; subst hn
  exact between_any p _ _ _ l w _ rfl hl (Rd.of_blk h hcs)
theorem class_space (p : Int) (w : World) (h : p = 9 ∨ p = 10 ∨ p = 13 ∨ p = 32 ∨ p = 160) :
    Calls Tryd.prog 50 #[.int .i64 p] w fun e w' => e = .returned (.int .i64 5) ∧ Below w.heap.size w w' := by
  rcases h with rfl | rfl | rfl | rfl | rfl
  all_goals go_enter Tryd.func50, Tryd.ntmps50
  all_goals go_wp2
  all_goals go_ret
  all_goals exact ⟨rfl, by go_grown⟩
theorem class_stop (p : Int) (w : World) (h : p = 33 ∨ p = 46 ∨ p = 63) :
    Calls Tryd.prog 50 #[.int .i64 p] w fun e w' => e = .returned (.int .i64 6) ∧ Below w.heap.size w w' := by
  rcases h with rfl | rfl | rfl
  all_goals go_enter Tryd.func50, Tryd.ntmps50
  all_goals go_wp2
  all_goals go_ret
  all_goals exact ⟨rfl, by go_grown⟩
theorem class_else (p : Int) (w : World) (a0 : (p == 9) = false) (a1 : (p == 10) = false) (a2 : (p == 13) = false) (a3 : (p == 32) = false) (a4 : (p == 160) = false) (b0 : (p == 46) = false) (b1 : (p == 33) = false) (b2 : (p == 63) = false)
    (d m t : Bool) (hd : Hid (btw p [48, 57] = d)) (hm : Hid (btw p [768, 879] = m)) (ht : Hid (btw p letL = t)) :
    Calls Tryd.prog 50 #[.int .i64 p] w fun e w' => e = .returned (.int .i64 (if d then 4 else if m then 3 else if t then 2 else 1)) ∧ Below w.heap.size w w' := by
  go_enter Tryd.func50, Tryd.ntmps50
  go_wp2_with fail
  refine (btw_at _ [48, 57] d hd.out _ _ _ _ _ rfl (by decide) (Blk.at_ (by simp)) rfl).mono ?_
  rintro e w' ⟨rfl, rfl⟩
  cases d
  · go_wp2_with fail
    refine (btw_at _ [768, 879] m hm.out _ _ _ _ _ rfl (by decide) (Blk.at_ (by simp)) rfl).mono ?_
    rintro e w' ⟨rfl, rfl⟩
    cases m
    · go_wp2_with fail
      refine (btw_at _ letL t ht.out _ _ _ _ _ rfl (by decide) (Blk.at_ (by simp)) rfl).mono ?_
      rintro e w' ⟨rfl, rfl⟩
      cases t
      all_goals go_wp2
      all_goals go_ret
      all_goals exact ⟨rfl, by go_grown⟩
    · go_wp2
      go_ret
      exact ⟨rfl, by go_grown⟩
  · go_wp2
    go_ret
    exact ⟨rfl, by go_grown⟩
theorem class_any (p : Int) (w : World) :
    Calls Tryd.prog 50 #[.int .i64 p] w fun e w' => e = .returned (.int .i64 (clsP p)) ∧ Below w.heap.size w w' := by
  by_cases h1 : p = 9 ∨ p = 10 ∨ p = 13 ∨ p = 32 ∨ p = 160
  · have e : clsP p = 5 := by unfold clsP; rw [if_pos h1]
    rw [e]; exact class_space p w h1
  · by_cases h2 : p = 33 ∨ p = 46 ∨ p = 63
    · have e : clsP p = 6 := by unfold clsP; rw [if_neg h1, if_pos h2]
      rw [e]; exact class_stop p w h2
    · have e : clsP p = if btw p [48, 57] then 4 else if btw p [768, 879] then 3 else if btw p letL then 2 else 1 := by
        unfold clsP
        rw [if_neg h1, if_neg h2]
        simp only [btw, letL, Bool.or_eq_true, Bool.and_eq_true, decide_eq_true_eq, Bool.false_eq_true, or_false]
        repeat' split
        all_goals first | rfl | (exfalso; omega)
      rw [e]
      exact class_else p w (by simp; omega) (by simp; omega) (by simp; omega) (by simp; omega) (by simp; omega) (by simp; omega) (by simp; omega) (by simp; omega) _ _ _ (hide rfl) (hide rfl) (hide rfl)
end Go.Proofs.YtcchpijadlgagaaDoor
