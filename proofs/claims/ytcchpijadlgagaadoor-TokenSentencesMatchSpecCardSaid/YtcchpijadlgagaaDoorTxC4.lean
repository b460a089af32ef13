/- letters.Class, fold, token.classOf and the reference's Lower: contracts. -/
import Derived.Test.YtcchpijadlgagaaDoorTxC3
namespace Go.Proofs.YtcchpijadlgagaaDoor
open Go.RowKit Gm
set_option linter.unusedSimpArgs false
def clsR (p : Int) : Int × (Int × Int) := if scal p = true then (clsP p, (0, 0)) else (0, (3, -1))
theorem scalar_at (p : Int) (b : Bool) (hb : scal p = b) (w : World) :
    Calls Tryd.prog 49 #[.int .i64 p] w fun e w' => e = .returned (.bool b) ∧ w = w' := by
  subst hb; exact scalar_any p w
theorem Class_any (p : Int) (w : World) :
    Calls Tryd.prog 40 #[.int .i64 p] w fun e w' => e = .returned (.tuple #[.int .i64 (clsR p).1, .agg #[.int .i64 (clsR p).2.1, .int .i64 (clsR p).2.2]]) ∧ Below w.heap.size w w' := by
  obtain ⟨b, hb⟩ : ∃ b, b = scal p := ⟨_, rfl⟩
  unfold clsR
  rw [← hb]
  have HB := hide hb.symm
  clear hb
  cases b
  · rw [if_neg (by simp)]
    go_enter Tryd.func40, Tryd.ntmps40
    go_wp2_with fail
    refine (scalar_at _ _ HB.out _).mono ?_
    rintro e w' ⟨rfl, rfl⟩
    go_wp2_with fail
    refine (lfault_any _ _ _).mono ?_
    rintro e w1 ⟨rfl, hb1⟩
    have hz : w.heap.size < w1.heap.size := by have := hb1.size; simp at this; omega
    have q0 : w1.cell? ⟨w.heap.size, 0, none⟩ = some (.int .i64 0) := keep_cell hb1 (by simp) (by simp)
    have q1 : w1.cell? ⟨w.heap.size, 1, none⟩ = some (.int .i64 0) := keep_cell hb1 (by simp) (by simp)
    have f0 : w1.frozen? ⟨w.heap.size, 0, none⟩ = false := keep_free hb1 (by simp) (by simp)
    have f1 : w1.frozen? ⟨w.heap.size, 1, none⟩ = false := keep_free hb1 (by simp) (by simp)
    have hbw : Below w.heap.size w w1 := ((Below.refl _ _).alloc (Nat.le_refl _) _).trans (hb1.mono (by simp))
    go_wp2
    exact bodyPost_ret (v := .tuple #[.int .i64 0, .agg #[.int .i64 3, .int .i64 (-1)]]) (by simp [results, Tryd.results40, go_sem, q0, q1, f0, f1, hz]) rfl ⟨rfl, by go_grown⟩
  · rw [if_pos rfl]
    go_enter Tryd.func40, Tryd.ntmps40
    go_wp2_with fail
    refine (scalar_at _ _ HB.out _).mono ?_
    rintro e w' ⟨rfl, rfl⟩
    go_wp2_with fail
    refine (class_any _ _).mono ?_
    rintro e w1 ⟨rfl, hb1⟩
    have hz : w.heap.size < w1.heap.size := by have := hb1.size; simp at this; omega
    have q0 : w1.cell? ⟨w.heap.size, 0, none⟩ = some (.int .i64 0) := keep_cell hb1 (by simp) (by simp)
    have q1 : w1.cell? ⟨w.heap.size, 1, none⟩ = some (.int .i64 0) := keep_cell hb1 (by simp) (by simp)
    have f0 : w1.frozen? ⟨w.heap.size, 0, none⟩ = false := keep_free hb1 (by simp) (by simp)
    have f1 : w1.frozen? ⟨w.heap.size, 1, none⟩ = false := keep_free hb1 (by simp) (by simp)
    have hbw : Below w.heap.size w w1 := ((Below.refl _ _).alloc (Nat.le_refl _) _).trans (hb1.mono (by simp))
    go_wp2
    exact bodyPost_ret (v := .tuple #[.int .i64 (clsP p), .agg #[.int .i64 0, .int .i64 0]]) (by simp [results, Tryd.results40, go_sem, q0, q1, f0, f1, hz]) rfl ⟨rfl, by go_grown⟩
theorem classOf_any (p : Int) (w : World) (h : scal p = true) :
    Calls Tryd.prog 28 #[.int .i64 p] w fun e w' => e = .returned (.int .i64 (clsP p)) ∧ Below w.heap.size w w' := by
  have e : clsR p = (clsP p, (0, 0)) := by unfold clsR; rw [if_pos h]
  have hc := Class_any p
  rw [e] at hc
  clear h e
  have HC := hide hc
  clear hc
  go_enter Tryd.func28, Tryd.ntmps28
  go_wp2_with fail
  refine (HC.out _).mono ?_
  rintro e w1 ⟨rfl, hb1⟩
  have hz : w.heap.size ≤ w1.heap.size := hb1.size
  go_wp2
  go_ret
  exact ⟨rfl, by go_grown⟩
def lowP (p : Int) : Int := if (65 ≤ p ∧ p ≤ 90) ∨ (192 ≤ p ∧ p ≤ 222 ∧ p ≠ 215) ∨ (913 ≤ p ∧ p ≤ 937 ∧ p ≠ 930) ∨ (1040 ≤ p ∧ p ≤ 1071) then p + 32 else if p = 262 ∨ p = 471 ∨ p = 475 ∨ p = 7688 ∨ p = 962 then p + 1 else if p = 376 then 255 else p
def upL : List Int := [65, 90, 192, 214, 216, 222, 913, 929, 931, 937, 1040, 1071]
theorem lowP_btw (p : Int) : lowP p = if btw p upL then p + 32 else if p = 262 ∨ p = 471 ∨ p = 475 ∨ p = 7688 ∨ p = 962 then p + 1 else if p = 376 then 255 else p := by
  unfold lowP
  simp only [btw, upL, Bool.or_eq_true, Bool.and_eq_true, decide_eq_true_eq, Bool.false_eq_true, or_false]
  repeat' split
  all_goals first | rfl | (exfalso; omega)
theorem fold_up (p : Int) (w : World) (h0 : 0 ≤ p) (h1 : p ≤ 1114111) (h : Hid (btw p upL = true)) :
    Calls Tryd.prog 53 #[.int .i64 p] w fun e w' => e = .returned (.int .i64 (p + 32)) ∧ Below w.heap.size w w' := by
  go_enter Tryd.func53, Tryd.ntmps53
  go_wp2_with fail
  refine (btw_at _ upL true h.out _ _ _ _ _ rfl (by decide) (Blk.at_ (by simp)) rfl).mono ?_
  rintro e w' ⟨rfl, rfl⟩
  go_wp2
  go_ret
  exact ⟨rfl, by go_grown⟩
theorem fold_one (p : Int) (w : World) (h : Hid (btw p upL = false)) (hp : p = 262 ∨ p = 471 ∨ p = 475 ∨ p = 7688 ∨ p = 962) :
    Calls Tryd.prog 53 #[.int .i64 p] w fun e w' => e = .returned (.int .i64 (p + 1)) ∧ Below w.heap.size w w' := by
  rcases hp with rfl | rfl | rfl | rfl | rfl
  all_goals
    go_enter Tryd.func53, Tryd.ntmps53
    go_wp2_with fail
    refine (btw_at _ upL false h.out _ _ _ _ _ rfl (by decide) (Blk.at_ (by simp)) rfl).mono ?_
    rintro e w' ⟨rfl, rfl⟩
    go_wp2
    go_ret
    exact ⟨rfl, by go_grown⟩
theorem fold_else (p : Int) (w : World) (h : Hid (btw p upL = false)) (a0 : (p == 262) = false) (a1 : (p == 471) = false) (a2 : (p == 475) = false) (a3 : (p == 7688) = false) (a4 : (p == 962) = false) (b : Bool) (hb : (p == 376) = b) :
    Calls Tryd.prog 53 #[.int .i64 p] w fun e w' => e = .returned (.int .i64 (if b then 255 else p)) ∧ Below w.heap.size w w' := by
  cases b
  all_goals
    go_enter Tryd.func53, Tryd.ntmps53
    go_wp2_with fail
    refine (btw_at _ upL false h.out _ _ _ _ _ rfl (by decide) (Blk.at_ (by simp)) rfl).mono ?_
    rintro e w' ⟨rfl, rfl⟩
    go_wp2
    go_ret
    exact ⟨rfl, by go_grown⟩
theorem fold_any (p : Int) (w : World) (h0 : 0 ≤ p) (h1 : p ≤ 1114111) :
    Calls Tryd.prog 53 #[.int .i64 p] w fun e w' => e = .returned (.int .i64 (lowP p)) ∧ Below w.heap.size w w' := by
  rw [lowP_btw]
  by_cases hb : btw p upL = true
  · rw [if_pos hb]; exact fold_up p w h0 h1 (hide hb)
  · rw [if_neg hb]
    have hb' : btw p upL = false := by simpa using hb
    by_cases h2 : p = 262 ∨ p = 471 ∨ p = 475 ∨ p = 7688 ∨ p = 962
    · rw [if_pos h2]; exact fold_one p w (hide hb') h2
    · rw [if_neg h2]
      have e : (if p = 376 then (255 : Int) else p) = if (p == 376) then 255 else p := by
        by_cases h : p = 376 <;> simp [h]
      rw [e]
      exact fold_else p w (hide hb') (by simp; omega) (by simp; omega) (by simp; omega) (by simp; omega) (by simp; omega) _ rfl
set_option maxHeartbeats 4000000 in
theorem rlower_any (p : Int) (w : World) (h0 : 0 ≤ p) (h1 : p ≤ 1114111) :
    Calls Tryd.prog 44 #[.int .i64 p] w fun e w' => e = .returned (.int .i64 (lowP p)) ∧ w = w' := by
  go_enter Tryd.func44, Tryd.ntmps44
  go_wp2
  all_goals go_ret
  all_goals refine ⟨ret_i64 ?_, rfl⟩
  all_goals go_light
  all_goals first
    | (unfold lowP; decide)
    | (unfold lowP; (repeat' split) <;> first | rfl | omega | (simp only [beq_iff_eq, beq_eq_false_iff_ne] at *; omega))
end Go.Proofs.YtcchpijadlgagaaDoor
