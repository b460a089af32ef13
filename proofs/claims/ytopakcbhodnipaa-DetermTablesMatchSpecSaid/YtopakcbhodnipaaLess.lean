/- The reference's order of arcs: less. -/
import Derived.Test.YtopakcbhodnipaaCmp
namespace Gm
open Go Go.RowKit
theorem lessL_step {l k : List Int} {j : Nat} (h1 : j < l.length) (h2 : l.length = k.length) : lessL (l.drop j) (k.drop j) = if l.getD j 0 = k.getD j 0 then lessL (l.drop (j + 1)) (k.drop (j + 1)) else decide (l.getD j 0 < k.getD j 0) := by
  rw [List.drop_eq_getElem_cons h1, List.drop_eq_getElem_cons (show j < k.length by omega)]
  simp [lessL, h1, show j < k.length by omega]
theorem lessL_end {l k : List Int} {j : Nat} (h1 : l.length ≤ j) : lessL (l.drop j) k = false := by
  rw [List.drop_eq_nil_of_le h1]; cases k <;> rfl
theorem key_cell (a : Arc) (k : Nat) (hk : k < 5) : (#[Value.int .i64 a.f, .int .i64 a.i, .int .i64 a.o, .int .i64 a.t, .int .i64 a.w] : Array Value)[k]? = some (.int .i64 ((arcKey a).getD k 0)) := by
  rcases (by omega : k = 0 ∨ k = 1 ∨ k = 2 ∨ k = 3 ∨ k = 4) with rfl | rfl | rfl | rfl | rfl <;> rfl
end Gm
namespace Go.Proofs.Ytopakcbhodnipaa
open Go.RowKit Gm
set_option linter.unusedSimpArgs false
set_option maxRecDepth 100000 in
set_option maxHeartbeats 1000000 in
theorem less_any (a b : Arc) (w : World) :
    Calls Try.prog 87 #[.agg #[.int .i64 a.f, .int .i64 a.t, .int .i64 a.i, .int .i64 a.o, .int .i64 a.w], .agg #[.int .i64 b.f, .int .i64 b.t, .int .i64 b.i, .int .i64 b.o, .int .i64 b.w]] w fun e w' => e = .returned (.bool (arcLess a b)) ∧ Below w.heap.size w w' := by
  go_enter Try.func87, Try.ntmps87
  go_wp2
  generalize hW : World.alloc _ _ = W0
  have hb0 : Below w.heap.size w W0 := by rw [← hW]; go_grown
  have bx : Blk W0 (w.heap.size + 1 + 1) 3 #[Value.int .i64 a.f, .int .i64 a.i, .int .i64 a.o, .int .i64 a.t, .int .i64 a.w] := by
    rw [← hW]; exact (Blk.at_ (by simp)).alloc _
  have bY : Blk W0 (w.heap.size + 1 + 1 + 1) 3 #[Value.int .i64 b.f, .int .i64 b.i, .int .i64 b.o, .int .i64 b.t, .int .i64 b.w] := by
    rw [← hW]; exact Blk.at_ (by simp)
  clear hW
  go_loopw [32] (fun i wr => ∃ k q : Nat, k ≤ 5 ∧ i = .int .i64 k ∧ Hid (wr = W0.drewN q) ∧ Hid (arcLess a b = lessL ((arcKey a).drop k) ((arcKey b).drop k))) (fun i _ => 5 - (intOf i).toNat)
  case atStart => exact ⟨0, 0, by omega, rfl, hide rfl, hide rfl⟩
  case round =>
    obtain ⟨k, q, hk, rfl, hwr, HR⟩ := hrel
    obtain rfl := hwr.out
    clear hwr
    by_cases hkn : k < 5
    · have c0 : W0.cell? ⟨w.heap.size + 1 + 1, k, none⟩ = some (.int .i64 ((arcKey a).getD k 0)) := (bx.cell k).trans (key_cell a k hkn)
      have c1 : W0.cell? ⟨w.heap.size + 1 + 1 + 1, k, none⟩ = some (.int .i64 ((arcKey b).getD k 0)) := (bY.cell k).trans (key_cell b k hkn)
      obtain ⟨x, hx⟩ : ∃ x, x = (arcKey a).getD k 0 := ⟨_, rfl⟩
      obtain ⟨y, hy⟩ : ∃ x, x = (arcKey b).getD k 0 := ⟨_, rfl⟩
      have hs := lessL_step (l := arcKey a) (k := arcKey b) (j := k) hkn rfl
      rw [← hx, ← hy] at hs
      rw [← hx] at c0
      rw [← hy] at c1
      have HS := hide hs
      clear hs hx hy
      have k1 : (0 : Int) ≤ (k : Int) := by omega
      have k2 : (k : Int) < 5 := by omega
      go_wp2
      go_quiet (fail)
      by_cases hxy : x = y
      · have hb : (x != y) = false := by simp [hxy]
        have HX := hide hxy
        clear hxy
        go_wp2
        go_roundw
        case rel => exact ⟨k + 1, _, by omega, by go_num, hide rfl, hide (HR.out.trans (HS.out.trans (if_pos HX.out)))⟩
        case measure => simp [intOf]; omega
      · have hb : (x != y) = true := by simp [hxy]
        have HX := hide hxy
        clear hxy
        go_wp2
        go_quiet (fail)
        go_wp2
        go_ret
        rw [HR.out, HS.out, if_neg HX.out]
        exact ⟨rfl, below_drewN (below_drewN (below_drewN hb0 _) _) _⟩
    · go_wp2
      go_ret
      rw [HR.out, lessL_end (show (arcKey a).length ≤ k by simp [arcKey]; omega)]
      exact ⟨rfl, below_drewN hb0 _⟩
end Go.Proofs.Ytopakcbhodnipaa
