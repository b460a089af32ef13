/- machine.Trim of a machine with a fault: that fault. -/
import Derived.Test.YtmgpcnkmmgkjgaaVal
import Derived.Test.YtmgpcnkmmgkjgaaNew
import Derived.Test.YtmgpcnkmmgkjgaaReach
import Derived.Test.YtmgpcnkmmgkjgaaPlT
namespace Gm
open Go
theorem num_step {K : Nat → Bool} {j : Nat} {x : Int} (h : numK K j = x) : ∀ i, (if i = j then Value.int .i64 x else .int .i64 (if i < j then numK K i else 0)) = .int .i64 (if i < j + 1 then numK K i else 0) := by
  intro i
  by_cases e : i = j
  · subst e; rw [if_pos rfl, if_pos (by omega), h]
  · rw [if_neg e]
    by_cases e2 : i < j
    · rw [if_pos e2, if_pos (by omega)]
    · rw [if_neg e2, if_neg (by omega)]
theorem numK_f {K : Nat → Bool} {j : Nat} (h : K j = false) : numK K j = -1 := by unfold numK; rw [if_neg (by rw [h]; simp)]
theorem numK_t {K : Nat → Bool} {j : Nat} (h : K j = true) : numK K j = (cntK K j : Int) := by unfold numK; rw [if_pos h]
theorem cntK_f {K : Nat → Bool} {j : Nat} (h : K j = false) : cntK K (j + 1) = cntK K j := by simp [cntK, h]
theorem cntK_t {K : Nat → Bool} {j : Nat} (h : K j = true) : cntK K (j + 1) = cntK K j + 1 := by simp [cntK, h]
end Gm
namespace Go.Proofs.Ytmgpcnkmmgkjgaa
open Go.RowKit Gm
set_option linter.unusedSimpArgs false
theorem validate_ok (v : Value) (m : Mach) (w : World) (B : Nat) (hB : B ≤ w.heap.size) (h : MachAt w B v m) (hv : validate m = (0, 0)) :
    Calls Try.prog 44 #[v] w fun e w' => e = .returned (.agg #[.int .i64 0, .int .i64 0]) ∧ Below w.heap.size w w' := by
  have := validate_any v m w B hB h
  rw [hv] at this
  exact this
theorem arc_info : (Try.prog.info? 45).map (fun i => (i.zero, i.size, i.bytes)) = some (some (.agg #[.int .i64 0, .int .i64 0, .int .i64 0, .int .i64 0, .int .i64 0]), 5, 40) := by kernel_rfl
theorem fin_info : (Try.prog.info? 51).map (fun i => (i.zero, i.size, i.bytes)) = some (some (.agg #[.int .i64 0, .int .i64 0]), 2, 16) := by kernel_rfl
end Go.Proofs.Ytmgpcnkmmgkjgaa
