/- The small functions of package machine and of the reference's file machine.go: contracts. -/
import Derived.Test.YtopakcbhodnipaaProg
import Derived.Test.YtopakcbhodnipaaMem
import Derived.Test.YtopakcbhodnipaaReg
import Derived.Outline
import Derived.Handy
import Derived.Deep.QuietTactic
import Derived.BigQuiet
import Derived.Laws.StructEq
namespace Go.Proofs.Ytopakcbhodnipaa
open Go.RowKit Gm
theorem in_any (n l m : Int) (w : World) :
    Calls Try.prog 95 #[.int .i64 n, .int .i64 l, .int .i64 m] w fun e w' => e = .returned (.bool (inR n l m)) ∧ w = w' := by
  go_enter Try.func95, Try.ntmps95
  go_wp2
  all_goals go_ret
  · rename_i h; exact ⟨by simp [inR, h], rfl⟩
  · rename_i h; exact ⟨by simp [inR]; omega, rfl⟩
def fEq (a b c d : Int) : Bool := decide (a = c) && decide (b = d)
theorem run_neq_fault (a b c d : Int) (w : World) : (binOp .neq 30 (.agg #[.int .i64 a, .int .i64 b]) (.agg #[.int .i64 c, .int .i64 d])).run Try.prog w = .ok (.bool (!fEq a b c d)) w := by
  simp [go_sem, fEq]
  by_cases e1 : a = c <;> by_cases e2 : b = d <;> simp_all
theorem run_eql_fault (a b c d : Int) (w : World) : (binOp .eql 30 (.agg #[.int .i64 a, .int .i64 b]) (.agg #[.int .i64 c, .int .i64 d])).run Try.prog w = .ok (.bool (fEq a b c d)) w := by
  simp [go_sem, fEq]
  by_cases e1 : a = c <;> by_cases e2 : b = d <;> simp_all
theorem fEq_true {a b c d : Int} (h : a = c ∧ b = d) : fEq a b c d = true := by simp [fEq, h]
theorem fEq_false {a b c d : Int} (h : ¬ (a = c ∧ b = d)) : fEq a b c d = false := by
  unfold fEq; by_cases e1 : a = c <;> by_cases e2 : b = d <;> simp_all
theorem isNaN_any (a : Int) (w : World) :
    Calls Try.prog 120 #[.int .i64 a] w fun e w' => e = .returned (.bool false) ∧ w = w' := by
  go_enter Try.func120, Try.ntmps120
  go_wp2
  go_ret
  simp
theorem compare_any (a b : Int) (w : World) :
    Calls Try.prog 92 #[.int .i64 a, .int .i64 b] w fun e w' => e = .returned (.int .i64 (cmpI a b)) ∧ w = w' := by
  go_enter Try.func92, Try.ntmps92
  go_wp2_with (go_at_call 120; refine (isNaN_any _ _).mono ?_; rintro e w' ⟨rfl, rfl⟩)
  all_goals go_ret
  all_goals refine ⟨?_, rfl⟩
  all_goals unfold cmpI
  · rename_i h; rw [if_pos h]; rfl
  · rename_i h1 h2; rw [if_neg (by omega), if_pos h2]; rfl
  · rename_i h1 h2; rw [if_neg (by omega), if_neg (by omega)]; rfl
set_option maxHeartbeats 400000 in
theorem or_any (A : Option Addr) (n c : Nat) (l : List Int) (w : World) (B : Nat) (hn : l.length = n) (hl : n ≤ 1000) (h : Rd w B 1 A n (intCell l)) :
    Calls Try.prog 91 #[.slice A n c] w fun e w' => e = .returned (.int .i64 (orL l)) ∧ w = w' := by
  have HL := hide hn
  clear hn
  go_enter Try.func91, Try.ntmps91
  go_wp2
  go_loop [8, 5] (fun i x => ∃ k : Nat, k ≤ n ∧ i = .int .i64 k ∧ orL (l.drop k) = orL l) (fun i x => n - (intOf i).toNat)
  case atStart => exact ⟨0, by omega, rfl, by simp⟩
  case round =>
    obtain ⟨k, hk, rfl, hor⟩ := hrel
    have HO := hide hor
    clear hor
    by_cases hkn : k < n
    · obtain ⟨b, off, rfl, hB, hc1⟩ := h.at1 hkn
      clear h
      have hs := orL_step l k (by rw [HL.out]; exact hkn)
      have HS := hide hs
      clear hs
      obtain ⟨x, hx⟩ : ∃ x, x = l.getD k 0 := ⟨_, rfl⟩
      simp only [intCell, ← hx] at hc1
      have HX := hide hx
      clear hx
      by_cases h0 : x = 0
      · have hb : (x != 0) = false := by simp [h0]
        have H0 := hide h0
        clear h0
        go_wp2
        go_round
        case rel => exact ⟨k + 1, by omega, by go_num, by rw [← HO.out, HS.out, if_pos (by rw [← HX.out]; exact H0.out)]⟩
        case measure => simp [intOf]; omega
      · have hb : (x != 0) = true := by simp [h0]
        have H0 := hide h0
        clear h0
        go_wp2
        go_ret
        refine ⟨?_, rfl⟩
        rw [← HO.out, HS.out, if_neg (by rw [← HX.out]; exact H0.out), ← HX.out]; rfl
    · go_wp2
      go_ret
      refine ⟨?_, rfl⟩
      rw [← HO.out, List.drop_eq_nil_of_le (by rw [HL.out]; omega)]; rfl
def arcV (a : Arc) : Value := .agg #[.int .i64 a.f, .int .i64 a.t, .int .i64 a.i, .int .i64 a.o, .int .i64 a.w]
set_option maxHeartbeats 400000 in
theorem order_any (a b : Arc) (w : World) :
    Calls Try.prog 65 #[.agg #[.int .i64 a.f, .int .i64 a.t, .int .i64 a.i, .int .i64 a.o, .int .i64 a.w], .agg #[.int .i64 b.f, .int .i64 b.t, .int .i64 b.i, .int .i64 b.o, .int .i64 b.w]] w fun e w' => e = .returned (.int .i64 (arcCmp a b)) ∧ Below w.heap.size w w' := by
  go_enter Try.func65, Try.ntmps65
  go_wp2
  refine wp_quiet_tail_lit 25 (by kernel_rfl) (by kernel_rfl) ?_
  simp only [List.take_succ_cons, List.take_zero, List.drop_succ_cons, List.drop_zero]
  repeat (quiet_step ((go_at_call 92; exact Calls.quiet_of_same ((compare_any _ _ _).mono (fun e w' h => ⟨h.1, h.2.symm⟩)))))
  refine wpQuiet_nil ?_
  intro _ hw'; obtain ⟨nq, hw''⟩ := hw'; subst hw''
  go_wp2_with fail
  refine (or_any (some ⟨w.heap.size + 1 + 1, 0, none⟩) 5 5 [cmpI a.f b.f, cmpI a.i b.i, cmpI a.o b.o, cmpI a.t b.t, cmpI a.w b.w] _ (w.heap.size + 1 + 1 + 1) rfl (by omega) ?_).mono ?_
  · intro _
    refine ⟨_, _, rfl, by omega, fun i j hi hj => ?_⟩
    obtain rfl : j = 0 := by omega
    rcases (by omega : i = 0 ∨ i = 1 ∨ i = 2 ∨ i = 3 ∨ i = 4) with rfl | rfl | rfl | rfl | rfl <;> go_simp <;> rfl
  · rintro e w' ⟨rfl, rfl⟩
    go_wp2
    go_ret
    refine ⟨rfl, ?_⟩
    exact (below_drewN (((Below.refl _ _).alloc (Nat.le_refl _) _).alloc (by simp) _) nq).alloc (by simp; omega) _
theorem mfault_any (a b : Int) (w : World) :
    Calls Try.prog 96 #[.int .i64 a, .int .i64 b] w fun e w' => e = .returned (.agg #[.int .i64 a, .int .i64 b]) ∧ Below w.heap.size w w' := by
  go_enter Try.func96, Try.ntmps96
  go_wp2
  exact bodyPost_ret (v := .agg #[.int .i64 a, .int .i64 b]) (by simp [results, Try.results96, go_sem]) rfl ⟨rfl, (Below.refl _ _).alloc (Nat.le_refl _) _⟩
theorem rfault_any (a b : Int) (w : World) :
    Calls Try.prog 46 #[.int .i64 a, .int .i64 b] w fun e w' => e = .returned (.agg #[.int .i64 a, .int .i64 b]) ∧ Below w.heap.size w w' := by
  go_enter Try.func46, Try.ntmps46
  go_wp2
  exact bodyPost_ret (v := .agg #[.int .i64 a, .int .i64 b]) (by simp [results, Try.results46, go_sem]) rfl ⟨rfl, (Below.refl _ _).alloc (Nat.le_refl _) _⟩
end Go.Proofs.Ytopakcbhodnipaa
