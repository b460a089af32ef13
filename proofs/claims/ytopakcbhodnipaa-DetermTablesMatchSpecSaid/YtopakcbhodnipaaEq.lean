/- The statements' comparison of machines: glosswrightequal.Machines. -/
import Derived.Test.YtopakcbhodnipaaCmp
import Derived.Laws.StructEq
namespace Gm
open Go Go.RowKit
theorem drop_eq_iff {α : Type} [DecidableEq α] {l k : List α} {d : α} {j : Nat} (h1 : j < l.length) (h2 : l.length = k.length) :
    decide (l.drop j = k.drop j) = if l.getD j d = k.getD j d then decide (l.drop (j + 1) = k.drop (j + 1)) else false := by
  have e1 : l.getD j d = l[j] := by simp [h1]
  have e2 : k.getD j d = k[j]'(by omega) := by simp [show j < k.length by omega]
  have e3 : l.drop j = l[j] :: l.drop (j + 1) := List.drop_eq_getElem_cons h1
  have e4 : k.drop j = k[j]'(by omega) :: k.drop (j + 1) := List.drop_eq_getElem_cons (show j < k.length by omega)
  rw [e1, e2, e3, e4]
  by_cases h : l[j] = k[j]'(by omega)
  · rw [if_pos h, h]; simp only [List.cons.injEq, true_and]
  · rw [if_neg h]; simp only [List.cons.injEq, h, false_and, decide_false]
theorem drop_end {α : Type} [DecidableEq α] {l k : List α} {j : Nat} (h1 : l.length ≤ j) (h2 : k.length ≤ j) : decide (l.drop j = k.drop j) = true := by
  rw [List.drop_eq_nil_of_le h1, List.drop_eq_nil_of_le h2]; simp
def arcEqB (a b : Arc) : Bool := decide (a = b)
def finEqB (a b : Fnl) : Bool := decide (a = b)
end Gm
namespace Go.Proofs.Ytopakcbhodnipaa
open Go.RowKit Gm
set_option linter.unusedSimpArgs false
theorem run_neq_arc (a b : Arc) (w : World) : (binOp .neq 61 (.agg #[.int .i64 a.f, .int .i64 a.t, .int .i64 a.i, .int .i64 a.o, .int .i64 a.w]) (.agg #[.int .i64 b.f, .int .i64 b.t, .int .i64 b.i, .int .i64 b.o, .int .i64 b.w])).run Try.prog w = .ok (.bool (!arcEqB a b)) w := by
  by_cases h : a = b
  · subst h; simp [go_sem, arcEqB]
  · have hn : ¬ (a.f = b.f ∧ a.t = b.t ∧ a.i = b.i ∧ a.o = b.o ∧ a.w = b.w) := fun ⟨h1, h2, h3, h4, h5⟩ => h (Arc.ext' h1 h2 h3 h4 h5)
    simp only [arcEqB, h, decide_false, Bool.not_false]
    simp only [go_sem]
    simp [go_sem]
    clear h
    by_cases e1 : a.f = b.f <;> by_cases e2 : a.t = b.t <;> by_cases e3 : a.i = b.i <;> by_cases e4 : a.o = b.o <;> by_cases e5 : a.w = b.w <;> simp_all
theorem run_neq_fin (a b : Fnl) (w : World) : (binOp .neq 63 (.agg #[.int .i64 a.s, .int .i64 a.w]) (.agg #[.int .i64 b.s, .int .i64 b.w])).run Try.prog w = .ok (.bool (!finEqB a b)) w := by
  by_cases h : a = b
  · subst h; simp [go_sem, finEqB]
  · have hn : ¬ (a.s = b.s ∧ a.w = b.w) := fun ⟨h1, h2⟩ => h (Fnl.ext' h1 h2)
    simp only [finEqB, h, decide_false, Bool.not_false]
    simp [go_sem]
    clear h
    by_cases e1 : a.s = b.s <;> by_cases e2 : a.w = b.w <;> simp_all
set_option maxRecDepth 100000 in
set_option maxHeartbeats 1000000 in
theorem machines_any (v1 v2 : Value) (m1 m2 : Mach) (w : World) (B : Nat) (hB : B ≤ w.heap.size) (h1 : MachAt w B v1 m1) (h2 : MachAt w B v2 m2) :
    Calls Try.prog 16 #[v1, v2] w fun e w' => e = .returned (.bool (decide (m1 = m2))) ∧ Below w.heap.size w w' := by
  obtain ⟨A, AF, n, c, nf, cf, rfl, HN, HF, hnc, hnfc, hnb, hnfb, hA, hF⟩ := h1
  obtain ⟨A', AF', n', c', nf', cf', rfl, HN', HF', hnc', hnfc', hnb', hnfb', hA', hF'⟩ := h2
  unfold big at *
  have hdec : decide (m1 = m2) = (decide (m1.n = m2.n) && (decide (n = n') && (decide (nf = nf') && (decide (m1.arcs.drop 0 = m2.arcs.drop 0) && decide (m1.fins.drop 0 = m2.fins.drop 0))))) := by
    obtain ⟨S, l, x⟩ := m1
    obtain ⟨S', l', x'⟩ := m2
    have e1 := HN.out; have e2 := HN'.out; have e3 := HF.out; have e4 := HF'.out
    simp only [] at e1 e2 e3 e4
    simp only [Mach.mk.injEq, List.drop_zero, ← Bool.decide_and]
    refine decide_eq_decide.2 ⟨fun ⟨h1, h2, h3⟩ => ⟨h1, by rw [← e1, ← e2, h2], by rw [← e3, ← e4, h3], h2, h3⟩, fun ⟨h1, _, _, h2, h3⟩ => ⟨h1, h2, h3⟩⟩
  rw [hdec]
  clear hdec
  by_cases d0 : m1.n = m2.n
  · by_cases d1 : n = n'
    · by_cases d2 : nf = nf'
      · subst d1 d2
        simp only [d0, decide_true, Bool.true_and]
        obtain ⟨tot, htot⟩ : ∃ x, x = (decide (m1.arcs.drop 0 = m2.arcs.drop 0) && decide (m1.fins.drop 0 = m2.fins.drop 0)) := ⟨_, rfl⟩
        rw [← htot]
        have HT := hide htot
        clear htot
        have hd0 : (m1.n != m2.n) = false := by simp [d0]
        have HD := hide d0
        clear d0
        go_enter Try.func16, Try.ntmps16
        go_wp2
        generalize hW : World.alloc _ _ = W0
        have hb0 : Below w.heap.size w W0 := by rw [← hW]; go_grown
        have bx : Blk W0 w.heap.size 28 #[.int .i64 m2.n, .slice A n c, .slice AF nf cf] := by rw [← hW]; exact (Blk.at_ (by first | rfl | simp)).alloc _
        have bY : Blk W0 (w.heap.size + 1) 28 #[.int .i64 m2.n, .slice A' n c', .slice AF' nf cf'] := by rw [← hW]; exact Blk.at_ (by first | rfl | simp)
        have k0 : W0.cell? ⟨w.heap.size, 1, none⟩ = some (.slice A n c) := bx.cell 1
        have k1 : W0.cell? ⟨w.heap.size, 2, none⟩ = some (.slice AF nf cf) := bx.cell 2
        have l0 : W0.cell? ⟨w.heap.size + 1, 1, none⟩ = some (.slice A' n c') := bY.cell 1
        have l1 : W0.cell? ⟨w.heap.size + 1, 2, none⟩ = some (.slice AF' nf cf') := bY.cell 2
        clear hW bx bY
        go_loopw [33] (fun i wr => ∃ k q : Nat, k ≤ n ∧ i = .int .i64 k ∧ Hid (wr = W0.drewN q) ∧ Hid (tot = (decide (m1.arcs.drop k = m2.arcs.drop k) && decide (m1.fins.drop 0 = m2.fins.drop 0)))) (fun i _ => n - (intOf i).toNat)
        case atStart => exact ⟨0, 0, by omega, rfl, hide rfl, HT⟩
        case round =>
          obtain ⟨k, q, hk, rfl, hwr, HR⟩ := hrel
          obtain rfl := hwr.out
          clear hwr
          by_cases hkn : k < n
          · obtain ⟨b, off, a, rfl, hbB, c0, c1, c2, c3, c4, HA⟩ := arcs_at (hA.below hb0 hB) hkn
            obtain ⟨b', off', a', rfl, hbB', e0, e1, e2, e3, e4, HA'⟩ := arcs_at (hA'.below hb0 hB) hkn
            have he := fun W => run_neq_arc a a' W
            have j0 : (0 : Int) ≤ (k : Int) := by omega
            have j1 : (k : Int) < (n : Int) := by omega
            have hk' : k < m1.arcs.length := by rw [HN.out]; exact hkn
            have hs := drop_eq_iff (d := dA) hk' (show m1.arcs.length = m2.arcs.length by rw [HN.out, HN'.out])
            rw [HA.out, HA'.out] at hs
            have HS := hide hs
            clear hs hk'
            cases hE : arcEqB a a'
            · have hne : ¬ a = a' := by simpa [arcEqB] using hE
              have HNE := hide hne
              clear hne
              go_wp2
              go_quiet (fail)
              go_wp2
              go_ret
              rw [HR.out, HS.out, if_neg HNE.out]
              exact ⟨rfl, below_drewN (below_drewN hb0 _) _⟩
            · have hne : a = a' := by simpa [arcEqB] using hE
              have HNE := hide hne
              clear hne
              go_wp2
              go_quiet (fail)
              go_wp2
              go_roundw
              case rel => exact ⟨k + 1, _, by omega, by go_num, hide rfl, hide (HR.out.trans (by rw [HS.out, if_pos HNE.out]))⟩
              case measure => simp [intOf]; omega
          · have hend : decide (m1.arcs.drop k = m2.arcs.drop k) = true := drop_end (by rw [HN.out]; omega) (by rw [HN'.out]; omega)
            have HR2 : Hid (tot = decide (m1.fins.drop 0 = m2.fins.drop 0)) := hide (by rw [HR.out, hend]; rfl)
            clear HR hend HT
            go_wp2
            go_loopw [51] (fun i wr => ∃ k q : Nat, k ≤ nf ∧ i = .int .i64 k ∧ Hid (wr = W0.drewN q) ∧ Hid (tot = decide (m1.fins.drop k = m2.fins.drop k))) (fun i _ => nf - (intOf i).toNat)
            case atStart => exact ⟨0, q, by omega, rfl, hide rfl, HR2⟩
            case round =>
              obtain ⟨k, q, hk, rfl, hwr, HR⟩ := hrel
              obtain rfl := hwr.out
              clear hwr
              by_cases hkn : k < nf
              · obtain ⟨b, off, a, rfl, hbB, c0, c1, HA⟩ := fins_at (hF.below hb0 hB) hkn
                obtain ⟨b', off', a', rfl, hbB', e0, e1, HA'⟩ := fins_at (hF'.below hb0 hB) hkn
                have he := fun W => run_neq_fin a a' W
                have j0 : (0 : Int) ≤ (k : Int) := by omega
                have j1 : (k : Int) < (nf : Int) := by omega
                have hk' : k < m1.fins.length := by rw [HF.out]; exact hkn
                have hs := drop_eq_iff (d := dF) hk' (show m1.fins.length = m2.fins.length by rw [HF.out, HF'.out])
                rw [HA.out, HA'.out] at hs
                have HS := hide hs
                clear hs hk'
                cases hE : finEqB a a'
                · have hne : ¬ a = a' := by simpa [finEqB] using hE
                  have HNE := hide hne
                  clear hne
                  go_wp2
                  go_quiet (fail)
                  go_wp2
                  go_ret
                  rw [HR.out, HS.out, if_neg HNE.out]
                  exact ⟨rfl, below_drewN (below_drewN hb0 _) _⟩
                · have hne : a = a' := by simpa [finEqB] using hE
                  have HNE := hide hne
                  clear hne
                  go_wp2
                  go_quiet (fail)
                  go_wp2
                  go_roundw
                  case rel => exact ⟨k + 1, _, by omega, by go_num, hide rfl, hide (HR.out.trans (by rw [HS.out, if_pos HNE.out]))⟩
                  case measure => simp [intOf]; omega
              · have hend : decide (m1.fins.drop k = m2.fins.drop k) = true := drop_end (by rw [HF.out]; omega) (by rw [HF'.out]; omega)
                have HR2 := hide (HR.out.trans hend)
                clear HR hend
                go_wp2
                go_ret
                rw [HR2.out]
                exact ⟨rfl, below_drewN hb0 _⟩
      · have hb2 : ((nf : Int) != (nf' : Int)) = true := by simp; omega
        have hb1 : ((n : Int) != (n' : Int)) = false := by simp; omega
        have hb0 : (m1.n != m2.n) = false := by simp [d0]
        rw [show decide (nf = nf') = false by simp [d2]]
        simp only [Bool.false_and, Bool.and_false]
        clear d0 d1 d2
        go_enter Try.func16, Try.ntmps16
        go_wp2
        go_ret
        exact ⟨rfl, by go_grown⟩
    · have hb1 : ((n : Int) != (n' : Int)) = true := by simp; omega
      have hb0 : (m1.n != m2.n) = false := by simp [d0]
      rw [show decide (n = n') = false by simp [d1]]
      simp only [Bool.false_and, Bool.and_false]
      clear d0 d1
      go_enter Try.func16, Try.ntmps16
      go_wp2
      go_ret
      exact ⟨rfl, by go_grown⟩
  · have hb0 : (m1.n != m2.n) = true := by simp [d0]
    rw [show decide (m1.n = m2.n) = false by simp [d0]]
    simp only [Bool.false_and]
    clear d0
    go_enter Try.func16, Try.ntmps16
    go_wp2
    go_ret
    exact ⟨rfl, by go_grown⟩
end Go.Proofs.Ytopakcbhodnipaa
