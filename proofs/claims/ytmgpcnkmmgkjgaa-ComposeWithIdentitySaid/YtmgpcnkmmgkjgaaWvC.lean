/- The laws' example of Weight, and their helper weight, walked. -/
import Derived.Test.YtmgpcnkmmgkjgaaWtX
import Derived.Test.YtmgpcnkmmgkjgaaEx
namespace Gm
theorem least_lowV {m : Mach} {u v : List Int} {r : Int} (h : Least m u v r) : -1 ≤ r := by
  rcases h with ⟨h, _⟩ | ⟨n, h, _⟩ <;> omega
theorem wgt_low (m : Mach) (u v : List Int) : -1 ≤ wgt m u v := least_lowV (wgt_least m u v)
/-- The weight of a pair by the program; -1: there is none, -2: there is a fault. -/
noncomputable def wv (m : Mach) (lu lo : List Int) : Int := if wF m lu lo = (0, 0) then wgt m lu lo else -2
theorem wv_low (m : Mach) (lu lo : List Int) : -2 ≤ wv m lu lo := by
  unfold wv; split
  · have := wgt_low m lu lo; omega
  · omega
/-- Two machines that are valid have the faults of the words. -/
theorem wF_valid {a b : Mach} (ha : validate a = (0, 0)) (hb : validate b = (0, 0)) (lu lo : List Int) : wF a lu lo = wF b lu lo := by
  unfold wF; rw [if_pos ha, if_pos hb]
end Gm
namespace Gm
theorem small_wgt : wgt smallM [97] [98] = 3 := by
  refine wgt_eq (.inr ⟨3, rfl, ?_, ?_⟩)
  · exact ⟨⟨1, 1⟩, by simp [smallM], 2, .step (a := ⟨0, 1, 97, 98, 2⟩) (.start (by decide)) (by simp [smallM]) rfl (by decide), rfl⟩
  · rintro d ⟨x, hx, e, he, rfl⟩
    simp only [smallM, List.mem_singleton] at hx
    subst hx
    have key : ∀ {s i j d : Nat}, Rch smallM [97] [98] s i j d → (s = 0 ∧ i = 0) ∨ 2 ≤ d := by
      intro s i j d h
      induction h with
      | start _ => exact .inl ⟨rfl, rfl⟩
      | @step s i j d i' j' a _ ha _ _ _ =>
        right
        simp only [smallM, List.mem_singleton] at ha
        subst ha
        show 2 ≤ d + (2 : Int).toNat
        simp
    rcases key he with ⟨h, _⟩ | h
    · simp at h
    · show 3 ≤ e + (1 : Int).toNat
      simp; omega
theorem small_v : validate smallM = (0, 0) := by decide
theorem small_wF : wF smallM [97] [98] = (0, 0) := by unfold wF; rw [if_pos small_v, if_pos (by decide)]; decide
theorem small_wW : wW smallM [97] [98] = 3 := by unfold wW; rw [if_pos small_wF, small_wgt]; rfl
theorem small_wB : wB smallM [97] [98] = true := by unfold wB; rw [small_wF, small_wgt]; rfl
end Gm
namespace Go.Proofs.Ytmgpcnkmmgkjgaa
open Go.RowKit Gm
set_option linter.unusedSimpArgs false
set_option linter.unusedVariables false
theorem weight_small (v v1 v2 : Value) (w : World) (B : Nat) (hB : B ≤ w.heap.size) (h : MachAt w B v smallM) (h1 : Nums w B v1 [97]) (h2 : Nums w B v2 [98]) :
    Calls Try.prog 50 #[v, v1, v2] w fun e w' => e = .returned (.tuple #[.int .i64 3, .bool true, .agg #[.int .i64 0, .int .i64 0]]) ∧ Below w.heap.size w w' := by
  have h := weight_any v v1 v2 smallM [97] [98] w B hB h h1 h2
  rw [small_wF, small_wW, small_wB] at h
  exact h
theorem nums_one {w : World} {b : Nat} {x : Int} (h : Blk w b 3 #[.int .i64 x]) : Nums w w.heap.size (.slice (some ⟨b, 0, none⟩) 1 1) [x] :=
  ⟨_, 1, 1, rfl, hide rfl, Nat.le_refl _, by simp [big], fun _ => ⟨b, 0, rfl, h.lt, fun i j hi hj => by
    obtain rfl : i = 0 := by omega
    obtain rfl : j = 0 := by omega
    exact h.cell 0⟩⟩
set_option maxRecDepth 100000 in
set_option maxHeartbeats 2000000 in
theorem weighed_ex (w : World) : Calls Try.prog 28 #[] w fun e w' => e = .returned (.bool true) ∧ Below w.heap.size w w' := by
  have he := fun a b c d W => run_eql_fault a b c d W
  have hf : fEq 0 0 0 0 = true := rfl
  go_enter Try.func28, Try.ntmps28
  go_wp2_with fail
  refine (small_any _).mono ?_
  rintro e w1 ⟨v1, rfl, hM, hb1⟩
  obtain ⟨A, n, c, AF, nf, cf, rfl⟩ := agg_of hM
  have HM := hide hM
  clear hM
  go_wp2_with fail
  refine (weight_small _ _ _ _ _ (Nat.le_refl _) ((HM.out.at_.below (B' := w1.heap.size) (by go_grown) (Nat.le_refl _)).mono (by simp; omega)) (nums_one ((Blk.at_ rfl).alloc _)) (nums_one (Blk.at_ (by simp)))).mono ?_
  rintro e w2 ⟨rfl, hb2⟩
  have hbw : Below w.heap.size w w2 := hb1.trans ((show Below w1.heap.size w1 _ by go_grown).mono hb1.size |>.trans (hb2.mono (by have := hb1.size; simp; omega)))
  have hz := hbw.size
  clear hb2 HM hb1
  go_wp2
  exact bodyPost_ret (v := .bool true) (by simp [results, Try.results28, go_sem]) rfl ⟨rfl, hbw.alloc hz _⟩
set_option maxRecDepth 100000 in
set_option maxHeartbeats 2000000 in
theorem lweight_any (v v1 v2 : Value) (m : Mach) (lu lo : List Int) (w : World) (B : Nat) (hB : B ≤ w.heap.size) (h : MachAt w B v m) (h1 : Nums w B v1 lu) (h2 : Nums w B v2 lo) :
    Calls Try.prog 29 #[v, v1, v2] w fun e w' => e = .returned (.int .i64 (wv m lu lo)) ∧ Below w.heap.size w w' := by
  have HM := hide h
  have HU := hide h1
  have HO := hide h2
  obtain ⟨A, AF, n, c, nf, cf, rfl, _⟩ := h
  obtain ⟨A1, nu, cc1, rfl, _⟩ := h1
  obtain ⟨A2, no, cc2, rfl, _⟩ := h2
  have hne := fun a b c d W => run_neq_fault a b c d W
  have HW := hide (fun W (hB : B ≤ W.heap.size) (hM : MachAt W B (.agg #[.int .i64 m.n, .slice A n c, .slice AF nf cf]) m) (hU : Nums W B (.slice A1 nu cc1) lu) (hO : Nums W B (.slice A2 no cc2) lo) => weight_any _ _ _ m lu lo W B hB hM hU hO)
  have hlow := wgt_low m lu lo
  have hcase : (fEq (wF m lu lo).1 (wF m lu lo).2 0 0 = false ∧ wv m lu lo = -2) ∨ (fEq (wF m lu lo).1 (wF m lu lo).2 0 0 = true ∧ wB m lu lo = false ∧ wv m lu lo = -1) ∨ (fEq (wF m lu lo).1 (wF m lu lo).2 0 0 = true ∧ wB m lu lo = true ∧ wW m lu lo = wv m lu lo) := by
    by_cases hz : wF m lu lo = (0, 0)
    · right
      have e1 : fEq (wF m lu lo).1 (wF m lu lo).2 0 0 = true := fEq0_iff.2 hz
      have e2 : wv m lu lo = wgt m lu lo := by unfold wv; rw [if_pos hz]
      by_cases h0 : 0 ≤ wgt m lu lo
      · right; exact ⟨e1, by unfold wB; rw [hz]; simp [h0], by rw [e2]; unfold wW; rw [if_pos hz]; omega⟩
      · left; exact ⟨e1, by unfold wB; rw [hz]; simp; omega, by rw [e2]; omega⟩
    · left; exact ⟨fEq0_false hz, by unfold wv; rw [if_neg hz]⟩
  obtain ⟨p, hp⟩ : ∃ p, p = (wF m lu lo).1 := ⟨_, rfl⟩
  obtain ⟨q, hq⟩ : ∃ p, p = (wF m lu lo).2 := ⟨_, rfl⟩
  obtain ⟨ww, hww⟩ : ∃ p, p = wW m lu lo := ⟨_, rfl⟩
  obtain ⟨wb, hwb⟩ : ∃ p, p = wB m lu lo := ⟨_, rfl⟩
  obtain ⟨r, hr⟩ : ∃ p, p = wv m lu lo := ⟨_, rfl⟩
  rw [← hp, ← hq, ← hww, ← hwb] at HW
  rw [← hp, ← hq, ← hww, ← hwb, ← hr] at hcase
  rw [← hr]
  clear hp hq hww hwb hr hlow
  rcases hcase with ⟨hz, rfl⟩ | ⟨hz, rfl, rfl⟩ | ⟨hz, rfl, rfl⟩
  all_goals
    go_enter Try.func29, Try.ntmps29
    go_wp2_with fail
    refine (HW.out _ (by simp; omega) (HM.out.below (show Below w.heap.size w _ by go_grown) hB) (HU.out.below (show Below w.heap.size w _ by go_grown) hB) (HO.out.below (show Below w.heap.size w _ by go_grown) hB)).mono ?_
    rintro e w1 ⟨rfl, hb1⟩
    have hbw1 : Below w.heap.size w w1 := Below.trans (show Below w.heap.size w _ by go_grown) (hb1.mono (by simp))
    clear hb1
    go_wp2
    go_ret
    exact ⟨rfl, hbw1.alloc hbw1.size _⟩
/-! The closed example. -/
end Go.Proofs.Ytmgpcnkmmgkjgaa
