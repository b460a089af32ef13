/- The closed example of Join, and the law TokenJoinMatchesSpec, walked. -/
import Derived.Test.YtcchpijadlgagaaDoorTkZ
import Derived.Test.YtcchpijadlgagaaDoorTkX
namespace Go.Proofs.YtcchpijadlgagaaDoor
open Go.RowKit Gm
set_option linter.unusedSimpArgs false
set_option linter.unusedVariables false
def exW : List (List UInt8) := [[101, 118, 101, 114, 121], [100, 111, 103], [46]]
theorem ex_join : joinR exW = ((0, 0), [101, 118, 101, 114, 121, 32, 100, 111, 103, 46]) := by decide +kernel
set_option maxRecDepth 100000 in
set_option maxHeartbeats 1000000 in
theorem joined_any (w : World) (hT : Tabs w) :
    Calls Tryd.prog 8 #[] w fun e w' => e = .returned (.bool true) ∧ Below w.heap.size w w' := by
  have he := fun a b c d W => run_eql_fault a b c d W
  have hf : fEq 0 0 0 0 = true := rfl
  have hv : Strs (w.alloc (Obj.cells #[.string ⟨#[101, 118, 101, 114, 121]⟩, .string ⟨#[100, 111, 103]⟩, .string ⟨#[46]⟩] 9)) (w.heap.size + 1) (.slice (some ⟨w.heap.size, 0, none⟩) 3 3) exW :=
    Strs.of_blk (t := 9) (Blk.at_ (by simp)) rfl rfl (by simp [big]) (by intro x hx; simp [exW] at hx; rcases hx with rfl | rfl | rfl <;> simp [maxLen])
  have hD := tjoin_any _ exW _ (w.heap.size + 1) (tabs_keep hT (show Below w.heap.size w (w.alloc (Obj.cells #[.string ⟨#[101, 118, 101, 114, 121]⟩, .string ⟨#[100, 111, 103]⟩, .string ⟨#[46]⟩] 9)) by go_grown) (Nat.le_refl _)) (by simp) hv
  rw [ex_join] at hD
  have HD := hide hD
  clear hT hD hv
  go_enter Tryd.func8, Tryd.ntmps8
  go_wp2_with fail
  refine HD.out.mono ?_
  rintro e w1 ⟨rfl, hb1⟩
  have hbw : Below w.heap.size w w1 := ((Below.refl _ _).alloc (Nat.le_refl _) _).trans (hb1.mono (by simp))
  clear HD hb1
  go_wp2
  go_ret
  exact ⟨rfl, by have := hbw.size; go_grown⟩
set_option maxRecDepth 100000 in
set_option maxHeartbeats 1000000 in
theorem joinlaw_any (v : Value) (l : List (List UInt8)) (w : World) (hT : Tabs w) (hv : Strs w w.heap.size v l) :
    Calls Tryd.prog 3 #[v] w fun e w' => e = .returned (.bool true) ∧ Below w.heap.size w w' := by
  have he := fun a b c d W => run_eql_fault a b c d W
  obtain ⟨a1, h1⟩ : ∃ x, x = (joinR l).1.1 := ⟨_, rfl⟩
  obtain ⟨a2, h2⟩ : ∃ x, x = (joinR l).1.2 := ⟨_, rfl⟩
  obtain ⟨T, h3⟩ : ∃ x, x = (⟨(joinR l).2.toArray⟩ : ByteArray) := ⟨_, rfl⟩
  have hfe : fEq a1 a2 a1 a2 = true := fEq_true ⟨rfl, rfl⟩
  have HD := hide (fun W B (hT : Tabs W) (hB : B ≤ W.heap.size) (h : Strs W B v l) => tjoin_any v l W B hT hB h)
  have HR := hide (fun W B (hB : B ≤ W.heap.size) (h : Strs W B v l) => rjoin_any v l W B hB h)
  simp only [← h1, ← h2, ← h3] at HD HR
  have HT := hide hT
  have HV := hide hv
  clear hT hv h1 h2 h3
  go_enter Tryd.func3, Tryd.ntmps3
  go_wp2_with fail
  refine (joined_any _ HT.out).mono ?_
  rintro e w1 ⟨rfl, hb1⟩
  have hz1 := hb1.size
  go_wp2_with fail
  refine (HD.out _ w.heap.size (tabs_keep HT.out hb1 (Nat.le_refl _)) hz1 (HV.out.below hb1 (Nat.le_refl _))).mono ?_
  rintro e w2 ⟨rfl, hb2⟩
  have hbw2 : Below w.heap.size w w2 := hb1.trans (hb2.mono hz1)
  have hz2 := hbw2.size
  clear hb1 hb2
  go_wp2_with fail
  refine (HR.out _ w.heap.size (by simp; omega) (HV.out.below (hbw2.alloc hz2 _) (Nat.le_refl _))).mono ?_
  rintro e w4 ⟨rfl, hb4⟩
  have hsz4 := hb4.size
  simp at hsz4
  have bF := (Blk.new w2 25 #[.int .i64 a1, .int .i64 a2]).below hb4 (by simp)
  have q0 : w4.cell? ⟨w2.heap.size, 0, none⟩ = some (.int .i64 a1) := bF.cell 0
  have q1 : w4.cell? ⟨w2.heap.size, 1, none⟩ = some (.int .i64 a2) := bF.cell 1
  have hlt : w2.heap.size < w4.heap.size := by omega
  have hbw4 : Below w.heap.size w w4 := (hbw2.alloc hz2 _).trans (hb4.mono (by simp; omega))
  clear hb4 bF
  go_wp2
  go_ret
  exact ⟨rfl, by have := hbw4.size; go_grown⟩
end Go.Proofs.YtcchpijadlgagaaDoor
