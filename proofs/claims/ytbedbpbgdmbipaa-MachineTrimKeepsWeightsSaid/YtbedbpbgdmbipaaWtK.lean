/- The law MachineTrimKeepsWeights, walked: it returns true. -/
import Derived.Test.YtbedbpbgdmbipaaWtL
namespace Gm
theorem w_trim {m : Mach} (hv : validate m = (0, 0)) (lu lo : List Int) : wF (trimOf m) lu lo = wF m lu lo ∧ wW (trimOf m) lu lo = wW m lu lo ∧ wB (trimOf m) lu lo = wB m lu lo := by
  have hV := valid_of hv
  have e1 : wF (trimOf m) lu lo = wF m lu lo := by unfold wF; rw [if_pos hv, if_pos (validate_of (trim_valid hV))]
  refine ⟨e1, ?_, ?_⟩
  · unfold wW; rw [e1, wgt_trim hV]
  · unfold wB; rw [e1, wgt_trim hV]
end Gm
namespace Go.Proofs.Ytbedbpbgdmbipaa
open Go.RowKit Gm
set_option linter.unusedSimpArgs false
set_option linter.unusedVariables false
set_option maxRecDepth 100000 in
set_option maxHeartbeats 2000000 in
theorem klaw_any (v v1 v2 : Value) (m : Mach) (lu lo : List Int) (w : World) (B : Nat) (hB : B ≤ w.heap.size) (h : MachAt w B v m) (h1 : Nums w B v1 lu) (h2 : Nums w B v2 lo) :
    Calls Try.prog 5 #[v, v1, v2] w fun e w' => e = .returned (.bool true) ∧ Below w.heap.size w w' := by
  have HM := hide h
  have HU := hide h1
  have HO := hide h2
  obtain ⟨A, AF, n, c, nf, cf, rfl, _⟩ := h
  obtain ⟨A1, nu, cc1, rfl, _⟩ := h1
  obtain ⟨A2, no, cc2, rfl, _⟩ := h2
  have heq := fun a b c d W => run_eql_fault a b c d W
  have hne := fun a b c d W => run_neq_fault a b c d W
  have HW := hide (fun W (hB : B ≤ W.heap.size) (hM : MachAt W B (.agg #[.int .i64 m.n, .slice A n c, .slice AF nf cf]) m) (hU : Nums W B (.slice A1 nu cc1) lu) (hO : Nums W B (.slice A2 no cc2) lo) => weight_any _ _ _ m lu lo W B hB hM hU hO)
  go_enter Try.func5, Try.ntmps5
  go_wp2_with fail
  refine (weighed_ex _).mono ?_
  rintro e w1 ⟨rfl, hb1⟩
  have bX := (Blk.at_ (w := w) (g := w.heap.size) (t := 25) (cs := #[.int .i64 m.n, .slice A n c, .slice AF nf cf]) rfl).below hb1 (by simp)
  have hbw : Below w.heap.size w w1 := Below.trans (by go_grown) (hb1.mono (by simp))
  clear hb1
  go_wp2_with fail
  refine (trimmed_ex _).mono ?_
  rintro e w2 ⟨rfl, hb2⟩
  have bX := bX.below hb2 bX.lt
  have hbw := hbw.trans (hb2.mono hbw.size)
  clear hb2
  have x0 := bX.cell 0
  have x1 := bX.cell 1
  have x2 := bX.cell 2
  simp at x0 x1 x2
  have xl := bX.lt
  go_wp2_with fail
  refine (trim_any _ m _ B (by have := hbw.size; omega) (HM.out.below hbw hB)).mono ?_
  rintro e w3 ⟨v3, rfl, hT, hb3⟩
  obtain ⟨A3, n3, c3, AF3, nf3, cf3, rfl⟩ := agg_of hT
  have HT := hide hT
  have bX := bX.below hb3 bX.lt
  have hbw := hbw.trans (hb3.mono hbw.size)
  clear hT hb3 x0 x1 x2 xl
  cases hz : fEq (validate m).1 (validate m).2 0 0
  case false =>
    go_wp2
    exact bodyPost_ret (v := .bool true) (by simp [results, Try.results5, go_sem]) rfl ⟨rfl, (hbw.alloc hbw.size _).alloc (by have := hbw.size; simp; omega) _⟩
  case true =>
    have hv : validate m = (0, 0) := fEq0_iff.1 hz
    have hta : trimAns m = trimOf m := by unfold trimAns; rw [if_pos hv]
    rw [hta] at HT ⊢
    obtain ⟨e1, e2, e3⟩ := w_trim hv lu lo
    have hWT := fun v v1 v2 W B hB hM hU hO => weight_any v v1 v2 (trimOf m) lu lo W B hB hM hU hO
    rw [e1, e2, e3] at hWT
    rw [hv]
    obtain ⟨p, hp⟩ : ∃ p, p = (wF m lu lo).1 := ⟨_, rfl⟩
    obtain ⟨q, hq⟩ : ∃ p, p = (wF m lu lo).2 := ⟨_, rfl⟩
    obtain ⟨ww, hww⟩ : ∃ p, p = wW m lu lo := ⟨_, rfl⟩
    obtain ⟨wb, hwb⟩ : ∃ p, p = wB m lu lo := ⟨_, rfl⟩
    rw [← hp, ← hq, ← hww, ← hwb] at hWT HW
    have HWT := hide hWT
    have hs : fEq p q p q = true := by simp [fEq]
    have hf0 : fEq 0 0 0 0 = true := rfl
    have bT := (Blk.at_ (w := w3) (g := w3.heap.size) (t := 25) (cs := #[.int .i64 (trimOf m).n, .slice A3 n3 c3, .slice AF3 nf3 cf3]) rfl).alloc (Obj.cells #[.int .i64 0, .int .i64 0] 29)
    have HT3 := hide ((HT.out.alloc (Obj.cells #[.int .i64 (trimOf m).n, .slice A3 n3 c3, .slice AF3 nf3 cf3] 25)).alloc (Obj.cells #[.int .i64 0, .int .i64 0] 29))
    have bX := (bX.alloc (Obj.cells #[.int .i64 (trimOf m).n, .slice A3 n3 c3, .slice AF3 nf3 cf3] 25)).alloc (Obj.cells #[.int .i64 0, .int .i64 0] 29)
    have hbw3 := (hbw.alloc hbw.size (Obj.cells #[.int .i64 (trimOf m).n, .slice A3 n3 c3, .slice AF3 nf3 cf3] 25)).alloc (by have := hbw.size; simp; omega) (Obj.cells #[.int .i64 0, .int .i64 0] 29)
    clear HT hv hta hz e1 e2 e3 hp hq hww hwb hWT
    have x0 := bX.cell 0
    have x1 := bX.cell 1
    have x2 := bX.cell 2
    simp at x0 x1 x2
    have xl := bX.lt
    simp at xl
    have hbz := hbw3.size
    simp at hbz
    go_wp2_with fail
    refine (HW.out _ (by simp; omega) (HM.out.below hbw3 hB) (HU.out.below hbw3 hB) (HO.out.below hbw3 hB)).mono ?_
    rintro e w4 ⟨rfl, hb4⟩
    have hbw4 := hbw3.trans (hb4.mono (by simp; omega))
    have bT4 := (bT.below hb4 bT.lt).alloc (Obj.cells #[.int .i64 p, .int .i64 q] 29)
    have HT4 := hide ((HT3.out.below hb4 (Nat.le_refl _)).alloc (Obj.cells #[.int .i64 p, .int .i64 q] 29))
    have bG4 := Blk.at_ (w := w4) (g := w4.heap.size) (t := 29) (cs := #[.int .i64 p, .int .i64 q]) rfl
    have hbw := hbw4.alloc hbw4.size (Obj.cells #[.int .i64 p, .int .i64 q] 29)
    clear hb4 bT HT3 bX hbw3 hbw4 x0 x1 x2 xl HW hbz
    have t0 := bT4.cell 0
    have t1 := bT4.cell 1
    have t2 := bT4.cell 2
    simp at t0 t1 t2
    have tl := bT4.lt
    simp at tl
    have hbz := hbw.size
    go_wp2_with fail
    refine (HWT.out _ _ _ _ _ (Nat.le_refl _) HT4.out.at_ ((HU.out.below hbw hB).mono (by omega)) ((HO.out.below hbw hB).mono (by omega))).mono ?_
    rintro e w5 ⟨rfl, hb5⟩
    have hbw := hbw.trans (hb5.mono hbz)
    have bG := bG4.below hb5 bG4.lt
    clear hb5 bG4 bT4 HT4 t0 t1 t2 tl hbz HWT
    have g0 := bG.cell 0
    have g1 := bG.cell 1
    simp at g0 g1
    have gl := bG.lt
    go_wp2
    exact bodyPost_ret (v := .bool true) (by simp [results, Try.results5, go_sem]) rfl ⟨rfl, hbw.alloc hbw.size _⟩
end Go.Proofs.Ytbedbpbgdmbipaa
