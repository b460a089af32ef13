/- The law RationalLiteralMatchesSpec, walked: it returns true. Written by gen_ll.py. -/
import Derived.Test.YtpahodbnljpnnaaSgW
import Derived.Test.YtpahodbnljpnnaaLiP
import Derived.Test.YtpahodbnljpnnaaWtL
namespace Go.Proofs.Ytpahodbnljpnnaa
open Go.RowKit Gm Go.Sort Go.Shelf
set_option linter.unusedSimpArgs false
set_option linter.unusedVariables false
def lit1M : Mach := ⟨2, [⟨0, 1, 97, 98, 0⟩], [⟨1, 5⟩]⟩
theorem lit1_F : litF [97] [98] 5 = (0, 0) := by decide
theorem lit1_R : litR [97] [98] 5 = lit1M := by decide
theorem literal_one (v1 v2 : Value) (w : World) (B : Nat) (hB : B ≤ w.heap.size) (h1 : Nums w B v1 [97]) (h2 : Nums w B v2 [98]) :
    Calls Try.prog 16 #[v1, v2, .int .i64 5] w fun e w' => ∃ v', e = .returned (.tuple #[v', .agg #[.int .i64 0, .int .i64 0]]) ∧ MachNew w.heap.size w' v' lit1M ∧ Below w.heap.size w w' := by
  have h := literal_any v1 v2 [97] [98] 5 w B hB h1 h2
  rw [lit1_F, lit1_R] at h
  exact h
set_option maxRecDepth 100000 in
set_option maxHeartbeats 4000000 in
theorem literal_ex (w : World) : Calls Try.prog 17 #[] w fun e w' => e = .returned (.bool true) ∧ Below w.heap.size w w' := by
  have hne := fun a b c d W => run_neq_fault a b c d W
  have heq := fun a b c d W => run_eql_fault a b c d W
  have hf0 : fEq 0 0 0 0 = true := rfl
  go_enter Try.func17, Try.ntmps17
  go_wp2_with fail
  refine (literal_one _ _ _ _ (Nat.le_refl _) (nums_one ((Blk.at_ rfl).alloc _)) (nums_one (Blk.at_ (by simp)))).mono ?_
  rintro e w1 ⟨v1, rfl, hM, hb1⟩
  obtain ⟨A1, n1, c1, AF1, nf1, cf1, rfl⟩ := agg_of hM
  have HM := hide hM
  have hbw : Below w.heap.size w w1 := Below.trans (show Below w.heap.size w _ by go_grown) (hb1.mono (by simp; omega))
  clear hM hb1
  go_wp2_with fail
  refine (machines_any _ _ lit1M lit1M _ _ (Nat.le_refl _) ((((HM.out.alloc _).alloc _).alloc _).alloc _).at_ (MachNew.of_blk (lo := w1.heap.size) (m := lit1M) (eA := 50) (eF := 48) ((Blk.at_ (by simp)).alloc _) (Blk.at_ (by simp)) (by omega) (by omega) (by decide) (by decide)).at_).mono ?_
  rintro e w2 ⟨rfl, hb2⟩
  have hd : decide (lit1M = lit1M) = true := by decide
  rw [hd]
  have hbz := hbw.size
  have hbw2 : Below w.heap.size w w2 := ((((hbw.alloc hbw.size _).alloc (by simp; omega) _).alloc (by simp; omega) _).alloc (by simp; omega) _).trans (hb2.mono (by simp; omega))
  clear hb2 hd
  go_wp2
  exact bodyPost_ret (v := .bool true) (by simp [results, Try.results17, go_sem]) rfl ⟨rfl, hbw2⟩
set_option maxRecDepth 100000 in
set_option maxHeartbeats 8000000 in
theorem llaw_any (v1 v2 : Value) (lu lo : List Int) (wt : Int) (w : World) (B : Nat) (hB : B ≤ w.heap.size) (h1 : Nums w B v1 lu) (h2 : Nums w B v2 lo) :
    Calls Try.prog 6 #[v1, v2, .int .i64 wt] w fun e w' => e = .returned (.bool true) ∧ Below w.heap.size w w' := by
  have HU := hide h1
  have HO := hide h2
  obtain ⟨A1, nu, cc1, rfl, _⟩ := h1
  obtain ⟨A2, no, cc2, rfl, _⟩ := h2
  have hne := fun a b c d W => run_neq_fault a b c d W
  have heq := fun a b c d W => run_eql_fault a b c d W
  have hf0 : fEq 0 0 0 0 = true := rfl
  have HLA := hide (fun W (hB : B ≤ W.heap.size) (hU : Nums W B (.slice A1 nu cc1) lu) (hO : Nums W B (.slice A2 no cc2) lo) => literal_any _ _ lu lo wt W B hB hU hO)
  have HSA := hide (fun W (hB : B ≤ W.heap.size) (hU : Nums W B (.slice A1 nu cc1) lu) (hO : Nums W B (.slice A2 no cc2) lo) => single_any _ _ lu lo wt W B hB hU hO)
  obtain ⟨p, hp⟩ : ∃ p, p = (litF lu lo wt).1 := ⟨_, rfl⟩
  obtain ⟨q, hq⟩ : ∃ p, p = (litF lu lo wt).2 := ⟨_, rfl⟩
  rw [← hp, ← hq] at HLA HSA
  have HPQ := hide (And.intro hp hq)
  clear hp hq
  have hpq : fEq p q p q = true := by simp [fEq]
  go_enter Try.func6, Try.ntmps6
  go_wp2_with fail
  refine (literal_ex _).mono ?_
  rintro e w1 ⟨rfl, hbw⟩
  go_wp2_with fail
  refine (HLA.out _ (by have := hbw.size; omega) (HU.out.below hbw hB) (HO.out.below hbw hB)).mono ?_
  rintro e w3 ⟨v3, rfl, hT, hb3⟩
  obtain ⟨A3, n3, c3, AF3, nf3, cf3, rfl⟩ := agg_of hT
  replace hbw := hbw.trans (hb3.mono hbw.size)
  obtain ⟨g, hg⟩ : ∃ g, g = (litR lu lo wt).n := ⟨_, rfl⟩
  have HG := hide hg
  rw [← hg] at hT ⊢
  have HT3 := hide hT
  clear hT hb3 HLA hg
  have HT3' := hide ((HT3.out.alloc (Obj.cells #[.int .i64 g, .slice A3 n3 c3, .slice AF3 nf3 cf3] 25)).alloc (Obj.cells #[.int .i64 p, .int .i64 q] 29))
  have bP := (Blk.at_ (w := w3) (g := w3.heap.size) (t := 25) (cs := #[.int .i64 g, .slice A3 n3 c3, .slice AF3 nf3 cf3]) rfl).alloc (Obj.cells #[.int .i64 p, .int .i64 q] 29)
  have bF : Blk ((w3.alloc (Obj.cells #[.int .i64 g, .slice A3 n3 c3, .slice AF3 nf3 cf3] 25)).alloc (Obj.cells #[.int .i64 p, .int .i64 q] 29)) (w3.heap.size + 1) 29 #[.int .i64 p, .int .i64 q] := Blk.at_ (by simp)
  replace hbw := (hbw.alloc hbw.size (Obj.cells #[.int .i64 g, .slice A3 n3 c3, .slice AF3 nf3 cf3] 25)).alloc (by have := hbw.size; simp; omega) (Obj.cells #[.int .i64 p, .int .i64 q] 29)
  go_wp2_with fail
  refine (HSA.out _ (by have := hbw.size; omega) (HU.out.below hbw hB) (HO.out.below hbw hB)).mono ?_
  rintro e w4 ⟨v4, rfl, hT, hb4⟩
  obtain ⟨A4, n4, c4, AF4, nf4, cf4, rfl⟩ := agg_of hT
  rw [← HG.out] at hT ⊢
  have HT4 := hide ((hT.alloc (Obj.cells #[.int .i64 g, .slice A4 n4 c4, .slice AF4 nf4 cf4] 25)).alloc (Obj.cells #[.int .i64 p, .int .i64 q] 29))
  replace HT3 := hide (((HT3'.out.below hb4 (Nat.le_refl _)).alloc (Obj.cells #[.int .i64 g, .slice A4 n4 c4, .slice AF4 nf4 cf4] 25)).alloc (Obj.cells #[.int .i64 p, .int .i64 q] 29))
  replace bP := ((bP.below hb4 bP.lt).alloc (Obj.cells #[.int .i64 g, .slice A4 n4 c4, .slice AF4 nf4 cf4] 25)).alloc (Obj.cells #[.int .i64 p, .int .i64 q] 29)
  replace bF := ((bF.below hb4 bF.lt).alloc (Obj.cells #[.int .i64 g, .slice A4 n4 c4, .slice AF4 nf4 cf4] 25)).alloc (Obj.cells #[.int .i64 p, .int .i64 q] 29)
  replace hbw := hbw.trans (hb4.mono hbw.size)
  replace hbw := (hbw.alloc hbw.size (Obj.cells #[.int .i64 g, .slice A4 n4 c4, .slice AF4 nf4 cf4] 25)).alloc (by have := hbw.size; simp; omega) (Obj.cells #[.int .i64 p, .int .i64 q] 29)
  clear hT hb4 HSA HT3'
  have x0 := bP.cell 0
  have x1 := bP.cell 1
  have x2 := bP.cell 2
  have f0 := bF.cell 0
  have f1 := bF.cell 1
  simp at x0 x1 x2 f0 f1
  have lP := bP.lt
  have lF := bF.lt
  simp at lP lF
  have lF' := Nat.lt_succ_of_lt lF
  have lP' := Nat.lt_succ_of_lt lP
  go_wp2_with fail
  refine (machines_any _ _ (litR lu lo wt) (litR lu lo wt) _ _ (Nat.le_refl _) HT3.out.at_ HT4.out.at_).mono ?_
  rintro e w5 ⟨rfl, hb5⟩
  have hd : decide (litR lu lo wt = litR lu lo wt) = true := decide_eq_true rfl
  rw [hd]
  replace bP := bP.below hb5 bP.lt
  replace bF := bF.below hb5 bF.lt
  replace HT3 := hide (HT3.out.below hb5 (Nat.le_refl _))
  replace hbw := hbw.trans (hb5.mono hbw.size)
  clear hd hb5 HT4 x0 x1 x2 f0 f1 lP lF lP' lF'
  have x0 := bP.cell 0
  have x1 := bP.cell 1
  have x2 := bP.cell 2
  have f0 := bF.cell 0
  have f1 := bF.cell 1
  simp at x0 x1 x2 f0 f1
  have lP := bP.lt
  have lF := bF.lt
  by_cases hz : litF lu lo wt = (0, 0)
  · obtain ⟨e1, e2⟩ := HPQ.out
    rw [hz] at e1 e2
    subst e1 e2
    have hR : litR lu lo wt = litM lu lo wt := by unfold litR; rw [if_pos hz]
    obtain ⟨k1, k2, k3⟩ := lit_W hz
    rw [hR] at HT3
    have HW := hide (fun W hM hU hO => weight_any (.agg #[.int .i64 g, .slice A3 n3 c3, .slice AF3 nf3 cf3]) (.slice A1 nu cc1) (.slice A2 no cc2) (litM lu lo wt) lu lo W W.heap.size (Nat.le_refl _) hM hU hO)
    rw [k1, k2, k3] at HW
    clear k1 k2 k3 hR hz HPQ HG
    have hbz := hbw.size
    go_wp2_with fail
    refine (HW.out _ HT3.out.at_ ((HU.out.below hbw hB).mono (by omega)) ((HO.out.below hbw hB).mono (by omega))).mono ?_
    rintro e w6 ⟨rfl, hb6⟩
    replace hbw := hbw.trans (hb6.mono hbw.size)
    replace hbw := hbw.alloc hbw.size (Obj.cells #[.int .i64 0, .int .i64 0] 29)
    clear hb6 hbz x0 x1 x2 f0 f1 lP lF bP bF HT3 HW
    go_wp2
    exact bodyPost_ret (v := .bool true) (by simp [results, Try.results6, go_sem]) rfl ⟨rfl, hbw⟩
  · have hz' := fEq0_false hz
    rw [← HPQ.out.1, ← HPQ.out.2] at hz'
    go_wp2
    exact bodyPost_ret (v := .bool true) (by simp [results, Try.results6, go_sem]) rfl ⟨rfl, hbw⟩
end Go.Proofs.Ytpahodbnljpnnaa
