/- The law DetermTablesMatchSpec, walked at every table. -/
import Derived.Test.YtopakcbhodnipaaDtP
import Derived.Test.YtopakcbhodnipaaLeW
import Derived.Test.YtopakcbhodnipaaTfW
import Derived.Test.YtopakcbhodnipaaOtW
import Derived.Test.YtopakcbhodnipaaFeW
import Derived.Test.YtopakcbhodnipaaEq
import Derived.Test.YtopakcbhodnipaaEx
namespace Gm
open Go Go.RowKit
theorem nums_blk {w : World} {g : Nat} {t : TypeId} {x : Int} (h : Blk w g t #[.int .i64 x]) : Nums w w.heap.size (.slice (some ⟨g, 0, none⟩) 1 1) [x] :=
  nums_own (l := [x]) (n := 1) (own_of_blk (base := 0) h (Nat.zero_le _) (by simp [maxLen])) (by unfold big; omega)
theorem numsL_blk {w : World} {g0 g1 g2 g3 : Nat} {t t' : TypeId} {x1 x2 x3 : Int} (h0 : Blk w g0 t' #[.slice (some ⟨g1, 0, none⟩) 1 1, .slice (some ⟨g2, 0, none⟩) 1 1, .slice (some ⟨g3, 0, none⟩) 1 1]) (h1 : Blk w g1 t #[.int .i64 x1]) (h2 : Blk w g2 t #[.int .i64 x2]) (h3 : Blk w g3 t #[.int .i64 x3]) : NumsL w w.heap.size (.slice (some ⟨g0, 0, none⟩) 3 3) [[x1], [x2], [x3]] := by
  refine ⟨_, 3, 3, rfl, hide rfl, Nat.le_refl _, by unfold big; omega, fun i => if i = 0 then .slice (some ⟨g1, 0, none⟩) 1 1 else if i = 1 then .slice (some ⟨g2, 0, none⟩) 1 1 else .slice (some ⟨g3, 0, none⟩) 1 1, fun _ => ⟨g0, 0, rfl, h0.lt, fun i j hi hj => ?_⟩, fun i hi => ?_⟩
  · obtain rfl : j = 0 := by omega
    have := h0.cell i
    rcases (by omega : i = 0 ∨ i = 1 ∨ i = 2) with rfl | rfl | rfl <;> simpa using this
  · rcases (by omega : i = 0 ∨ i = 1 ∨ i = 2) with rfl | rfl | rfl
    · exact nums_blk h1
    · exact nums_blk h2
    · exact nums_blk h3
theorem bools_blk {w : World} {g : Nat} {t : TypeId} {x1 x2 x3 : Bool} (h : Blk w g t #[.bool x1, .bool x2, .bool x3]) : Bools w w.heap.size (.slice (some ⟨g, 0, none⟩) 3 3) [x1, x2, x3] := by
  refine ⟨_, 3, 3, rfl, hide rfl, Nat.le_refl _, by unfold big; omega, fun _ => ⟨g, 0, rfl, h.lt, fun i j hi hj => ?_⟩⟩
  obtain rfl : j = 0 := by omega
  have := h.cell i
  rcases (by omega : i = 0 ∨ i = 1 ∨ i = 2) with rfl | rfl | rfl <;> simpa [boolCell] using this
end Gm
namespace Go.Proofs.Ytopakcbhodnipaa
open Go.RowKit Gm
set_option linter.unusedSimpArgs false
set_option linter.unusedVariables false
set_option maxRecDepth 100000 in
set_option maxHeartbeats 1000000 in
theorem letter_any (w : World) : Calls Try.prog 17 #[] w fun e w' => ∃ v1, e = .returned v1 ∧ MachNew w.heap.size w' v1 letM ∧ Below w.heap.size w w' := by
  go_enter Try.func17, Try.ntmps17
  go_wp2
  exact bodyPost_ret (v := .agg #[.int .i64 2, .slice (some ⟨w.heap.size + 1, 0, none⟩) 1 1, .slice (some ⟨w.heap.size + 1 + 1, 0, none⟩) 1 1]) (by simp [results, Try.results17, go_sem]) rfl
    ⟨_, rfl, MachNew.of_blk (m := letM) (eA := 61) (eF := 63) ((Blk.at_ (by simp)).alloc _) (Blk.at_ (by simp)) (by omega) (by omega) (by decide) (by decide), by go_grown⟩
set_option maxRecDepth 100000 in
set_option maxHeartbeats 16000000 in
theorem dtlaw_any (v0 v1 v2 : Value) (l : List Int) (L : List (List Int)) (F : List Bool) (w : World) (hl : Nums w w.heap.size v0 l) (hn : NumsL w w.heap.size v1 L) (hf : Bools w w.heap.size v2 F) :
    Calls Try.prog 3 #[v0, v1, v2] w fun e w' => e = .returned (.bool true) ∧ Below w.heap.size w w' := by
  have HL := hide hl
  have HN := hide hn
  have HF := hide hf
  clear hl hn hf
  have he := fun a b c d W => run_eql_fault a b c d W
  have hne := fun a b c d W => run_neq_fault a b c d W
  have hf : fEq 0 0 0 0 = true := rfl
  go_enter Try.func3, Try.ntmps3
  go_wp2_with fail
  generalize hWa : World.alloc _ _ = Wa
  have a0 : Blk Wa w.heap.size 3 #[.int .i64 97] := by rw [← hWa]; exact (((((Blk.at_ rfl).alloc _).alloc _).alloc _).alloc _).alloc _
  have a1 : Blk Wa (w.heap.size + 1) 3 #[.int .i64 1] := by rw [← hWa]; exact ((((Blk.at_ (by simp)).alloc _).alloc _).alloc _).alloc _
  have a2 : Blk Wa (w.heap.size + 1 + 1) 3 #[.int .i64 (-1)] := by rw [← hWa]; exact (((Blk.at_ (by simp)).alloc _).alloc _).alloc _
  have a3 : Blk Wa (w.heap.size + 1 + 1 + 1) 3 #[.int .i64 1] := by rw [← hWa]; exact ((Blk.at_ (by simp)).alloc _).alloc _
  have a4 : Blk Wa (w.heap.size + 1 + 1 + 1 + 1) 22 #[.slice (some ⟨w.heap.size + 1, 0, none⟩) 1 1, .slice (some ⟨w.heap.size + 1 + 1, 0, none⟩) 1 1, .slice (some ⟨w.heap.size + 1 + 1 + 1, 0, none⟩) 1 1] := by rw [← hWa]; exact (Blk.at_ (by simp)).alloc _
  have a5 : Blk Wa (w.heap.size + 1 + 1 + 1 + 1 + 1) 4 #[.bool false, .bool true, .bool true] := by rw [← hWa]; exact Blk.at_ (by simp)
  have hba : Below w.heap.size w Wa := by rw [← hWa]; go_grown
  refine (least_any _ _ _ [97] exL exF Wa _ (Nat.le_refl _) (nums_blk a0) (numsL_blk a4 a1 a2 a3) (bools_blk a5)).mono ?_
  rintro e w2 ⟨v7, rfl, hM, hb2⟩
  rw [ex_least] at hM ⊢
  obtain ⟨A7, n7, c7, AF7, nf7, cf7, rfl⟩ := agg_of hM
  have HM := hide hM
  have HB2 := hide (hba.trans (hb2.mono hba.size))
  have hs2 : w.heap.size ≤ w2.heap.size := HB2.out.size
  clear hM hb2 hba a0 a1 a2 a3 a4 a5 hWa
  go_upto_region 2 with fail
  generalize hW3 : World.alloc _ _ = W3
  obtain ⟨X7, hX7⟩ : ∃ z, z = w2.heap.size := ⟨_, rfl⟩
  obtain ⟨X8, hX8⟩ : ∃ z, z = X7 + 1 := ⟨_, rfl⟩
  have b7 : Blk W3 X7 28 #[.int .i64 letM.n, .slice A7 n7 c7, .slice AF7 nf7 cf7] := by rw [← hW3]; exact (Blk.at_ hX7).alloc _
  have b8 : Blk W3 X8 30 #[.int .i64 0, .int .i64 0] := by rw [← hW3]; exact Blk.at_ (by rw [hX8, hX7]; simp)
  have HB3 := hide (show Below w2.heap.size w2 W3 by rw [← hW3]; go_grown)
  have hw7 : w.heap.size ≤ X7 := by omega
  have H78 := hide hX8
  have H72 := hide hX7
  simp only [← hX7]
  simp only [← hX8]
  have H7 := hide b7
  have H8 := hide b8
  have y0 := b7.cell 0
  have y1 := b7.cell 1
  have y2 := b7.cell 2
  have y3 := b8.cell 0
  have y4 := b8.cell 1
  simp at y0 y1 y2 y3 y4
  have l7 := b7.lt
  have l8 := b8.lt
  clear hW3 hX7 hX8 b7 b8
  refine wp_mix (fun w' => w'.cell? ⟨X7, 0, none⟩ = some (.int .i64 letM.n) ∧ w'.cell? ⟨X7, 1, none⟩ = some (.slice A7 n7 c7) ∧ w'.cell? ⟨X7, 2, none⟩ = some (.slice AF7 nf7 cf7) ∧ w'.cell? ⟨X8, 0, none⟩ = some (.int .i64 0) ∧ w'.cell? ⟨X8, 1, none⟩ = some (.int .i64 0)) 6 [(0, false), (1, false), (2, false), (3, false), (4, false), (5, true)] (by kernel_rfl) (by kernel_rfl) ?_ ?_
  · go_simp
  simp only [List.drop_succ_cons, List.drop_zero]
  repeat (refine mix_q (v := ?_) (by rfl) (by rfl) ?_ ?_; rotate_left; (focus (intro w' hC; (try dsimp only at hC); go_simp; (first | done | with_reducible rfl))); simp only [Act.put, List.setIfInBounds_toArray, List.set_cons_zero, List.set_cons_succ, List.getElem_toArray, List.getElem_cons_zero, List.getElem_cons_succ])
  refine mix_l (by rfl) (by rfl) (fun K hK => ?_)
  go_simp
  refine (letter_any _).mono ?_
  rintro e w3 ⟨v3, rfl, hM3, hb3⟩
  obtain ⟨A3, n3, c3, AF3, nf3, cf3, rfl⟩ := agg_of hM3
  have HM3 := hide hM3
  have HB4 := hide (((Below.refl W3.heap.size W3).drew).trans (hb3.mono (by simp)))
  have b7 := H7.out.below HB4.out l7
  have b8 := H8.out.below HB4.out l8
  clear hM3 hb3
  refine hK _ _ ⟨b7.cell 0, b7.cell 1, b7.cell 2, b8.cell 0, b8.cell 1⟩ ?_
  clear hK K
  refine mix_nil ?_; try simp only [Act.put, List.setIfInBounds_toArray, List.set_cons_zero, List.set_cons_succ, List.getElem_toArray, List.getElem_cons_zero, List.getElem_cons_succ]
  have HM2 := hide ((HM.out.at_.below HB3.out (Nat.le_refl _)).below HB4.out (by have := HB3.out.size; omega))
  go_wp2_with fail
  refine (machines_any _ _ letM letM _ w3.heap.size (Nat.le_refl _) (HM2.out.mono (by have h1 := HB3.out.size; have h2 := HB4.out.size; omega)) HM3.out.at_).mono ?_
  rintro e w4 ⟨rfl, hb5⟩
  have HDL := hide (show decide (letM = letM) = true from decide_eq_true rfl)
  rw [HDL.out]
  have HB5 := hide ((HB3.out.trans (HB4.out.mono (by have := HB3.out.size; omega))).trans (hb5.mono (by have h1 := HB3.out.size; have h2 := HB4.out.size; omega)))
  have HBW := hide (HB2.out.trans (HB5.out.mono hs2))
  have hw34 : W3.heap.size ≤ w3.heap.size := HB4.out.size
  have H7' := hide ((H7.out.below HB4.out l7).below hb5 (by omega))
  have H8' := hide ((H8.out.below HB4.out l8).below hb5 (by omega))
  have hs4 : w.heap.size ≤ w4.heap.size := HBW.out.size
  have l7' : X7 < w4.heap.size := H7'.out.lt
  have l8' : X8 < w4.heap.size := H8'.out.lt
  have h78 : X7 ≠ X8 := by have := H78.out; omega
  have h87 : X8 ≠ X7 := by omega
  clear hb5 b7 b8 H7 H8 HB4 HB3 HM2 HM3 HM y0 y1 y2 y3 y4 l7 l8
  have z0 := H7'.out.cell 0
  have z1 := H7'.out.cell 1
  have z2 := H7'.out.cell 2
  have z3 := H8'.out.cell 0
  have z4 := H8'.out.cell 1
  have zf0 := H7'.out.frozen 0
  have zf1 := H7'.out.frozen 1
  have zf2 := H7'.out.frozen 2
  have zf3 := H8'.out.frozen 0
  have zf4 := H8'.out.frozen 1
  simp at z0 z1 z2 z3 z4
  go_wp2
  refine NoPanic.normal ?_
  go_wp2_with fail
  refine (least_any _ _ _ l L F _ w.heap.size hs4 (HL.out.below HBW.out (Nat.le_refl _)) (HN.out.below HBW.out (Nat.le_refl _)) (HF.out.below HBW.out (Nat.le_refl _))).mono ?_
  rintro e w5 ⟨v8, rfl, hM5, hb6⟩
  obtain ⟨A5, n5, c5, AF5, nf5, cf5, rfl⟩ := agg_of hM5
  obtain ⟨LR, hLR⟩ : ∃ z, z = leastR l L F := ⟨_, rfl⟩
  rw [← hLR] at hM5 ⊢
  obtain ⟨M, f1, f2⟩ := LR
  have HLR := hide hLR
  have HM5 := hide hM5
  have HB6 := hide (HBW.out.trans (hb6.mono hs4))
  have H7 := hide (H7'.out.below hb6 l7')
  have H8 := hide (H8'.out.below hb6 l8')
  clear hLR hM5 hb6 H7' H8' z0 z1 z2 z3 z4 zf0 zf1 zf2 zf3 zf4
  have z0 := H7.out.cell 0
  have z1 := H7.out.cell 1
  have z2 := H7.out.cell 2
  have z3 := H8.out.cell 0
  have z4 := H8.out.cell 1
  have zf0 := H7.out.frozen 0
  have zf1 := H7.out.frozen 1
  have zf2 := H7.out.frozen 2
  have zf3 := H8.out.frozen 0
  have zf4 := H8.out.frozen 1
  simp at z0 z1 z2 z3 z4
  have l7 := H7.out.lt
  have l8 := H8.out.lt
  obtain ⟨gM, hgM⟩ : ∃ z, z = M.n := ⟨_, rfl⟩
  have HGM := hide hgM
  have HM6 := hide (((((HM5.out.set (p := ⟨X7, 0, none⟩) l7' (.int .i64 gM)).set (p := ⟨X7, 1, none⟩) l7' (.slice A5 n5 c5)).set (p := ⟨X7, 2, none⟩) l7' (.slice AF5 nf5 cf5)).set (p := ⟨X8, 0, none⟩) l8' (.int .i64 f1)).set (p := ⟨X8, 1, none⟩) l8' (.int .i64 f2))
  have HB7 := hide (((((HB6.out.setCell (p := ⟨X7, 0, none⟩) hw7 (.int .i64 gM)).setCell (p := ⟨X7, 1, none⟩) hw7 (.slice A5 n5 c5)).setCell (p := ⟨X7, 2, none⟩) hw7 (.slice AF5 nf5 cf5)).setCell (p := ⟨X8, 0, none⟩) (by show w.heap.size ≤ X8; have := H78.out; omega) (.int .i64 f1)).setCell (p := ⟨X8, 1, none⟩) (by show w.heap.size ≤ X8; have := H78.out; omega) (.int .i64 f2))
  have H7b := hide (((((H7.out.set_ 0 (.int .i64 gM)).set_ 1 (.slice A5 n5 c5)).set_ 2 (.slice AF5 nf5 cf5)).far (p := ⟨X8, 0, none⟩) h78 (.int .i64 f1)).far (p := ⟨X8, 1, none⟩) h78 (.int .i64 f2))
  have H8b := hide (((((H8.out.far (p := ⟨X7, 0, none⟩) h87 (.int .i64 gM)).far (p := ⟨X7, 1, none⟩) h87 (.slice A5 n5 c5)).far (p := ⟨X7, 2, none⟩) h87 (.slice AF5 nf5 cf5)).set_ 0 (.int .i64 f1)).set_ 1 (.int .i64 f2))
  simp only [← hgM]
  clear hgM HM5 HB6 H7 H8
  go_wp2_with fail
  generalize hW6 : World.setCell _ _ _ = W6
  rw [hW6] at HM6 HB7 H7b H8b
  have hz6 : w.heap.size ≤ W6.heap.size := HB7.out.size
  have HMA := hide (HM6.out.at_)
  have H7c := hide (show Blk W6 X7 28 #[.int .i64 gM, .slice A5 n5 c5, .slice AF5 nf5 cf5] by simpa using H7b.out)
  have H8c := hide (show Blk W6 X8 30 #[.int .i64 f1, .int .i64 f2] by simpa using H8b.out)
  clear hW6 H7b H8b HM6 z0 z1 z2 z3 z4 zf0 zf1 zf2 zf3 zf4 l7 l8
  have hX7w : X7 < W6.heap.size := H7c.out.lt
  have hX8w : X8 < W6.heap.size := H8c.out.lt
  refine (tblf_any _ _ _ l L F _ w.heap.size hz6 (HL.out.below HB7.out (Nat.le_refl _)) (HN.out.below HB7.out (Nat.le_refl _)) (HF.out.below HB7.out (Nat.le_refl _))).mono ?_
  rintro e w6 ⟨rfl, hb7⟩
  obtain ⟨g1, hg1⟩ : ∃ z, z = (tblF l L F.length).1 := ⟨_, rfl⟩
  obtain ⟨g2, hg2⟩ : ∃ z, z = (tblF l L F.length).2 := ⟨_, rfl⟩
  have HG := hide (show tblF l L F.length = (g1, g2) by rw [hg1, hg2])
  rw [← hg1, ← hg2]
  have HB8 := hide (HB7.out.trans (hb7.mono hz6))
  have H7 := hide (H7c.out.below hb7 hX7w)
  have H8 := hide (H8c.out.below hb7 hX8w)
  have HMB := hide ((HMA.out.below hb7 (Nat.le_refl _)).mono (show W6.heap.size ≤ w6.heap.size from hb7.size))
  have hz7 : w.heap.size ≤ w6.heap.size := HB8.out.size
  clear hg1 hg2 hb7 HB7 H7c H8c HMA
  have z0 := H7.out.cell 0
  have z3 := H8.out.cell 0
  have z4 := H8.out.cell 1
  simp at z0 z3 z4
  have l7 := H7.out.lt
  have l8 := H8.out.lt
  by_cases hbad : g1 = 0
  · have hz := tblF_zero (l := l) (L := L) (nf := F.length) (by rw [HG.out]; exact hbad)
    have hgz : g1 = 0 ∧ g2 = 0 := by
      have h := hz.1
      rw [HG.out] at h
      injection h with h1 h2
      exact ⟨h1, h2⟩
    obtain ⟨rfl, rfl⟩ := hgz
    have HOK := hide hz.2
    have HLM := hide (show (M, f1, f2) = limR (canT l L F) by rw [HLR.out, leastR_ok HG.out])
    clear hz hbad
    obtain ⟨AN, n, cn, rfl, HNN, hcn, hnb, hRN⟩ := HN.out
    unfold big at hnb
    by_cases h60 : 60 < n
    · have t1 : decide ((n : Int) > 60) = true := decide_eq_true (by omega)
      have t1' : decide ((60 : Int) < (n : Int)) = true := decide_eq_true (by omega)
      clear hRN h60
      go_wp2
      exact bodyPost_ret (v := .bool true) (by simp [results, Try.results3, go_sem]) rfl ⟨rfl, HB8.out.alloc hz7 _⟩
    · have t1 : decide ((n : Int) > 60) = false := decide_eq_false (by omega)
      have t1' : decide ((60 : Int) < (n : Int)) = false := decide_eq_false (by omega)
      have hL60 : L.length ≤ 60 := by rw [HNN.out]; omega
      have HL60 := hide hL60
      clear hRN h60 hL60
      go_wp2_with fail
      generalize hW9 : World.alloc _ _ = W9
      obtain ⟨X9, hX9⟩ : ∃ z, z = w6.heap.size := ⟨_, rfl⟩
      have H9 := hide (show Below w6.heap.size w6 W9 by rw [← hW9]; go_grown)
      have HB9 := hide (HB8.out.trans (H9.out.mono hz7))
      have hz9 : w.heap.size ≤ W9.heap.size := HB9.out.size
      refine (oft_any _ _ _ l L F _ w.heap.size hz9 (HL.out.below HB9.out (Nat.le_refl _)) (HN.out.below HB9.out (Nat.le_refl _)) (HF.out.below HB9.out (Nat.le_refl _)) HOK.out (by have := HL60.out; omega)).mono ?_
      rintro e w10 ⟨v10, rfl, hM10, hb10⟩
      obtain ⟨S, hSn, hfo, hcan⟩ := few_ok (ls := l) (row := rowOf L) (fin := finOf F) (n := L.length) HOK.out.inc HOK.out.pos HOK.out.sm.rngs (fun h => none_zero h HOK.out.fin) (by have := HOK.out.l3; omega) (Nat.le_trans (tabA_len _) (by
        have h1 := HL60.out
        have h2 := HOK.out.l3
        exact Nat.le_trans (Nat.mul_le_mul h1 h2) (by omega)))
      have HFO := hide hfo
      have HCAN := hide hcan
      have HS60 := hide (show S ≤ 60 by have := HL60.out; omega)
      have HB10 := hide (HB9.out.trans (hb10.mono hz9))
      have hz10 : w.heap.size ≤ w10.heap.size := HB10.out.size
      have H10 := hide (H9.out.trans (hb10.mono (by have := H9.out.size; omega)))
      have HM10 := hide hM10.at_
      clear hM10 hb10 hfo hcan hSn hW9 hX9 HB9 H9
      go_wp2_with fail
      refine (few_any _ _ S _ _ (Nat.le_refl _) HM10.out HFO.out.n (by have := HS60.out; omega) HFO.out.rng HFO.out.len HFO.out.wt HFO.out.tab HFO.out.lab HFO.out.use HFO.out.none).mono ?_
      rintro e w11 ⟨v11, rfl, hM11, hb11⟩
      rw [HCAN.out] at hM11
      have HX := hide (show canonM l (accS (tstp l (rowOf L)) (finOf F) 0) L.length = canT l L F from rfl)
      rw [HX.out] at hM11
      obtain ⟨XM, hXM⟩ : ∃ z, z = canT l L F := ⟨_, rfl⟩
      rw [← hXM] at hM11 HLM
      have hXn : XM.n ≤ 60 := by
        have h := canT_n HOK.out.sm
        rw [← hXM] at h
        have := HL60.out
        omega
      obtain ⟨AX, AFX, nX, cX, nfX, cfX, rfl, HNX, _⟩ := hM11.at_
      have HM11 := hide hM11.at_
      have HXM := hide hXM
      have HB11 := hide (HB10.out.trans (hb11.mono hz10))
      have H11 := hide (H10.out.trans (hb11.mono (by have := H10.out.size; omega)))
      have hz11 : w6.heap.size ≤ w11.heap.size := H11.out.size
      have H7d := hide (H7.out.below H11.out l7)
      have H8d := hide (H8.out.below H11.out l8)
      have HMD := hide ((HMB.out.below H11.out (Nat.le_refl _)).mono hz11)
      clear hM11 hb11 HB10 H10 HM10 HCAN hXM z0 z3 z4 H7 H8 HMB
      have z0 := H7d.out.cell 0
      have z1 := H7d.out.cell 1
      have z2 := H7d.out.cell 2
      have z3 := H8d.out.cell 0
      have z4 := H8d.out.cell 1
      simp at z0 z1 z2 z3 z4
      have l7b := H7d.out.lt
      have l8b := H8d.out.lt
      have hww : w.heap.size ≤ w11.heap.size := by omega
      by_cases hbig : 2000 < nX
      · have hLM : (M, f1, f2) = (⟨0, [], []⟩, 17, -1) := by
          rw [HLM.out]
          unfold limR
          rw [if_pos (.inr (by rw [HNX.out]; exact hbig))]
        injection hLM with e1 e2
        injection e2 with e2 e3
        have hg0 : gM = 0 := by rw [HGM.out, e1]
        subst e2 e3 hg0
        have t2 : decide ((nX : Int) > 2000) = true := decide_eq_true (by omega)
        have t2' : decide ((2000 : Int) < (nX : Int)) = true := decide_eq_true (by omega)
        have hf17 : fEq 17 (-1) 17 (-1) = true := rfl
        clear hbig e1 HLM HLR HGM
        go_wp2
        exact bodyPost_ret (v := .bool true) (by simp [results, Try.results3, go_sem]) rfl ⟨rfl, by first | exact HB11.out.alloc hww _ | exact HB11.out⟩
      · have hLM : (M, f1, f2) = (XM, 0, 0) := by
          rw [HLM.out]
          unfold limR
          rw [if_neg]
          rintro (g | g)
          · omega
          · rw [HNX.out] at g; omega
        injection hLM with e1 e2
        injection e2 with e2 e3
        have HME := hide e1
        subst e2 e3
        have t2 : decide ((nX : Int) > 2000) = false := decide_eq_false (by omega)
        have t2' : decide ((2000 : Int) < (nX : Int)) = false := decide_eq_false (by omega)
        clear hbig e1 HLM HLR
        go_wp2_with fail
        generalize hW12 : World.alloc _ _ = W12
        have H12 := hide (show Below w11.heap.size w11 W12 by rw [← hW12]; exact (Below.refl _ _).alloc (Nat.le_refl _) _)
        have hz12 : w11.heap.size ≤ W12.heap.size := H12.out.size
        have HA12 := hide (show MachAt W12 w11.heap.size (.agg #[.int .i64 gM, .slice A5 n5 c5, .slice AF5 nf5 cf5]) M by rw [HGM.out]; exact HMD.out.below H12.out (Nat.le_refl _))
        have HC12 := hide (HM11.out.below H12.out (Nat.le_refl _))
        clear hW12
        refine (machines_any _ _ M XM W12 w11.heap.size hz12 HA12.out HC12.out).mono ?_
        rintro e w12 ⟨rfl, hb12⟩
        have HD := hide (show decide (M = XM) = true from decide_eq_true HME.out)
        rw [HD.out]
        have HBE := hide (HB11.out.trans ((H12.out.mono hww).trans (hb12.mono (show w.heap.size ≤ W12.heap.size by omega))))
        clear hb12
        go_wp2
        exact bodyPost_ret (v := .bool true) (by simp [results, Try.results3, go_sem]) rfl ⟨rfl, HBE.out⟩
  · have HLM := hide (show (M, f1, f2) = (⟨0, [], []⟩, g1, g2) by rw [HLR.out, leastR_bad HG.out hbad])
    have hLM := HLM.out
    injection hLM with e1 e2
    injection e2 with e2 e3
    have hg0 : gM = 0 := by rw [HGM.out, e1]
    subst e2 e3 hg0
    have hfg : fEq f1 f2 0 0 = false := fEq_false (fun h => hbad h.1)
    have hff : fEq f1 f2 f1 f2 = true := by unfold fEq; simp
    clear e1 HLM HLR HGM HG hbad
    go_wp2
    exact bodyPost_ret (v := .bool true) (by simp [results, Try.results3, go_sem]) rfl ⟨rfl, HB8.out.alloc hz7 _⟩
end Go.Proofs.Ytopakcbhodnipaa
