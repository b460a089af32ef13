/- The reference's OfTable, walked at any table without a fault. -/
import Derived.Test.YtopakcbhodnipaaNlL
import Derived.Test.YtopakcbhodnipaaGrL
import Derived.Test.YtopakcbhodnipaaDqZ
import Derived.Test.YtopakcbhodnipaaTrd
import Derived.Test.YtopakcbhodnipaaReg
import Derived.Maps.AppendAt
import Derived.IntWalk
import Derived.Deep.Cut
import Derived.LoopTactic
namespace Go.Proofs.Ytopakcbhodnipaa
open Go.RowKit Gm
set_option linter.unusedSimpArgs false
set_option linter.unusedVariables false
set_option maxRecDepth 100000 in
set_option maxHeartbeats 8000000 in
theorem oft_any (vl vn vf : Value) (l : List Int) (L : List (List Int)) (F : List Bool) (w : World) (B : Nat) (hB : B ≤ w.heap.size) (hl : Nums w B vl l) (hn : NumsL w B vn L) (hf : Bools w B vf F) (hok : TabOk l L F.length) (h2 : L.length ≤ 200) :
    Calls Try.prog 20 #[vl, vn, vf] w fun e w' => ∃ v', e = .returned v' ∧ MachNew w.heap.size w' v' (trimOf (tabM l (rowOf L) (finOf F) L.length)) ∧ Below w.heap.size w w' := by
  obtain ⟨AL, ql, cl, rfl, HQ, hqc, hqb, hL⟩ := hl
  obtain ⟨AN, n, cn, rfl, HN, hnc, hnb, hR⟩ := hn
  obtain ⟨AF, nf, cf, rfl, HF, hfc, hfb, hFF⟩ := hf
  obtain ⟨ia, ha0, ha1, ha2, ha3⟩ := info_parts arc_info
  obtain ⟨iF, hF0, hF1, hF2, hF3⟩ := info_parts fin_info
  have HOK := hide hok
  have hq3 := hok.l3
  have hnf := hok.fin
  have HRL := hide hL
  have HRR := hide (show RdL w B AN n L from hR)
  have HRF := hide hFF
  rw [HQ.out] at hq3
  rw [HF.out, HN.out] at hnf
  subst hnf
  rw [HN.out] at h2 ⊢
  clear hL hR hFF hok hqb hnb hfb
  go_enter Try.func20, Try.ntmps20
  go_upto_region 2 with fail
  generalize hW2 : World.alloc _ _ = W2
  obtain ⟨O, hO⟩ : ∃ z, z = w.heap.size + 1 := ⟨_, rfl⟩
  have HR2 := hide (show Blk W2 w.heap.size 28 #[.int .i64 0, .slice none 0 0, .slice none 0 0] by rw [← hW2]; exact (Blk.at_ rfl).alloc _)
  have HO2 := hide (show Blk W2 O 28 #[.int .i64 (nf : Int), .slice none 0 0, .slice none 0 0] by rw [← hW2]; exact Blk.at_ (by simp [hO]))
  have HBW := hide (show Below w.heap.size w W2 by rw [← hW2]; go_grown)
  have hbz : O < W2.heap.size := HO2.out.lt
  have HRL2 := hide (HRL.out.below HBW.out hB)
  have HRR2 := hide (HRR.out.below HBW.out hB)
  have HRF2 := hide (HRF.out.below HBW.out hB)
  have hwO : w.heap.size < O := by omega
  have HMK0 := hide (show Mg 28 61 63 W2 O O (nf : Int) 0 (tabA l (rowOf L) 0) 0 (tabF (finOf F) 0) from Mg.start HO2.out O)
  simp only [← hO]
  clear hW2 hO HO2 HRL HRR HRF
  go_wp2
  go_loopw [17] (fun iv wr => ∃ (i q r : Nat), i ≤ nf ∧ iv = .int .i64 i ∧ q ≤ 300 * i ∧ r ≤ i ∧ Hid (Mg 28 61 63 wr O O (nf : Int) q (tabA l (rowOf L) i) r (tabF (finOf F) i)) ∧ Hid (Below O W2 wr) ∧ O < wr.heap.size) (fun iv _ => nf - (intOf iv).toNat)
  case atStart => exact ⟨0, 0, 0, by omega, rfl, by omega, by omega, HMK0, hide (Below.refl _ _), hbz⟩
  case round =>
    clear HMK0 hbz
    obtain ⟨i, q, r, hi, rfl, hqi, hri, HMK, HBK, hbz⟩ := hrel
    by_cases hin : i < nf
    · obtain ⟨b1, o1, A1, n1, c1, rw1, rfl, hb1, d1, HR1, HL1, hc1, hn1b, hrd1⟩ := row_at (HRR2.out.below HBK.out (by omega)) hin
      have hn1 : ql = n1 := by
        have h := (HOK.out.row (s := i) (by rw [HN.out]; exact hin)).1
        unfold rowOf at h
        rw [HR1.out, HL1.out, HQ.out] at h
        exact h.symm
      subst hn1
      have HRD1 := hide hrd1
      have lb1 : b1 < wr.heap.size := by omega
      have HM1 := hide (show Mg 28 61 63 wr O O (nf : Int) q (tabA l (rowOf L) i ++ (stpJ l (rowOf L i) (fun u => u) 0).map (mkA i)) r (tabF (finOf F) i) by rw [stpJ_zero]; simpa using HMK.out)
      obtain ⟨W3, hW3⟩ : ∃ z, z = wr := ⟨_, rfl⟩
      rw [← hW3] at HM1 HBK hbz HRD1 d1 lb1 ⊢
      clear hW3 HMK hrd1
      go_upto_region 6 with fail
      clear d1
      go_loopw [24] (fun kv wr => ∃ (k p : Nat), k ≤ ql ∧ kv = .int .i64 k ∧ p ≤ 300 * i + k ∧ Hid (Mg 28 61 63 wr O O (nf : Int) p (tabA l (rowOf L) i ++ (stpJ l (rowOf L i) (fun u => u) k).map (mkA i)) r (tabF (finOf F) i)) ∧ Hid (Below O W2 wr) ∧ Hid (Below O W3 wr) ∧ O < wr.heap.size) (fun kv _ => ql - (intOf kv).toNat)
      case atStart => exact ⟨0, q, by omega, rfl, by omega, HM1, HBK, hide (Below.refl _ _), hbz⟩
      case round =>
        clear HM1 hbz HBK
        obtain ⟨k, p, hk, rfl, hpk, HMK, HBK, HB3, hbz⟩ := hrel
        by_cases hkq : k < ql
        · obtain ⟨b2, o2, t, rfl, hb2, d2, HT⟩ := num_at (HRD1.out.below HB3.out (by omega)) hkq
          obtain ⟨b3, o3, x, rfl, hb3, d3, HX⟩ := num_at (HRL2.out.below HBK.out (by omega)) hkq
          have HST := hide (stpJ_next (ls := l) (r := rowOf L i) (c := fun u => u) (getD_at (by rw [HQ.out]; exact hkq) HX.out) (rowOf_at HR1.out (by rw [HL1.out]; exact hkq) HT.out))
          have lb2 : b2 < wr.heap.size := by omega
          have lb3 : b3 < wr.heap.size := by omega
          by_cases ht : 0 ≤ t
          · have HAR := hide (show tabA l (rowOf L) i ++ (stpJ l (rowOf L i) (fun u => u) (k + 1)).map (mkA i) = tabA l (rowOf L) i ++ (stpJ l (rowOf L i) (fun u => u) k).map (mkA i) ++ [⟨(i : Int), t, x, x, 0⟩] by
              rw [HST.out, if_pos ht, List.map_append, List.append_assoc]
              congr 2
              simp [mkA]; omega)
            have t1 : decide (t ≥ 0) = true := decide_eq_true ht
            have t1' : decide (0 ≤ t) = true := decide_eq_true ht
            obtain ⟨A5, c5, AF5, cf5, bO5, hown5, hfin5⟩ := HMK.out
            have lO := bO5.lt
            have o1 := bO5.cell 1
            have of1 := bO5.frozen 1
            simp at o1
            have HBKO := hide bO5
            have HOWN := hide hown5
            have HFIN := hide hfin5
            have HLOW := hide (show ∀ z, (Value.slice A5 p c5).ownBlock = some z → O ≤ z from fun z hz => (hown5.lt z hz).1)
            have hneO : (Value.slice A5 p c5).ownBlock ≠ some O := own_bne hown5 bO5 (by decide)
            clear HMK bO5 hown5 hfin5 HST ht HX HT
            go_wp2
            refine wp_mix (fun w' => w'.cell? ⟨O, 1, none⟩ = some (.slice A5 p c5) ∧ w'.cell? ⟨b3, o3 + k, none⟩ = some (.int .i64 x)) 14 [(0, false), (1, false), (2, false), (3, false), (4, false), (5, false), (6, false), (7, false), (8, false), (9, false), (10, false), (11, false), (12, false), (13, true)] (by kernel_rfl) (by kernel_rfl) ?_ ?_
            · go_simp
            simp only [List.drop_succ_cons, List.drop_zero]
            repeat (refine mix_q (v := ?_) (by rfl) (by rfl) ?_ ?_; rotate_left; (focus (intro w' hC; (try dsimp only at hC); go_simp; (first | done | with_reducible rfl))); simp only [Act.put, List.setIfInBounds_toArray, List.set_cons_zero, List.set_cons_succ, List.getElem_toArray, List.getElem_cons_zero, List.getElem_cons_succ])
            refine mix_l (by rfl) (by rfl) (fun K hK => ?_)
            go_simp
            refine hK _ _ (by go_simp) ?_
            clear hK K
            refine mix_nil ?_; try simp only [Act.put, List.setIfInBounds_toArray, List.set_cons_zero, List.set_cons_succ, List.getElem_toArray, List.getElem_cons_zero, List.getElem_cons_succ]
            go_wp2_with (at_builtin; refine wpList_append_own_at _ rfl (.tmp 32) (.tmp 44) 25 rfl O 61 ia _ 5 40 Try.underlying25 ha0 ha1 ha2 ha3 rfl (by omega) (.slice A5 p c5) p _ rfl ((HOWN.out.alloc _).drew) ⟨wr.heap.size, 0, none⟩ 1 1 (arcRow [⟨(i : Int), t, x, x, 0⟩]) rfl (by rfl) (World.news_of_block (cs := (arcRow [⟨(i : Int), t, x, x, 0⟩]).toArray) (t := 61) (fr := (0, 0)) ((Blk.at_ (by simp)).drew)) (arcRow_one _) (by simp only [maxLen]; omega) (by omega) (by simp <;> omega) ?_; intro v' w6 hown2 hg2 _ hat2; obtain ⟨Av, cv, rfl, hkcv, _⟩ := own_value hown2; have o1' := far_cell hg2 hneO (o := 1) (v := (.slice A5 p c5)) (by exact ((HBKO.out.alloc _).drew).cell 1); have bO6 := ((HBKO.out.alloc _).drew).grown hg2 (Ne.symm hneO); have of1' := bO6.frozen 1; have lO6 := bO6.lt)
            refine NoPanic.normal ?_
            go_wp2
            have hs6 := hg2.size
            simp at hs6
            have HNEW := hide (mg_pushA ((HBKO.out.alloc _).drew) ((HOWN.out.alloc _).drew) ((HFIN.out.alloc _).drew) (by decide) (by decide) (by decide) hg2 hown2)
            have HBN := hide ((((HBK.out.alloc (by omega) _).drew).grown hg2 (by simp <;> omega) (fun z hz => HLOW.out z hz)).setCell (p := ⟨O, 1, none⟩) (by exact Nat.le_refl _) (.slice Av (p + 1) cv))
            have HBN3 := hide ((((HB3.out.alloc (by omega) _).drew).grown hg2 (by simp <;> omega) (fun z hz => HLOW.out z hz)).setCell (p := ⟨O, 1, none⟩) (by exact Nat.le_refl _) (.slice Av (p + 1) cv))
            clear hown2 hg2 hat2 bO6
            go_roundw
            case rel => exact ⟨k + 1, p + 1, by omega, by go_num, by omega, hide (by rw [HAR.out]; exact HNEW.out), HBN, HBN3, by simp [World.setCell]; omega⟩
            case measure => simp [intOf]; omega
          · have HAR := hide (show stpJ l (rowOf L i) (fun u => u) (k + 1) = stpJ l (rowOf L i) (fun u => u) k by rw [HST.out, if_neg ht, List.append_nil])
            have t1 : decide (t ≥ 0) = false := decide_eq_false ht
            have t1' : decide (0 ≤ t) = false := decide_eq_false ht
            clear HST HX HT ht
            go_wp2
            go_roundw
            case rel => exact ⟨k + 1, p, by omega, by go_num, by omega, hide (by rw [HAR.out]; exact HMK.out), HBK, HB3, hbz⟩
            case measure => simp [intOf]; omega
        · obtain rfl : ql = k := by omega
          have HARS := hide (show tabA l (rowOf L) i ++ (stpJ l (rowOf L i) (fun u => u) ql).map (mkA i) = tabA l (rowOf L) (i + 1) by rw [tabA_succ, stpJ_tstp (by rw [HQ.out]; exact Nat.le_refl _)])
          rw [HARS.out] at HMK
          obtain ⟨b2, o2, x, rfl, hb2, d2, HX⟩ := bool_at (HRF2.out.below HBK.out (by omega)) hin
          have lb2 : b2 < wr.heap.size := by omega
          cases x
          · have HFS := hide (show tabF (finOf F) (i + 1) = tabF (finOf F) i by rw [tabF_succ, show finOf F i = false from HX.out]; simp)
            clear HX
            go_wp2
            go_roundw
            case rel => exact ⟨i + 1, p, r, by omega, by go_num, by omega, by omega, hide (by rw [HFS.out]; exact HMK.out), HBK, hbz⟩
            case measure => simp [intOf]; omega
          · have HFS := hide (show tabF (finOf F) (i + 1) = tabF (finOf F) i ++ [⟨(i : Int), 0⟩] by rw [tabF_succ, show finOf F i = true from HX.out]; simp)
            obtain ⟨A5, c5, AF5, cf5, bO5, hown5, hfin5⟩ := HMK.out
            have lO := bO5.lt
            have o2 := bO5.cell 2
            have of2 := bO5.frozen 2
            simp at o2
            have HBKO := hide bO5
            have HOWN := hide hown5
            have HFIN := hide hfin5
            have HLOW := hide (show ∀ z, (Value.slice AF5 r cf5).ownBlock = some z → O ≤ z from fun z hz => (hfin5.lt z hz).1)
            have hneO : (Value.slice AF5 r cf5).ownBlock ≠ some O := own_bne hfin5 bO5 (by decide)
            clear HMK bO5 hown5 hfin5 HX
            go_wp2_with (at_builtin; refine wpList_append_own_at _ rfl (.tmp 53) (.tmp 56) 26 rfl O 63 iF _ 2 16 Try.underlying26 hF0 hF1 hF2 hF3 rfl (by omega) (.slice AF5 r cf5) r _ rfl (HFIN.out.alloc _) ⟨wr.heap.size, 0, none⟩ 1 1 (finRow [⟨(i : Int), 0⟩]) rfl (by rfl) (World.news_of_block (cs := (finRow [⟨(i : Int), 0⟩]).toArray) (t := 63) (fr := (0, 0)) (Blk.at_ (by first | rfl | simp))) (finRow_one _) (by simp only [maxLen]; omega) (by omega) (by simp <;> omega) ?_; intro v' w6 hown2 hg2 _ hat2; obtain ⟨Av, cv, rfl, hkcv, _⟩ := own_value hown2; have o2' := far_cell hg2 hneO (o := 2) (v := (.slice AF5 r cf5)) (by exact (HBKO.out.alloc _).cell 2); have bO6 := (HBKO.out.alloc _).grown hg2 (Ne.symm hneO); have of2' := bO6.frozen 2; have lO6 := bO6.lt)
            have hs6 := hg2.size
            simp at hs6
            have HNEW := hide (mg_pushF (HBKO.out.alloc _) (HOWN.out.alloc _) (HFIN.out.alloc _) (by decide) (by decide) (by decide) hg2 hown2)
            have HBN := hide (((HBK.out.alloc (by omega) _).grown hg2 (by simp <;> omega) (fun z hz => HLOW.out z hz)).setCell (p := ⟨O, 2, none⟩) (by exact Nat.le_refl _) (.slice Av (r + 1) cv))
            clear hown2 hg2 hat2 bO6
            go_roundw
            case rel => exact ⟨i + 1, p, r + 1, by omega, by go_num, by omega, by omega, hide (by rw [HFS.out]; exact HNEW.out), HBN, by simp [World.setCell]; omega⟩
            case measure => simp [intOf]; omega
    · obtain rfl : nf = i := by omega
      obtain ⟨A5, c5, AF5, cf5, bO5, hown5, hfin5⟩ := HMK.out
      have HM := hide (mg_at (n0 := (nf : Int)) hown5 hfin5 (by unfold big; omega) (by unfold big; omega))
      have HSZ := hide (show Sz (tabM l (rowOf L) (finOf F) nf) from by
        have h := HOK.out.sz
        rw [HN.out] at h
        have h1 := own_lenA hown5
        have h2 := own_lenF hfin5
        have e : (tabM l (rowOf L) (finOf F) nf).n.toNat = nf := by show ((nf : Nat) : Int).toNat = nf; omega
        exact ⟨by show (0 : Int) ≤ ((nf : Nat) : Int); omega, by show ((nf : Nat) : Int) ≤ 100000; omega, by show (tabA _ _ _).length ≤ _; omega, by show (tabF _ _).length ≤ _; omega, by rw [e]; exact h.1, by rw [e]; exact h.2⟩)
      have o0 := bO5.cell 0
      have o1 := bO5.cell 1
      have o2 := bO5.cell 2
      simp at o0 o1 o2
      have lO := bO5.lt
      have HBE := hide (HBW.out.trans (HBK.out.mono (by omega)))
      have HBR := hide (HR2.out.below HBK.out hwO)
      have hww : w.heap.size ≤ wr.heap.size := by omega
      clear bO5 hown5 hfin5 HMK
      go_wp2_with fail
      refine (trimmed_gen _ _ _ _ (Nat.le_refl _) HM.out HSZ.out).mono ?_
      rintro e w9 ⟨v1, rfl, hnew, hb9⟩
      obtain ⟨A9, AF9, n9, c9, nf9, cf9, rfl, _⟩ := hnew.at_
      have bR := HBR.out.below hb9 (by omega)
      have HBE9 := hide (HBE.out.trans (hb9.mono hww))
      have q0 := bR.cell 0
      have q1 := bR.cell 1
      have q2 := bR.cell 2
      have qf := bR.frozen 0
      have qf1 := bR.frozen 1
      have qf2 := bR.frozen 2
      have lR := bR.lt
      simp at q0 q1 q2
      have HNW := hide (((hnew.set (p := ⟨w.heap.size, 0, none⟩) (by show w.heap.size < wr.heap.size; omega) (.int .i64 (trimOf (tabM l (rowOf L) (finOf F) nf)).n)).set (p := ⟨w.heap.size, 1, none⟩) (by show w.heap.size < wr.heap.size; omega) (.slice A9 n9 c9)).set (p := ⟨w.heap.size, 2, none⟩) (by show w.heap.size < wr.heap.size; omega) (.slice AF9 nf9 cf9))
      have HBE10 := hide (((HBE9.out.setCell (p := ⟨w.heap.size, 0, none⟩) (by exact Nat.le_refl _) (.int .i64 (trimOf (tabM l (rowOf L) (finOf F) nf)).n)).setCell (p := ⟨w.heap.size, 1, none⟩) (by exact Nat.le_refl _) (.slice A9 n9 c9)).setCell (p := ⟨w.heap.size, 2, none⟩) (by exact Nat.le_refl _) (.slice AF9 nf9 cf9))
      clear hb9 hnew bR HBE HBE9
      go_wp21
      exact bodyPost_ret (v := .agg #[.int .i64 (trimOf (tabM l (rowOf L) (finOf F) nf)).n, .slice A9 n9 c9, .slice AF9 nf9 cf9]) (by simp [results, Try.results20, go_sem, lR, q0, q1, q2, qf, qf1, qf2]; rfl) rfl ⟨_, rfl, HNW.out.mono hww, HBE10.out⟩
end Go.Proofs.Ytopakcbhodnipaa
