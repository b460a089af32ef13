/- The texts FeW of this proof. No conditions. -/
import Derived.Test.YtopakcbhodnipaaCb11
import Derived.Test.YtopakcbhodnipaaCb25
import Derived.Test.YtopakcbhodnipaaCb26
import Derived.Test.YtopakcbhodnipaaCb27
import Derived.Test.YtopakcbhodnipaaCb28
import Derived.Deep.LoopGhost
import Derived.Test.YtopakcbhodnipaaDb1
/- Text FeW. -/
namespace Gm
theorem diffJ_zero (row : Nat → List Int) (fin : Nat → Bool) (n : Nat) (A : Nat → Bool) (p q : Nat) : diffJ row fin n A p q 0 = (fin p != fin q) := by unfold diffJ; simp
open Go Go.RowKit in
theorem own_of_blkF {w : World} {base g : Nat} {e : TypeId} {cs : Array Value} (h : Blk w g e cs) (hb : base ≤ g) (hm : cs.size ≤ maxLen) : w.ownsRow base e 1 (.slice (some ⟨g, 0, none⟩) cs.size cs.size) cs.size cs.toList :=
 ⟨by simp, .inr ⟨g, cs.size, cs, rfl, hb, h, Nat.le_refl _, hm, by simp, List.take_of_length_le (by simp)⟩⟩
end Gm
namespace Go.Proofs.Ytopakcbhodnipaa
open Go.RowKit Gm
set_option linter.unusedSimpArgs false
set_option linter.unusedVariables false
set_option maxRecDepth 100000 in
set_option maxHeartbeats 32000000 in
theorem few_any (va : Value) (
 m : Mach) (S : Nat) (w : World) (B : Nat) (hB : B ≤ w.heap.size) (ha : MachAt w B va m) (hS : m.n = (S : Int)) (hS2 : S ≤ 200) (hrng : inRange m.arcs S) (hlen : m.arcs.length ≤ 1000000) (hw0 : ∀ x ∈ m.fins, 0 ≤ x.w) (hT : Tab (lsM m) (rowM m) (finM' m) S) (hq : (lsM m).length ≤ 2000) (hu : 0 < S → ∃ v, langM m 0 v) (hz : S = 0 → ¬ ∃ v, langM m 0 v) :
 Calls Try.prog 19 #[va] w fun e w' => ∃ v', e = .returned v' ∧ MachNew w.heap.size w' v' (canonM (lsM m) (langM m 0) S) ∧ Below w.heap.size w w' := by
 have HM := hide ha
 obtain ⟨A, AF, n, c, nf, cf, rfl, HN, HF, hnc, hnfc, hnb, hnfb, hA, hF⟩ := ha
 obtain ⟨i0, hi0, hz0, hz1, hz2⟩ := info_parts int_info
 obtain ⟨ia, ha0, ha1, ha2, ha3⟩ := info_parts arc_info
 obtain ⟨iF, hF0, hF1, hF2, hF3⟩ := info_parts fin_info
 have HSS := hide hS
 have HRNG := hide hrng
 have HT := hide hT
 have HU := hide hu
 have HZ := hide hz
 have HQ2 := hide hq
 have HLEN := hide hlen
 have HW0 := hide (fun s => finW_neg (m := m) hw0 s)
 unfold big at hnb hnfb
 rw [hS] at HM ⊢
 clear hA hF hS hrng hT hu hz hq hlen hw0
 go_enter Try.func19, Try.ntmps19
 go_upto_region 1 with fail
 generalize hW1 : World.alloc _ _ = W1
 obtain ⟨X, hX⟩ : ∃ z, z = w.heap.size := ⟨_, rfl⟩
 have HXM := hide (show Blk W1 X 28 #[.int .i64 (S : Int), .slice A n c, .slice AF nf cf] by rw [← hW1, hX]; exact (Blk.at_ rfl).alloc _)
 have HRM := hide (show Blk W1 (X + 1) 28 #[.int .i64 0, .slice none 0 0, .slice none 0 0] by rw [← hW1, hX]; exact Blk.at_ (by simp))
 have HB1 := hide (show Below X w W1 by rw [← hW1, hX]; go_grown)
 have hBX : B ≤ X := by omega
 have HXW := hide hX
 have HM1 := hide (HM.out.below HB1.out hBX)
 have hz1' : X + 1 < W1.heap.size := HRM.out.lt
 simp only [← hX]
 clear hW1 hX HM
 have x0 := HXM.out.cell 0
 have x1 := HXM.out.cell 1
 have x2 := HXM.out.cell 2
 simp at x0 x1 x2
 have lX := HXM.out.lt
 by_cases hS0 : S = 0
 ·
  have HR := hide (canon_none (ls := lsM m) (L := langM m 0) (f := S) (HZ.out hS0))
  have t1 : ((S : Int) == 0) = true := by simp; omega
  have q0 := HRM.out.cell 0
  have q1 := HRM.out.cell 1
  have q2 := HRM.out.cell 2
  have qf := HRM.out.frozen 0
  have qf1 := HRM.out.frozen 1
  have qf2 := HRM.out.frozen 2
  simp at q0 q1 q2
  have lR := HRM.out.lt
  clear hS0
  go_wp2
  refine bodyPost_ret (v := .agg #[.int .i64 0, .slice none 0 0, .slice none 0 0]) (by simp [results, Try.results19, go_sem, lR, q0, q1, q2, qf, qf1, qf2]) rfl ?_
  rw [HR.out, ← HXW.out]
  exact ⟨_, rfl, MachNew.empty _ _, ((HB1.out.setCell (p := ⟨X + 1, 0, none⟩) (by exact Nat.le_succ _) _).setCell (p := ⟨X + 1, 1, none⟩) (by exact Nat.le_succ _) _).setCell (p := ⟨X + 1, 2, none⟩) (by exact Nat.le_succ _) _⟩
 ·
  have t1 : ((
   S : Int) == 0) = false := by simp; omega
  have hSp : 0 < S := by omega
  clear hS0
  go_wp2_with fail
  refine (labels_any _ m _ _ (Nat.le_refl _) (HM1.out.mono (by omega)) HLEN.out).mono ?_
  rintro e w2 ⟨AL, cL, rfl, hownL, hb2⟩
  obtain ⟨q, hq⟩ : ∃ z, z = (labsR m.arcs).length := ⟨_, rfl⟩
  rw [← hq] at hownL ⊢
  have HQ := hide (show (lsM m).length = q from hq.symm)
  have hqb : q ≤ 2000 := by have := HQ2.out; rw [HQ.out] at this; exact this
  have HNL := hide (show Nums w2 w2.heap.size (.slice AL q cL) (lsM m) from nums_own hownL (by unfold big; omega))
  have HX2 := hide (HXM.out.below hb2 (by omega))
  have HR2 := hide (HRM.out.below hb2 (by omega))
  have HM2 := hide (HM1.out.below hb2 (by omega))
  have HB2 := hide (HB1.out.trans (hb2.mono (by omega)))
  have hz2' : X + 1 < w2.heap.size := HR2.out.lt
  clear hownL hb2 hq x0 x1 x2 lX
  have x0 := HX2.out.cell 0
  have x1 := HX2.out.cell 1
  have x2 := HX2.out.cell 2
  simp at x0 x1 x2
  have lX := HX2.out.lt
  go_wp2_with fail
  refine (rows_any _ _ m (lsM m) S _ _ (Nat.le_refl _) (HM2.out.mono (by omega)) HNL.out HSS.out (by omega) (by rw [HQ.out]; omega) HRNG.out).mono ?_
  rintro e w3 ⟨v3, rfl, hnl, hb3⟩
  obtain ⟨AR, nR, cR, rfl, HNR, hcR, hnRb, hRR⟩ := hnl
  have hnR : S = nR := by have h := HNR.out; rw [List.length_map, List.length_range] at h; exact h
  subst hnR
  have HRR := hide (show RdL w3 w3.heap.size AR S ((List.range S).map (rowL (lsM m) m.arcs)) from hRR)
  have HX3 := hide (HX2.out.below hb3 (by omega))
  have HR3 := hide (HR2.out.below hb3 (by omega))
  have HM3 := hide (HM2.out.below hb3 (by omega))
  have HB3 := hide (HB2.out.trans (hb3.mono (by omega)))
  have HNL3 := hide ((HNL.out.below hb3 (Nat.le_refl _)).mono (show w2.heap.size ≤ w3.heap.size from hb3.size))
  have hz3' : X + 1 < w3.heap.size := HR3.out.lt
  have HROW := hide (show ∀ p, p < S → ((List.range S).map (rowL (lsM m) m.arcs)).getD p [] = rowM m p from fun p hp => by simp [List.getD, hp, rowM])
  obtain ⟨SS, hSS⟩ : ∃ z, z = S * S := ⟨_, rfl⟩
  have hSSI : (S : Int) * (S : Int) = (SS : Int) := by rw [hSS]; push_cast; rfl
  have hSS4 : SS ≤ 40000 := by rw [hSS]; exact Nat.mul_le_mul hS2 hS2
  have HSQ := hide hSS
  clear hRR hb3 hSS x0 x1 x2 lX
  have hmk := run_make_row' (P := Try.prog) 24 4 (.bool false) 1 Try.underlying24 bool_info rfl .i64 .i64 SS (by omega) (by omega) w3
  go_upto_region 7 with fail
  clear hmk
  generalize hW4 : World.alloc _ _ = W4
  obtain ⟨gA, hgA⟩ : ∃ z, z = w3.heap.size := ⟨_, rfl⟩
  have HRA4 := hide (show W4.rowIs gA 4 SS (fun i => .bool ((fun _ => false : Nat → Bool) i)) by rw [← hW4, hgA]; exact World.rowIs_made w3 (.bool false) SS 4)
  have HBA := hide (show Below gA w3 W4 by rw [← hW4, hgA]; go_grown)
  have hz4 : gA < W4.heap.size := HRA4.out.lt
  have HX4 := hide (HX3.out.below HBA.out (by omega))
  have HM4 := hide (HM3.out.below HBA.out (by omega))
  have HRR4 := hide (show RdL W4 gA AR S ((List.range S).map (rowL (lsM m) m.arcs)) by have h := HRR.out.below HBA.out (by omega); rw [← hgA] at h; exact h)
  have HNL4 := hide (show Nums W4 gA (.slice AL q cL) (lsM m) by have h := HNL3.out.below HBA.out (by omega); rw [← hgA] at h; exact h)
  have HSND0 := hide (sound_none (ls := lsM m) (row := rowM m) (fin := finM' m) (n := S))
  have HOF0 := hide (show offN (fun _ => false) SS + (if true = true then 1 else 0) ≤ 40001 by have := offN_le (fun _ => false) SS; simp; omega)
  have hXA : X + 1 < gA := by omega
  have HGA := hide hgA
  simp only [← hgA]
  clear hW4 hgA hSSI
  go_wp2
  go_loopg [7] (40001) (fun gk av wr => ∃ (T : Nat → Bool) (again : Bool), av = .bool again ∧ Hid (wr.rowIs gA 4 SS (fun i => .bool (T i))) ∧ Hid (Sound (lsM m) (rowM m) (finM' m) S (apO T S)) ∧ Hid (again = false → ∀ p q, p < S → q < S → (T (p * S + q) = false ↔ SameL (lsM m) (rowM m) (finM' m) p q)) ∧ Hid (offN T SS + (if again = true then 1 else 0) ≤ gk) ∧ Hid (Below gA W4 wr) ∧ gA < wr.heap.size)
  case atStart => exact ⟨fun _ => false, true, rfl, HRA4, HSND0, hide (fun h => by cases h), HOF0, hide (Below.refl _ _), hz4⟩
  case round =>
   clear HRA4 HSND0 HOF0 hz4
   obtain ⟨T, again, rfl, HRA, HSND, HFIN, HOF, HBK, hzr⟩ := hrel
   cases again
   ·
    have HSAME := hide (
     HFIN.out rfl)
    have HFI := hide (fwI_of (m := m) HT.out HSAME.out hSp (HU.out hSp))
    clear HFIN HOF HSND HSAME
    obtain ⟨W5, hW5⟩ : ∃ z, z = wr := ⟨_, rfl⟩
    rw [← hW5] at HRA HBK hzr ⊢
    clear hW5
    have hmk := run_make_row' (P := Try.prog) 22 3 (.int .i64 0) 8 Try.underlying22 int_info rfl .i64 .i64 S (by omega) (by omega) W5
    go_upto_region 32 with fail
    clear hmk
    generalize hW6 : World.alloc _ _ = W6
    obtain ⟨gL, hgL⟩ : ∃ z, z = W5.heap.size := ⟨_, rfl⟩
    have HRL6 := hide (show W6.rowIs gL 3 S (fun i => .int .i64 ((if i < 0 then lq T S i S else 0 : Nat) : Int)) by rw [← hW6, hgL]; exact (World.rowIs_made W5 (.int .i64 0) S 3).congr (fun i _ => by simp))
    have HRA6 := hide (show W6.rowIs gA 4 SS (fun i => .bool (T i)) by rw [← hW6]; exact HRA.out.alloc _)
    have HB6 := hide (show Below gA W4 W6 by rw [← hW6]; exact HBK.out.alloc (by omega) _)
    have hAL : gA < gL := by omega
    have hz6 : gL < W6.heap.size := HRL6.out.lt
    have HGL := hide hgL
    simp only [← hgL]
    clear hW6 hgL HRA HBK hzr
    go_loopw [118] (fun iv wr => ∃ p : Nat, p ≤ S ∧ iv = .int .i64 (p : Int) ∧ Hid (wr.rowIs gL 3 S (fun i => .int .i64 ((if i < p then lq T S i S else 0 : Nat) : Int))) ∧ Hid (Below gL W6 wr) ∧ gL < wr.heap.size) (fun iv _ => S - (intOf iv).toNat)
    case atStart => exact ⟨0, by omega, rfl, HRL6, hide (Below.refl _ _), hz6⟩
    case round =>
     clear HRL6 hz6
     obtain ⟨p, hp, rfl, HRL, HBK, hzr⟩ := hrel
     by_cases hpS : p < S
     ·
      obtain ⟨PS, hPS⟩ : ∃ z, z = p * S := ⟨_, rfl⟩
      have hPSI : (p : Int) * (S : Int) = (PS : Int) := by rw [hPS]; push_cast; rfl
      have hPSb : PS + S ≤ SS := by
       have h1 := Nat.mul_le_mul_right S (show p + 1 ≤ S by omega)
       rw [Nat.succ_mul] at h1
       rw [hPS, HSQ.out]
       exact h1
      have HRL1 := hide (show wr.rowIs gL 3 S (fun i => .int .i64 ((if i < p then lq T S i S else if i = p then lq T S p 0 else 0 : Nat) : Int)) from HRL.out.congr (fun i _ => by
       by_cases e : i < p
       · rw [if_pos e, if_pos e]
       ·
        by_cases e2 : i = p
        · rw [if_neg e, if_neg e, if_pos e2]; rfl
        · rw [if_neg e, if_neg e, if_neg e2]))
      have HPS := hide hPS
      obtain ⟨W7, hW7⟩ : ∃ z, z = wr := ⟨_, rfl⟩
      rw [← hW7] at HRL1 HBK hzr ⊢
      clear hW7 HRL hPS
      go_upto_region 35 with fail
      go_loopw [16] (fun qv wr => ∃ (j : Nat) (x : Int), j ≤ S ∧ x = (S : Int) - 1 - j ∧ qv = .int .i64 x ∧ Hid (wr.rowIs gL 3 S (fun i => .int .i64 ((if i < p then lq T S i S else if i = p then lq T S p j else 0 : Nat) : Int))) ∧ Hid (Below gL W6 wr) ∧ gL < wr.heap.size) (fun qv _ => (intOf qv + 1).toNat)
      case atStart => exact ⟨0, (S : Int) - 1, by omega, by omega, rfl, HRL1, HBK, hzr⟩
      case round =>
       clear HRL1 HBK hzr
       obtain ⟨j, x, hj, hx, rfl, HRL, HBK, hzr⟩ := hrel
       by_cases hjS : j < S
       ·
        obtain ⟨qn, hqn⟩ : ∃ z : Nat, z = S - 1 - j := ⟨_, rfl⟩
        have hxq : x = (qn : Int) := by omega
        have hqS : qn < S := by omega
        subst hxq
        have t2 : decide ((qn : Int) ≥ 0) = true := decide_eq_true (by omega)
        have t2' : decide ((0 : Int) ≤ (qn : Int)) = true := decide_eq_true (by omega)
        have rA := HRA6.out.of_block (HBK.out.block gA hAL)
        have cA := rA.cell (show PS + qn < SS by omega)
        have lA : gA < wr.heap.size := by omega
        have cL := HRL.out.cell hpS
        have fL := HRL.out.frozen p
        have HXN := hide (show (qn : Int) - 1 = (S : Int) - 1 - ((j + 1 : Nat) : Int) by omega)
        have HLQ := hide (show lq T S p (j + 1) = if T (PS + qn) = false then qn else lq T S p j by
         show (if T (p * S + (S - 1 - j)) = false then S - 1 - j else lq T S p j) = _
         rw [← hqn, HPS.out])
        clear rA hx hqn
        cases hT1 : T (PS + qn)
        ·
         rw [hT1] at cA
         have HRN := hide ((HRL.out.set p (.int .i64 (qn : Int))).congr (g := fun i => .int .i64 ((if i < p then lq T S i S else if i = p then lq T S p (j + 1) else 0 : Nat) : Int)) (fun i _ => by
          rw [HLQ.out, if_pos hT1]
          by_cases e : i = p
          · subst e; simp
          · rw [if_neg e, if_neg e, if_neg e]))
         clear hT1
         go_wp2
         go_roundw
         case rel => exact ⟨j + 1, (qn : Int) - 1, by omega, HXN.out, rfl, HRN, hide (HBK.out.setCell (p := ⟨gL, p, none⟩) (by exact Nat.le_refl _) _), by simp [World.setCell]; omega⟩
         case measure => simp [intOf] <;> omega
        ·
         rw [hT1] at cA
         have HRN := hide (HRL.out.congr (g := fun i => .int .i64 ((if i < p then lq T S i S else if i = p then lq T S p (j + 1) else 0 : Nat) : Int)) (fun i _ => by
          have e := HLQ.out
          rw [if_neg (by rw [hT1]; simp)] at e
          rw [e]))
         clear hT1
         go_wp2
         go_roundw
         case rel => exact ⟨j + 1, (qn : Int) - 1, by omega, HXN.out, rfl, HRN, HBK, hzr⟩
         case measure => simp [intOf] <;> omega
       ·
        obtain rfl : S = j := by omega
        have hx1 : x = -1 := by omega
        subst hx1
        have HRN := hide (HRL.out.congr (g := fun i => .int .i64 ((if i < p + 1 then lq T S i S else 0 : Nat) : Int)) (fun i _ => by
         by_cases e : i < p
         · rw [if_pos e, if_pos (by omega)]
         ·
          by_cases e2 : i = p
          · subst e2; rw [if_neg e, if_pos rfl, if_pos (by omega)]
          · rw [if_neg e, if_neg e2, if_neg (by omega)]))
        go_wp2
        go_roundw
        case rel => exact ⟨p + 1, by omega, by go_num, HRN, HBK, hzr⟩
        case measure => simp [intOf]; omega
     ·
      obtain rfl : S = p := by omega
      obtain ⟨cq, hcq⟩ : ∃ f : Nat → Nat, f = fun p => lq T S p S := ⟨_, rfl⟩
      rw [← hcq] at HFI
      have HRLN := hide (HRL.out.congr (g := fun i => .int .i64 ((cq i : Nat) : Int)) (fun i hi => by rw [if_pos hi, hcq]))
      clear hcq HRL
      obtain ⟨W7, hW7⟩ : ∃ z, z = wr := ⟨_, rfl⟩
      rw [← hW7] at HRLN HBK hzr ⊢
      clear hW7
      go_upto_region 43 with fail
      generalize hW14 : World.alloc _ _ = W14
      obtain ⟨gO, hgO⟩ : ∃ z, z = W7.heap.size := ⟨_, rfl⟩
      obtain ⟨O, hO⟩ : ∃ z, z = gO + 1 := ⟨_, rfl⟩
      have HOD14 := hide (show W14.ownsRow gO 3 1 (.slice (some ⟨gO, 0, none⟩) 1 1) 1 (intRow (castL (StW m cq 0).1.1)) by
       rw [← hW14]
       have hb : Blk (W7.alloc (Obj.cells #[.int .i64 0] 3)) gO 3 #[.int .i64 0] := Blk.at_ hgO
       exact own_of_blkF (base := gO) (hb.alloc _) (Nat.le_refl _) (by simp [maxLen]))
      have HMG14 := hide (show Mg 28 61 63 W14 O gO 0 0 (StW m cq 0).1.2 0 (StW m cq 0).2 by
       rw [← hW14]
       exact Mg.start (Blk.at_ (by rw [hO, hgO]; simp)) gO)
      have HB14 := hide (show Below gO W7 W14 by rw [← hW14, hgO]; go_grown)
      have hz14 : O < W14.heap.size := HMG14.out.lt
      have hgO1 : gO < O := by omega
      have hLO : gL < gO := by omega
      have HRL14 := hide (HRLN.out.of_block (HB14.out.block gL hLO))
      have HB74 := hide (show Below gA W4 W14 from HB6.out.trans ((HBK.out.mono (by omega)).trans (HB14.out.mono (by omega))))
      have HX14 := hide (HX4.out.below HB74.out (by omega))
      have HM14 := hide ((HM4.out.below HB74.out (by omega)).mono (show B ≤ X by omega))
      have HRR14 := hide (HRR4.out.below HB74.out (Nat.le_refl _))
      have HNL14 := hide (HNL4.out.below HB74.out (Nat.le_refl _))
      have HR14 := hide ((HR3.out.below HBA.out (by omega)).below HB74.out (by omega))
      have HBW14 := hide (show Below X w W14 from (HB3.out.trans (HBA.out.mono (by omega))).trans (HB74.out.mono (by omega)))
      have HGO := hide hgO
      have HHO := hide hO
      simp only [← hgO]
      simp only [← hO]
      have HP0 := hide (show (StW m cq 0).1.1.length = 1 from rfl)
      clear hW14 hgO hO HRLN HBK hzr
      go_loopw [17, 19] (fun ov iv wr => ∃ (i p q' r : Nat), i ≤ p ∧ iv = .int .i64 (i : Int) ∧ q' ≤ 2000 * i ∧ r ≤ i ∧ p ≤ S ∧ Hid ((StW m cq i).1.1.length = p) ∧ Hid (wr.ownsRow gO 3 1 ov p (intRow (castL (StW m cq i).1.1))) ∧ Hid (Mg 28 61 63 wr O gO 0 q' (StW m cq i).1.2 r (StW m cq i).2) ∧ Hid (Below gO W14 wr) ∧ O < wr.heap.size) (fun _ iv _ => S - (intOf iv).toNat)
      case atStart => exact ⟨0, 1, 0, 0, by omega, rfl, by omega, by omega, by omega, HP0, HOD14, HMG14, hide (Below.refl _ _), hz14⟩
      case round =>
       clear HOD14 HMG14 hz14 HP0
       obtain ⟨i, p, q', r, hip, rfl, hq', hri, hpS', HPL, HOD, HMG, HBK, hzr⟩ := hrel
       obtain ⟨A17, c17, hu17, _, _⟩ := own_value HOD.out
       subst hu17
       by_cases hlt : i < p
       ·
        obtain ⟨v, hv⟩ : ∃ v, (StW m cq i).1.1[i]? = some v := ⟨_, List.getElem?_eq_getElem (by rw [HPL.out]; exact hlt)⟩
        have hvS : v < S := HFI.out.rng i v (List.mem_of_getElem? hv)
        have HNX := hide (stB_next hv)
        have HV := hide hv
        have HVM := hide (List.mem_of_getElem? hv)
        have HPR := hide (show ∀ st : List Nat × List Arc, ∀ p, (∃ k, (bfsRow i p st).1 = st.1 ++ k) from fun st p => bfsRow_pre i p st)
        have HOD0 := hide (show wr.ownsRow gO 3 1 (.slice A17 p c17) (bfsRow i (stpJ (lsM m) (rowM m v) cq 0) (StW m cq i).1).1.length (intRow (castL (bfsRow i (stpJ (lsM m) (rowM m v) cq 0) (StW m cq i).1).1)) by
         have h := HOD.out
         rw [stpJ_zero]
         show wr.ownsRow gO 3 1 _ (StW m cq i).1.1.length _
         rw [HPL.out]
         exact h)
        have HMG0 := hide (show Mg 28 61 63 wr O gO 0 q' (bfsRow i (stpJ (lsM m) (rowM m v) cq 0) (StW m cq i).1).2 r (StW m cq i).2 from HMG.out)
        obtain ⟨W15, hW15⟩ : ∃ z, z = wr := ⟨_, rfl⟩
        rw [← hW15] at HOD0 HMG0 HBK hzr ⊢
        clear hW15 hv HOD HMG
        go_upto_region 46 with fail
        go_loopw [17, 150] (fun ov jv wr => ∃ (j p q1 : Nat), j ≤ q ∧ jv = .int .i64 (j : Int) ∧ q1 ≤ 2000 * i + j ∧ p ≤ S ∧ Hid ((bfsRow i (stpJ (lsM m) (rowM m v) cq j) (StW m cq i).1).1.length = p) ∧ Hid (wr.ownsRow gO 3 1 ov p (intRow (castL (bfsRow i (stpJ (lsM m) (rowM m v) cq j) (StW m cq i).1).1))) ∧ Hid (Mg 28 61 63 wr O gO 0 q1 (bfsRow i (stpJ (lsM m) (rowM m v) cq j) (StW m cq i).1).2 r (StW m cq i).2) ∧ Hid (Below gO W14 wr) ∧ O < wr.heap.size) (fun _ jv _ => q - (intOf jv).toNat)
        case atStart => exact ⟨0, p, q', by omega, rfl, by omega, hpS', HPL, hide (by have h := HOD0.out; rw [show (bfsRow i (stpJ (lsM m) (rowM m v) cq 0) (StW m cq i).1).1.length = p from HPL.out] at h; exact h), HMG0, HBK, hzr⟩
        case round =>
         clear HOD0 HMG0 hzr HBK
         obtain ⟨j, p', q1, hj, rfl, hq1, hpS2, HPL', HOD, HMG, HBK, hzr⟩ := hrel
         have HB20 := hide (HB74.out.trans (HBK.out.mono (by omega)))
         obtain ⟨ST, hST⟩ : ∃ z, z = bfsRow i (stpJ (lsM m) (rowM m v) cq j) (StW m cq i).1 := ⟨_, rfl⟩
         have HSV := hide (show ST.1[i]? = some v by
          obtain ⟨k, hk⟩ := bfsRow_pre i (stpJ (lsM m) (rowM m v) cq j) (StW m cq i).1
          rw [hST, hk, List.getElem?_append_left (by rw [HPL.out]; exact hlt)]
          exact HV.out)
         have HND := hide (show ST.1.Nodup by rw [hST]; exact bfsRow_nodup _ _ _ (stB_nodup i))
         have HSR := hide (show ∀ z ∈ ST.1, z < S by rw [hST]; exact bfsRow_all (P := fun z => z < S) (HFI.out.rng i) (HFI.out.steps hvS))
         have hip' : i < p' := by
          have h := (List.getElem?_eq_some_iff.1 HSV.out).1
          rw [hST, HPL'.out] at h
          exact h
         rw [← hST] at HPL' HOD HMG
         by_cases hjq : j < q
         ·
          obtain ⟨ALv, nLv, cLv, hLv, HLv1, hLv2, hLv3, hLv4⟩ := HNL14.out
          simp only [Value.slice.injEq] at hLv
          obtain ⟨rfl, rfl, rfl⟩ := hLv
          obtain ⟨b3, o3, x, rfl, hb3, d3, HXL⟩ := num_at (hLv4.below HBK.out (by omega)) hjq
          obtain ⟨b1, o1, A2, n2, c2, r2, rfl, hb1, d1, HR2, HL2, hc2, hn2b, hrd2⟩ := row_at (HRR14.out.below HBK.out (by omega)) hvS
          have hr2 : r2 = rowM m v := by rw [← HR2.out, HROW.out v hvS]
          have hn2 : n2 = q := by rw [← HL2.out, hr2, HT.out.len v hvS, HQ.out]
          subst hn2
          obtain ⟨b2, o2, t, rfl, hb2, d2, HTX⟩ := num_at hrd2 hjq
          have lb1 : b1 < wr.heap.size := by omega
          have lb2 : b2 < wr.heap.size := by omega
          have lb3 : b3 < wr.heap.size := by omega
          have hjr : j < r2.length := by rw [HL2.out]; exact hjq
          have HSJ := hide (show stpJ (lsM m) (rowM m v) cq (j + 1) = stpJ (lsM m) (rowM m v) cq j ++ if 0 ≤ t then [(x, cq t.toNat)] else [] from stpJ_next (getD_at (by rw [HQ.out]; exact hjq) HXL.out) (by rw [← hr2]; exact getD_at hjr HTX.out))
          have htS : t < (S : Int) := HT.out.rng v hvS t (by rw [← hr2, ← HTX.out]; simp [List.getD, hjr])
          obtain ⟨gD, cD, rfl, hgD1, hgD2⟩ := HOD.out.form (by omega)
          have cO := HOD.out.cellAt i (by omega)
          rw [show (intRow (castL ST.1))[i]? = some (.int .i64 ((v : Nat) : Int)) by unfold intRow castL; rw [List.getElem?_map, List.getElem?_map, HSV.out]; rfl] at cO
          obtain ⟨_, _, hgv2, hpc, _⟩ := own_value HOD.out
          have hpc : p' ≤ cD := by injection hgv2 with _ _ e3 <;> omega
          clear hr2 hjr HXL HTX hrd2 hLv4 hgv2
          by_cases ht0 : 0 ≤ t
          ·
           have t2 : decide (t < 0) = false := decide_eq_false (by omega)
           obtain ⟨cc, hcc⟩ : ∃ z, z = cq t.toNat := ⟨_, rfl⟩
           have hcS : cc < S := by rw [hcc]; exact HFI.out.low _ (by omega)
           have HSN := hide (show bfsRow i (stpJ (lsM m) (rowM m v) cq (j + 1)) (StW m cq i).1 = (addL ST.1 cc, ST.2 ++ [⟨(i : Int), (((addL ST.1 cc).idxOf cc : Nat) : Int), x, x, 0⟩]) by
            rw [HSJ.out, if_pos ht0, ← hcc, bfsRow_one, ← hST])
           have HSK := hide (show (addL ST.1 cc).length ≤ S from nodup_len (addL_nodup HND.out) (fun z hz => by
            rcases addL_mem.1 hz with hz | rfl
            · exact HSR.out z hz
            · exact hcS))
           have HRLK := hide (HRL14.out.of_block (HBK.out.block gL hLO))
           have HCC := hide hcc
           obtain ⟨W16, hW16⟩ : ∃ z, z = wr := ⟨_, rfl⟩
           rw [← hW16] at HOD HMG HBK hzr cO d1 d2 d3 lb1 lb2 lb3 HRLK HB20 hgD2 ⊢
           clear hW16 hcc hST
           go_upto_region 52 with fail
           go_loopw [23, 169] (fun av tv wr => ∃ (k : Nat), k ≤ p' ∧ av = .int .i64 (atF ST.1 cc k) ∧ tv = .int .i64 (k : Int) ∧ wr = W16) (fun _ tv _ => p' - (intOf tv).toNat)
           case atStart => exact ⟨0, by omega, by rw [atF_zero], rfl, rfl⟩
           case round =>
            obtain ⟨k, hk, rfl, rfl, hwr⟩ := hrel
            have HW := hide hwr
            by_cases hkp : k < p'
            ·
             obtain ⟨u, hu⟩ : ∃ u, ST.1[k]? = some u := ⟨_, List.getElem?_eq_getElem (by rw [HPL'.out]; exact hkp)⟩
             have cK := HOD.out.cellAt k (by omega)
             rw [show (intRow (castL ST.1))[k]? = some (.int .i64 ((u : Nat) : Int)) by unfold intRow castL; rw [List.getElem?_map, List.getElem?_map, hu]; rfl] at cK
             have cC := HRLK.out.cell (show t.toNat < S by omega)
             rw [← HCC.out] at cC
             have lL := HRLK.out.lt
             have HAN := hide (atF_next HND.out (u := cc) hu)
             rw [← hwr] at cK cC lL hgD2
             clear hwr hu
             by_cases he : u = cc
             ·
              have HAE := hide (show atF ST.1 cc (k + 1) = (k : Int) by rw [HAN.out, if_pos he])
              have t3 : ((u : Int) == (cc : Int)) = true := by simp [he]
              subst he
              clear HAN
              go_wp2
              go_roundw
              case rel => exact ⟨k + 1, by omega, by rw [HAE.out], by go_num, HW.out⟩
              case measure => simp [intOf]; omega
             ·
              have HAE := hide (show atF ST.1 cc (k + 1) = atF ST.1 cc k by rw [HAN.out, if_neg he])
              have t3 : ((u : Int) == (cc : Int)) = false := by simp; omega
              clear HAN he
              go_wp2
              go_roundw
              case rel => exact ⟨k + 1, by omega, by rw [HAE.out], by go_num, HW.out⟩
              case measure => simp [intOf]; omega
            ·
             obtain rfl : p' = k := by omega
             have HAT := hide (show atF ST.1 cc p' = plc ST.1 cc from atF_end (by rw [HPL'.out]; exact Nat.le_refl _))
             rw [HAT.out]
             subst hwr
             clear HAT
             obtain ⟨pv, hpv⟩ : ∃ z, z = plc ST.1 cc := ⟨_, rfl⟩
             rw [← hpv]
             have HPV := hide hpv
             obtain ⟨bb, hbb⟩ : ∃ b : Bool, decide (pv < 0) = b := ⟨_, rfl⟩
             have HBB := hide hbb
             obtain ⟨ix, hix⟩ : ∃ z, z = (addL ST.1 cc).idxOf cc := ⟨_, rfl⟩
             rw [← hix] at HSN
             have HIX := hide hix
             have hrng0 := plc_rng ST.1 cc
             rw [← hpv] at hrng0
             clear hpv hix
             go_upto_if 183 with fail
             clear hbb
             go_cut [17, 23] from 184 to 192 (fun s17 s23 wx => s23 = .int .i64 (ix : Int) ∧ ∃ p2 : Nat, Hid ((addL ST.1 cc).length = p2) ∧ Hid (wx.ownsRow gO 3 1 s17 p2 (intRow (castL (addL ST.1 cc)))) ∧ Hid (Mg 28 61 63 wx O gO 0 q1 ST.2 r (StW m cq i).2) ∧ Hid (Below gO wr wx) ∧ O < wx.heap.size)
             case first =>
              cases bb
              ·
               have hm : cc ∈ ST.1 := by
                have h := of_decide_eq_false HBB.out
                rw [HPV.out, plc_neg] at h
                exact Classical.byContradiction h
               have HOL := hide (plc_old hm)
               have HPI := hide (show pv = (ix : Int) by rw [HPV.out, HIX.out, ← plc_at, HOL.out])
               clear hm
               go_wp2
               go_meet
               exact ⟨by rw [HPI.out], p', hide (by rw [HOL.out]; exact HPL'.out), hide (by rw [HOL.out]; exact HOD.out), HMG, hide (Below.refl _ _), hzr⟩
              ·
               have hm : cc ∉ ST.1 := by
                have h := of_decide_eq_true HBB.out
                rw [HPV.out, plc_neg] at h
                exact h
               have HAP := hide (show addL ST.1 cc = ST.1 ++ [cc] by unfold addL; rw [if_neg hm])
               have HPI := hide (show (p' : Int) = (ix : Int) by
                rw [HIX.out, HAP.out, List.idxOf_append, if_neg hm]
                have := HPL'.out
                simp; omega)
               have cC := HRLK.out.cell (show t.toNat < S by omega)
               rw [← HCC.out] at cC
               have lL := HRLK.out.lt
               clear hm
               go_wp2_with (at_builtin; refine wpList_append_own_at _ rfl (.tmp 186) (.tmp 191) 22 rfl gO 3 i0 _ 1 8 Try.underlying22 hi0 hz0 hz1 hz2 rfl (by omega) (.slice (some ⟨gD, 0, none⟩) p' cD) p' _ rfl (HOD.out.alloc _) ⟨wr.heap.size, 0, none⟩ 1 1 (intRow [(cc : Int)]) rfl (by rfl) (World.news_of_block (cs := (intRow [(cc : Int)]).toArray) (t := 3) (fr := (0, 0)) (Blk.at_ rfl)) (intRow_one _) (by simp only [maxLen]; omega) (by omega) (by simp <;> omega) ?_; intro v' w6 hown2 hg2 _ hat2)
               have hs6 := hg2.size
               simp at hs6
               have H2 := hide ((HMG.out.alloc _).own (HOD.out.alloc _) (by decide) (by decide) (by decide) hg2)
               have H3 := hide (((Below.refl gO wr).alloc (by omega) _).grown hg2 (by simp; omega) (fun z hz => (HOD.out.lt z hz).1))
               have H4 := hide hown2
               clear hown2 hg2 hat2
               go_meet
               exact ⟨by rw [HPI.out], p' + 1, hide (by rw [HAP.out, List.length_append, HPL'.out]; rfl), hide (by rw [HAP.out, castL_append, intRow_append]; exact H4.out), H2, H3, by omega⟩
             case rest =>
              obtain ⟨rfl, p2, HP2, HOD2, HMG2, HB22, hz22⟩ := hcut
              have HB23 := hide (HBK.out.trans HB22.out)
              obtain ⟨A5, c5, AF5, cf5, bO5, hown5, hfin5⟩ := HMG2.out
              have lO := bO5.lt
              have oc1 := bO5.cell 1
              have of1 := bO5.frozen 1
              simp at oc1
              have HBKO := hide bO5
              have HOWN := hide hown5
              have HFIN := hide hfin5
              have HLOW := hide (show ∀ z, (Value.slice A5 q1 c5).ownBlock = some z → gO ≤ z from fun z hz => (hown5.lt z hz).1)
              have hneO : (Value.slice A5 q1 c5).ownBlock ≠ some O := own_bne hown5 bO5 (by decide)
              have HN27 := hide (own_ne HOD2.out hown5 (by decide))
              have HNO := hide (own_bne HOD2.out bO5 (by decide))
              have hqb5 : q1 ≤ 800000 := by
               have h : 2000 * i ≤ 2000 * 200 := Nat.mul_le_mul_left _ (by omega)
               omega
              clear HMG2 bO5 hown5 hfin5 HOD HMG cO d1 d2 d3 lb1 lb2 lb3 hgD2
              go_wp2_with (at_builtin; refine wpList_append_own_at _ rfl (.tmp 194) (.tmp 200) 25 rfl gO 61 ia _ 5 40 Try.underlying25 ha0 ha1 ha2 ha3 rfl (by omega) (.slice A5 q1 c5) q1 _ rfl (HOWN.out.alloc _) ⟨wc.heap.size, 0, none⟩ 1 1 (arcRow [⟨(i : Int), (ix : Int), x, x, 0⟩]) rfl (by rfl) (World.news_of_block (cs := (arcRow [⟨(i : Int), (ix : Int), x, x, 0⟩]).toArray) (t := 61) (fr := (0, 0)) (Blk.at_ (by first | rfl | simp))) (arcRow_one _) (by simp only [maxLen]; omega) (by omega) (by simp <;> omega) ?_; intro v' w6 hown2 hg2 _ hat2; obtain ⟨Av, cv, rfl, hkcv, _⟩ := own_value hown2; have o1' := far_cell hg2 hneO (o := 1) (v := (.slice A5 q1 c5)) (by exact (HBKO.out.alloc _).cell 1); have bO6 := (HBKO.out.alloc _).grown hg2 (Ne.symm hneO); have of1' := bO6.frozen 1; have lO6 := bO6.lt)
              have hs6 := hg2.size
              simp at hs6
              have HNEW := hide (mg_pushA (HBKO.out.alloc _) (HOWN.out.alloc _) (HFIN.out.alloc _) (by decide) (by decide) (by decide) hg2 hown2)
              have HBN := hide (((HB23.out.alloc (by omega) _).grown hg2 (by simp <;> omega) (fun z hz => HLOW.out z hz)).setCell (p := ⟨O, 1, none⟩) (by show gO ≤ O; omega) (.slice Av (q1 + 1) cv))
              have hod6 := (HOD2.out.alloc _).kept hg2 HN27.out
              have HON := hide (ownsRow_setCell_other hod6 (a := ⟨O, 1, none⟩) HNO.out (.slice Av (q1 + 1) cv))
              have hp2S : p2 ≤ S := by rw [← HP2.out]; exact HSK.out
              clear hown2 hg2 hat2 bO6 hod6
              go_roundw
              case rel => exact ⟨j + 1, p2, q1 + 1, by omega, by go_num, by omega, hp2S, hide (by rw [HSN.out]; exact HP2.out), hide (by rw [HSN.out]; exact HON.out), hide (by rw [HSN.out]; exact HNEW.out), HBN, by simp [World.setCell]; omega⟩
              case measure => simp [intOf]; omega
          ·
           have t2 : decide (t < 0) = true := decide_eq_true (by omega)
           have HSN := hide (show stpJ (lsM m) (rowM m v) cq (j + 1) = stpJ (lsM m) (rowM m v) cq j by rw [HSJ.out, if_neg ht0, List.append_nil])
           rw [hST] at HPL' HOD HMG
           clear ht0 hST
           go_wp2
           go_roundw
           case rel => exact ⟨j + 1, p', q1, by omega, by go_num, by omega, hpS2, hide (by rw [HSN.out]; exact HPL'.out), hide (by rw [HSN.out]; exact HOD.out), hide (by rw [HSN.out]; exact HMG.out), HBK, hzr⟩
           case measure => simp [intOf]; omega
         ·
          obtain rfl : q = j := by omega
          obtain ⟨gD, cD, rfl, hgD1, hgD2⟩ := HOD.out.form (by omega)
          have cO := HOD.out.cellAt i (by omega)
          rw [show (intRow (castL ST.1))[i]? = some (.int .i64 ((v : Nat) : Int)) by unfold intRow castL; rw [List.getElem?_map, List.getElem?_map, HSV.out]; rfl] at cO
          obtain ⟨_, _, hgv2, hpc, _⟩ := own_value HOD.out
          have hpc : p' ≤ cD := by injection hgv2 with _ _ e3 <;> omega
          obtain ⟨fx, hfx⟩ : ∃ b : Bool, b = finM' m v := ⟨_, rfl⟩
          obtain ⟨SF, hSF⟩ : ∃ z, z = if fx = true then (StW m cq i).2 ++ [⟨(i : Int), 0⟩] else (StW m cq i).2 := ⟨_, rfl⟩
          have HSF := hide hSF
          have HST1 := hide (show StW m cq (i + 1) = (ST, SF) by
           have h := HNX.out
           rw [FwI.cst, HQ.out, ← hfx, ← hSF] at h
           rw [hST]
           exact h)
          obtain ⟨f1, hf1⟩ : ∃ z, z = finW m.fins (v : Int) := ⟨_, rfl⟩
          have HF1 := hide (show decide (0 ≤ f1) = fx by
           have h := HW0.out v
           rw [← hf1, ← hfx] at h
           cases fx
           · simp at h; simp; omega
           · simp at h; simp; omega)
          have bX := HX14.out.below HBK.out (by omega)
          have x0 := bX.cell 0
          have x1 := bX.cell 1
          have x2 := bX.cell 2
          simp at x0 x1 x2
          have lX := bX.lt
          have HMR := hide (HM14.out.below HBK.out (by omega))
          have HC1 := hide (fun (W : World) (hW : X ≤ W.heap.size) (h : MachAt W X (.agg #[.int .i64 (S : Int), .slice A n c, .slice AF nf cf]) m) => finw_any _ m (v : Int) W X hW h)
          rw [← hf1] at HC1
          obtain ⟨W16, hW16⟩ : ∃ z, z = wr := ⟨_, rfl⟩
          rw [← hW16] at HOD HMG HBK hzr cO x0 x1 x2 lX HMR hgD2 HB20 ⊢
          clear hW16 hf1 hfx hSF hST bX hgv2
          go_upto_region 62 with fail
          go_cut [210] from 204 to 210 (fun s210 wx => s210 = .bool fx ∧ Hid (Below W16.heap.size W16 wx))
          case first =>
           refine wp_mix (fun w' => w'.cell? ⟨X, 0, none⟩ = some (.int .i64 (S : Int)) ∧ w'.cell? ⟨X, 1, none⟩ = some (.slice A n c) ∧ w'.cell? ⟨X, 2, none⟩ = some (.slice AF nf cf) ∧ w'.cell? ⟨gD, i, none⟩ = some (.int .i64 (v : Int))) 5 [(0, false), (1, false), (2, false), (3, false), (4, false)] (by kernel_rfl) (by kernel_rfl) ?_ ?_
           · go_simp
           simp only [List.drop_succ_cons, List.drop_zero]
           repeat (refine mix_q (v := ?_) (by rfl) (by rfl) ?_ ?_; rotate_left; (focus (intro w' hC; (try dsimp only at hC); go_simp; (first | done | with_reducible rfl))); simp only [Act.put, List.setIfInBounds_toArray, List.set_cons_zero, List.set_cons_succ, List.getElem_toArray, List.getElem_cons_zero, List.getElem_cons_succ])
           refine mix_nil ?_; try simp only [Act.put, List.setIfInBounds_toArray, List.set_cons_zero, List.set_cons_succ, List.getElem_toArray, List.getElem_cons_zero, List.getElem_cons_succ]
           go_wp2_with fail
           refine (HC1.out _ (by simp; omega) (HMR.out.below ((Below.refl X W16).drew) (Nat.le_refl _))).mono ?_
           rintro e w8 ⟨rfl, hb8⟩
           have HB8 := hide (((Below.refl W16.heap.size W16).drew).trans (hb8.mono (by simp)))
           clear hb8
           go_wp2
           refine NoPanic.normal ?_
           go_wp2
           go_meet
           exact ⟨by rw [HF1.out], HB8⟩
          case rest =>
           obtain ⟨rfl, HB8⟩ := hcut
           have HOD8 := hide (own_blw HOD.out HB8.out)
           have HMG8 := hide (HMG.out.below HB8.out)
           have HBK8 := hide (HBK.out.trans (HB8.out.mono (by omega)))
           have hz8 : O < wc.heap.size := by have := HB8.out.size; omega
           obtain ⟨W17, hW17⟩ : ∃ z, z = wc := ⟨_, rfl⟩
           rw [← hW17] at HOD8 HMG8 HBK8 hz8 ⊢
           have HPN := hide (show (StW m cq (i + 1)).1.1.length = p' by rw [HST1.out]; exact HPL'.out)
           have hq1' : q1 ≤ 2000 * (i + 1) := by omega
           clear hW17 HOD HMG HBK hzr cO x0 x1 x2 lX HMR hgD2 HC1 HB8 HB20
           cases fx
           ·
            have HE := hide (show SF = (StW m cq i).2 by rw [HSF.out]; simp)
            go_wp2
            go_roundw
            case rel => exact ⟨i + 1, p', q1, r, by omega, by go_num, hq1', by omega, hpS2, HPN, hide (by rw [HST1.out]; exact HOD8.out), hide (by rw [HST1.out, HE.out]; exact HMG8.out), HBK8, hz8⟩
            case measure => simp [intOf]; omega
           ·
            have HE := hide (show SF = (StW m cq i).2 ++ [⟨(i : Int), 0⟩] by rw [HSF.out]; simp)
            obtain ⟨A5, c5, AF5, cf5, bO5, hown5, hfin5⟩ := HMG8.out
            have lO := bO5.lt
            have oc2 := bO5.cell 2
            have of2 := bO5.frozen 2
            simp at oc2
            have HBKO := hide bO5
            have HOWN := hide hown5
            have HFIN := hide hfin5
            have HLOW := hide (show ∀ z, (Value.slice AF5 r cf5).ownBlock = some z → gO ≤ z from fun z hz => (hfin5.lt z hz).1)
            have hneO : (Value.slice AF5 r cf5).ownBlock ≠ some O := own_bne hfin5 bO5 (by decide)
            have HN27 := hide (own_ne HOD8.out hfin5 (by decide))
            have HNO := hide (own_bne HOD8.out bO5 (by decide))
            clear HMG8 bO5 hown5 hfin5
            go_wp2_with (at_builtin; refine wpList_append_own_at _ rfl (.tmp 212) (.tmp 215) 26 rfl gO 63 iF _ 2 16 Try.underlying26 hF0 hF1 hF2 hF3 rfl (by omega) (.slice AF5 r cf5) r _ rfl (HFIN.out.alloc _) ⟨W17.heap.size, 0, none⟩ 1 1 (finRow [⟨(i : Int), 0⟩]) rfl (by rfl) (World.news_of_block (cs := (finRow [⟨(i : Int), 0⟩]).toArray) (t := 63) (fr := (0, 0)) (Blk.at_ (by first | rfl | simp))) (finRow_one _) (by simp only [maxLen]; omega) (by omega) (by simp <;> omega) ?_; intro v' w6 hown2 hg2 _ hat2; obtain ⟨Av, cv, rfl, hkcv, _⟩ := own_value hown2; have o2' := far_cell hg2 hneO (o := 2) (v := (.slice AF5 r cf5)) (by exact (HBKO.out.alloc _).cell 2); have bO6 := (HBKO.out.alloc _).grown hg2 (Ne.symm hneO); have of2' := bO6.frozen 2; have lO6 := bO6.lt)
            have hs6 := hg2.size
            simp at hs6
            have HNEW := hide (mg_pushF (HBKO.out.alloc _) (HOWN.out.alloc _) (HFIN.out.alloc _) (by decide) (by decide) (by decide) hg2 hown2)
            have HBN := hide (((HBK8.out.alloc (by omega) _).grown hg2 (by simp <;> omega) (fun z hz => HLOW.out z hz)).setCell (p := ⟨O, 2, none⟩) (by show gO ≤ O; omega) (.slice Av (r + 1) cv))
            have hod6 := (HOD8.out.alloc _).kept hg2 HN27.out
            have HON := hide (ownsRow_setCell_other hod6 (a := ⟨O, 2, none⟩) HNO.out (.slice Av (r + 1) cv))
            clear hown2 hg2 hat2 bO6 hod6
            go_roundw
            case rel => exact ⟨i + 1, p', q1, r + 1, by omega, by go_num, hq1', by omega, hpS2, HPN, hide (by rw [HST1.out]; exact HON.out), hide (by rw [HST1.out, HE.out]; exact HNEW.out), HBN, by simp [World.setCell]; omega⟩
            case measure => simp [intOf]; omega
       ·
        obtain rfl : p = i := by omega
        have HDN := hide (HFI.out.done (i := p) hpS' (by rw [HPL.out]; exact Nat.le_refl _))
        have hpl := HPL.out
        rw [hpl] at HDN
        obtain ⟨A5, c5, AF5, cf5, bO5, hown5, hfin5⟩ := HMG.out
        have bR := HR14.out.below HBK.out (by omega)
        have HBW9 := hide (HBW14.out.trans (HBK.out.mono (by omega)))
        have HNO := hide (own_bne hown5 bO5 (by decide))
        have HNF := hide (own_bne hfin5 bO5 (by decide))
        have o0 := bO5.cell 0
        have o1 := bO5.cell 1
        have o2 := bO5.cell 2
        have of0 := bO5.frozen 0
        have q0 := bR.cell 0
        have q1' := bR.cell 1
        have q2 := bR.cell 2
        have qf := bR.frozen 0
        have qf1 := bR.frozen 1
        have qf2 := bR.frozen 2
        simp at o0 o1 o2 q0 q1' q2
        have lR := bR.lt
        have lO := bO5.lt
        have hOw2 : X + 1 ≠ O := by omega
        have hOw4 : O ≠ X + 1 := by omega
        have hwg1 : X + 1 < gO := by omega
        have HA9 := hide (ownsRow_setCell_below (ownsRow_setCell_below (ownsRow_setCell_below (ownsRow_setCell_other hown5 (a := ⟨O, 0, none⟩) HNO.out (.int .i64 (p : Int))) (a := ⟨X + 1, 0, none⟩) hwg1 (.int .i64 (p : Int))) (a := ⟨X + 1, 1, none⟩) hwg1 (.slice A5 q' c5)) (a := ⟨X + 1, 2, none⟩) hwg1 (.slice AF5 r cf5))
        have HF9 := hide (ownsRow_setCell_below (ownsRow_setCell_below (ownsRow_setCell_below (ownsRow_setCell_other hfin5 (a := ⟨O, 0, none⟩) HNF.out (.int .i64 (p : Int))) (a := ⟨X + 1, 0, none⟩) hwg1 (.int .i64 (p : Int))) (a := ⟨X + 1, 1, none⟩) hwg1 (.slice A5 q' c5)) (a := ⟨X + 1, 2, none⟩) hwg1 (.slice AF5 r cf5))
        have HBF := hide ((((HBW9.out.setCell (p := ⟨O, 0, none⟩) (by show X ≤ O; omega) (.int .i64 (p : Int))).setCell (p := ⟨X + 1, 0, none⟩) (by exact Nat.le_succ _) (.int .i64 (p : Int))).setCell (p := ⟨X + 1, 1, none⟩) (by exact Nat.le_succ _) (.slice A5 q' c5)).setCell (p := ⟨X + 1, 2, none⟩) (by exact Nat.le_succ _) (.slice AF5 r cf5))
        have hqL := own_lenA hown5
        have hrL := own_lenF hfin5
        obtain ⟨LA, hLA⟩ : ∃ z, z = (StW m cq p).1.2 := ⟨_, rfl⟩
        obtain ⟨LF, hLF⟩ : ∃ z, z = (StW m cq p).2 := ⟨_, rfl⟩
        rw [← hLA] at hqL HA9 HDN
        rw [← hLF] at hrL HF9 HDN
        have HQL := hide hqL
        have HRL9 := hide hrL
        have hqb5 : q' ≤ 800000 := by
         have h : 2000 * p ≤ 2000 * 200 := Nat.mul_le_mul_left _ (by omega)
         omega
        clear bR bO5 hown5 hfin5 HMG HOD hpl hqL hrL hLA hLF
        go_wp21
        refine bodyPost_ret (v := .agg #[.int .i64 (p : Int), .slice A5 q' c5, .slice AF5 r cf5]) (by simp [results, Try.results19, go_sem, lR, hOw2, hOw4, q0, q1', q2, qf, qf1, qf2]) rfl ?_
        rw [HDN.out, ← HXW.out]
        refine ⟨_, rfl, ?_, HBF.out⟩
        have hbq : q' ≤ big := by unfold big; omega
        have hbr : r ≤ big := by unfold big; omega
        have hwl : X ≤ gO := by omega
        have HA8 := HA9.out
        have HF8 := HF9.out
        obtain ⟨_, _, e1, k1, _⟩ := own_value HA8
        obtain ⟨_, _, e2, k2, _⟩ := own_value HF8
        injection e1 with _ _ e1
        injection e2 with _ _ e2
        subst e1 e2
        have hq9 := HQL.out
        have hr9 := HRL9.out
        subst hq9 hr9
        exact MachNew.of_own (m := ⟨(p : Int), LA, LF⟩) (base := gO) (b2 := gO) HA8 HF8 hwl hwl k1 k2 hbq hbr
   ·
    have HAI0 := hide (show ApI (lsM m) (rowM m) (finM' m) S T T false (0 * S) by rw [Nat.zero_mul]; exact ApI.start HSND.out)
    have HOF1 := hide (show offN T SS + 1 ≤ gk from HOF.out)
    clear HFIN HOF HSND
    obtain ⟨W5, hW5⟩ : ∃ z, z = wr := ⟨_, rfl⟩
    rw [← hW5] at HRA HBK hzr ⊢
    clear hW5
    go_upto_region 11 with fail
    go_loopw [7, 42] (fun av iv wr => ∃ (T' : Nat → Bool) (ag : Bool) (p : Nat), p ≤ S ∧ av = .bool ag ∧ iv = .int .i64 (p : Int) ∧ Hid (wr.rowIs gA 4 SS (fun i => .bool (T' i))) ∧ Hid (ApI (lsM m) (rowM m) (finM' m) S T T' ag (p * S)) ∧ Hid (Below gA W4 wr) ∧ gA < wr.heap.size) (fun _ iv _ => S - (intOf iv).toNat)
    case atStart => exact ⟨T, false, 0, by omega, rfl, rfl, HRA, HAI0, HBK, hzr⟩
    case round =>
     clear HRA HAI0 hzr
     obtain ⟨T', ag, p, hp, rfl, rfl, HRA, HAI, HBK', hzr⟩ := hrel
     by_cases hpS : p < S
     ·
      obtain ⟨PS, hPS⟩ : ∃ z, z = p * S := ⟨_, rfl⟩
      have hPSI : (p : Int) * (S : Int) = (PS : Int) := by rw [hPS]; push_cast; rfl
      have hPSb : PS + S ≤ SS := by
       have h1 := Nat.mul_le_mul_right S (show p + 1 ≤ S by omega)
       rw [Nat.succ_mul] at h1
       rw [hPS, HSQ.out]
       exact h1
      have HAI1 := hide (show ApI (lsM m) (rowM m) (finM' m) S T T' ag (PS + 0) by rw [hPS]; exact HAI.out)
      have HPS := hide hPS
      obtain ⟨W6, hW6⟩ : ∃ z, z = wr := ⟨_, rfl⟩
      rw [← hW6] at HRA HBK' hzr ⊢
      clear hW6 HAI hPS
      go_upto_region 14 with fail
      go_loopw [7, 46] (fun av iv wr => ∃ (T' : Nat → Bool) (ag : Bool) (j : Nat), j ≤ S ∧ av = .bool ag ∧ iv = .int .i64 (j : Int) ∧ Hid (wr.rowIs gA 4 SS (fun i => .bool (T' i))) ∧ Hid (ApI (lsM m) (rowM m) (finM' m) S T T' ag (PS + j)) ∧ Hid (Below gA W4 wr) ∧ gA < wr.heap.size) (fun _ iv _ => S - (intOf iv).toNat)
      case atStart => exact ⟨T', ag, 0, by omega, rfl, rfl, HRA, HAI1, HBK', hzr⟩
      case round =>
       clear HRA HAI1 HBK' hzr
       obtain ⟨T', ag, j, hj, rfl, rfl, HRA, HAI, HBK', hzr⟩ := hrel
       by_cases hjS : j < S
       ·
        have cA := HRA.out.cell (show PS + j < SS by omega)
        have fA := HRA.out.frozen (PS + j)
        cases hTj : T' (PS + j)
        ·
         rw [hTj] at cA
         have HTJ := hide hTj
         have bX := HX4.out.below HBK'.out (by omega)
         have x0 := bX.cell 0
         have x1 := bX.cell 1
         have x2 := bX.cell 2
         simp at x0 x1 x2
         have lX := bX.lt
         have HMR := hide ((HM4.out.below HBK'.out (by omega)).mono (show B ≤ X by omega))
         obtain ⟨f1, hf1⟩ : ∃ z, z = finW m.fins (p : Int) := ⟨_, rfl⟩
         obtain ⟨f2, hf2⟩ : ∃ z, z = finW m.fins (j : Int) := ⟨_, rfl⟩
         obtain ⟨d0, hd0⟩ : ∃ b : Bool, b = diffJ (rowM m) (finM' m) S T' p j 0 := ⟨_, rfl⟩
         have HD0 := hide (show (!(decide (f1 < 0) == decide (f2 < 0))) = d0 by
          rw [hd0, diffJ_zero, hf1, hf2, HW0.out p, HW0.out j]
          cases finM' m p <;> cases finM' m j <;> rfl)
         have HD0' := hide hd0
         have HC1 := hide (fun (W : World) (hW : X ≤ W.heap.size) (h : MachAt W X (.agg #[.int .i64 (S : Int), .slice A n c, .slice AF nf cf]) m) => finw_any _ m (p : Int) W X hW h)
         have HC2 := hide (fun (W : World) (hW : X ≤ W.heap.size) (h : MachAt W X (.agg #[.int .i64 (S : Int), .slice A n c, .slice AF nf cf]) m) => finw_any _ m (j : Int) W X hW h)
         rw [← hf1] at HC1
         rw [← hf2] at HC2
         clear hTj hf1 hf2 hd0 bX
         obtain ⟨W7, hW7⟩ : ∃ z, z = wr := ⟨_, rfl⟩
         rw [← hW7] at HRA HBK' hzr cA fA x0 x1 x2 lX HMR ⊢
         clear hW7
         go_upto_region 17 with fail
         go_cut [10] from 57 to 65 (fun s10 wx => s10 = .bool d0 ∧ Hid (Below gA W7 wx) ∧ Hid (wx.rowIs gA 4 SS (fun i => .bool (T' i))))
         case first =>
          refine wp_mix (fun w' => w'.cell? ⟨X, 0, none⟩ = some (.int .i64 (S : Int)) ∧ w'.cell? ⟨X, 1, none⟩ = some (.slice A n c) ∧ w'.cell? ⟨X, 2, none⟩ = some (.slice AF nf cf)) 8 [(0, false), (1, false), (4, false), (5, false), (2, true), (3, false), (6, true), (7, false)] (by kernel_rfl) (by kernel_rfl) ?_ ?_
          · go_simp
          simp only [List.drop_succ_cons, List.drop_zero]
          repeat (refine mix_q (v := ?_) (by rfl) (by rfl) ?_ ?_; rotate_left; (focus (intro w' hC; (try dsimp only at hC); go_simp; (first | done | with_reducible rfl))); simp only [Act.put, List.setIfInBounds_toArray, List.set_cons_zero, List.set_cons_succ, List.getElem_toArray, List.getElem_cons_zero, List.getElem_cons_succ])
          refine mix_l (by rfl) (by rfl) (fun K hK => ?_)
          go_simp
          refine (HC1.out _ (by simp; omega) (HMR.out.below ((Below.refl X W7).drew) (Nat.le_refl _))).mono ?_
          rintro e w8 ⟨rfl, hb8⟩
          have hb8' : Below W7.heap.size W7 w8 := ((Below.refl W7.heap.size W7).drew).trans (hb8.mono (by simp))
          have y0 := keep_cell hb8' x0 lX
          have y1 := keep_cell hb8' x1 lX
          have y2 := keep_cell hb8' x2 lX
          have lX8 : X < w8.heap.size := by have := hb8'.size; omega
          have HB8 := hide hb8'
          clear hb8 hb8'
          refine hK _ _ ⟨y0, y1, y2⟩ ?_
          clear hK K
          repeat (refine mix_q (v := ?_) (by rfl) (by rfl) ?_ ?_; rotate_left; (focus (intro w' hC; (try dsimp only at hC); go_simp; (first | done | with_reducible rfl))); simp only [Act.put, List.setIfInBounds_toArray, List.set_cons_zero, List.set_cons_succ, List.getElem_toArray, List.getElem_cons_zero, List.getElem_cons_succ])
          refine mix_l (by rfl) (by rfl) (fun K hK => ?_)
          go_simp
          refine (HC2.out _ (by omega) (HMR.out.below HB8.out (by omega))).mono ?_
          rintro e w9 ⟨rfl, hb9⟩
          have z0 := keep_cell hb9 y0 lX8
          have z1 := keep_cell hb9 y1 lX8
          have z2 := keep_cell hb9 y2 lX8
          have HB9 := hide (HB8.out.trans (hb9.mono (by have := HB8.out.size; omega)))
          clear hb9
          refine hK _ _ ⟨z0, z1, z2⟩ ?_
          clear hK K
          repeat (refine mix_q (v := ?_) (by rfl) (by rfl) ?_ ?_; rotate_left; (focus (intro w' hC; (try dsimp only at hC); go_simp; (first | done | with_reducible rfl))); simp only [Act.put, List.setIfInBounds_toArray, List.set_cons_zero, List.set_cons_succ, List.getElem_toArray, List.getElem_cons_zero, List.getElem_cons_succ])
          refine mix_nil ?_; try simp only [Act.put, List.setIfInBounds_toArray, List.set_cons_zero, List.set_cons_succ, List.getElem_toArray, List.getElem_cons_zero, List.getElem_cons_succ]
          go_wp2
          refine NoPanic.normal ?_
          go_wp2
          go_meet
          exact ⟨by rw [HD0.out], hide (HB9.out.mono (by omega)), hide (HRA.out.of_block (HB9.out.block gA (by omega)))⟩
         case rest =>
          obtain ⟨rfl, HBC, HRA2⟩ := hcut
          have HBW8 := hide (HBK'.out.trans HBC.out)
          have hz8 : gA < wc.heap.size := HRA2.out.lt
          obtain ⟨W8, hW8⟩ : ∃ z, z = wc := ⟨_, rfl⟩
          rw [← hW8] at HRA2 HBW8 hz8 ⊢
          clear hW8 HRA HBC cA fA x0 x1 x2 lX HMR HBK' hzr HD0 HC1 HC2
          go_upto_region 19 with fail
          go_loopw [10, 68] (fun dv kv wr => ∃ (k : Nat), k ≤ q ∧ dv = .bool (diffJ (rowM m) (finM' m) S T' p j k) ∧ kv = .int .i64 (k : Int) ∧ Hid (Below W8.heap.size W8 wr)) (fun _ kv _ => q - (intOf kv).toNat)
          case atStart => exact ⟨0, by omega, by rw [HD0'.out], rfl, hide (Below.refl _ _)⟩
          case round =>
           obtain ⟨k, hk, rfl, rfl, HB9⟩ := hrel
           have HRA3 := hide (HRA2.out.of_block (HB9.out.block gA hz8))
           have hz9 : gA < wr.heap.size := HRA3.out.lt
           by_cases hkq : k < q
           ·
            have HB10 := hide (HBW8.out.trans (HB9.out.mono (by omega)))
            have HRL := hide (HRR4.out.below HB10.out (Nat.le_refl _))
            obtain ⟨b1, o1, A1, n1, c1, r1, rfl, hb1, d1, HR1, HL1, hc1, hn1b, hrd1⟩ := row_at HRL.out hpS
            obtain ⟨b2, o2, A2, n2, c2, r2, hA2, hb2, d2, HR2', HL2, hc2, hn2b, hrd2⟩ := row_at HRL.out hjS
            simp only [Option.some.injEq, Addr.mk.injEq, and_true] at hA2
            obtain ⟨rfl, rfl⟩ := hA2
            have hr1 : r1 = rowM m p := by rw [← HR1.out, HROW.out p hpS]
            have hr2 : r2 = rowM m j := by rw [← HR2'.out, HROW.out j hjS]
            have hn1 : n1 = q := by rw [← HL1.out, hr1, HT.out.len p hpS, HQ.out]
            have hn2 : n2 = q := by rw [← HL2.out, hr2, HT.out.len j hjS, HQ.out]
            subst hn1
            subst hn2
            obtain ⟨b3, o3, y1, rfl, hb3, e1, HY1⟩ := num_at hrd1 hkq
            obtain ⟨b4, o4, y2, rfl, hb4, e2, HY2⟩ := num_at hrd2 hkq
            have lb1 : b1 < wr.heap.size := by omega
            have lb3 : b3 < wr.heap.size := by omega
            have lb4 : b4 < wr.heap.size := by omega
            have HDN := hide (show diffJ (rowM m) (finM' m) S T' p j (k + 1) = (diffJ (rowM m) (finM' m) S T' p j k || difB T' S y1 y2) by
             rw [diffJ_next, ← hr1, ← hr2, HY1.out, HY2.out])
            have hy1 : y1 < (S : Int) := HT.out.rng p hpS y1 (by rw [← hr1, ← HY1.out]; simp [List.getD, show k < r1.length by rw [HL1.out]; exact hkq])
            have hy2 : y2 < (S : Int) := HT.out.rng j hjS y2 (by rw [← hr2, ← HY2.out]; simp [List.getD, show k < r2.length by rw [HL2.out]; exact hkq])
            obtain ⟨dk, hdk⟩ : ∃ b : Bool, b = diffJ (rowM m) (finM' m) S T' p j k := ⟨_, rfl⟩
            rw [← hdk] at HDN ⊢
            obtain ⟨db, hdb⟩ : ∃ b : Bool, b = difB T' S y1 y2 := ⟨_, rfl⟩
            rw [← hdb] at HDN
            have HDB := hide hdb
            clear hr1 hr2 HY1 HY2 HR1 HR2' hdk hdb hrd1 hrd2
            go_upto_region 21 with fail
            go_cut [12, 13] from 71 to 84 (fun s12 s13 wx => s12 = .int .i64 y1 ∧ s13 = .int .i64 y2 ∧ wx = wr.drew)
            case first =>
             go_region
             go_wp2
             go_meet
             exact ⟨rfl, rfl, rfl⟩
            case rest =>
             obtain ⟨rfl, rfl, hwc⟩ := hcut
             subst hwc
             have HRA4 := hide (HRA3.out.drew)
             obtain ⟨W10, hW10⟩ : ∃ z, z = wr.drew := ⟨_, rfl⟩
             rw [← hW10] at HRA4 ⊢
             have HB11 := hide (show Below W8.heap.size W8 W10 by rw [hW10]; exact HB9.out.drew)
             clear hW10 d1 d2 e1 e2 lb1 lb3 lb4
             go_upto_region 22 with fail
             go_cut [103] from 85 to 103 (fun s103 wx => s103 = .bool db ∧ wx = W10)
             case first =>
              have hd := HDB.out
              unfold difB at hd
              by_cases hy10 : 0 ≤ y1
              ·
               have t2 : decide (y1 < 0) = false := decide_eq_false (by omega)
               have t3 : decide (y1 ≥ 0) = true := decide_eq_true hy10
               have t3' : decide (0 ≤ y1) = true := decide_eq_true hy10
               by_cases hy20 : 0 ≤ y2
               ·
                have t4 : decide (y2 < 0) = false := decide_eq_false (by omega)
                obtain ⟨P1, hP1⟩ : ∃ z, z = y1.toNat * S := ⟨_, rfl⟩
                have hP1I : y1 * (S : Int) = (P1 : Int) := by rw [hP1]; push_cast; rw [Int.toNat_of_nonneg hy10]
                have hP1b : P1 + y2.toNat < SS := by rw [hP1, HSQ.out]; exact pair_lt (by omega) (by omega)
                rw [← hP1] at hd
                have cA := HRA4.out.cell hP1b
                have lA := HRA4.out.lt
                obtain ⟨Z, hZ⟩ : ∃ Z : Nat, Z = y2.toNat := ⟨_, rfl⟩
                have hZ' : y2 = (Z : Int) := by omega
                rw [← hZ] at cA hd hP1b
                subst hZ'
                have hb : db = T' (P1 + Z) := by rw [hd, t2, t4, t3']; simp
                subst hb
                clear hd hP1 hZ HDB
                go_wp2
                go_meet
                exact ⟨rfl, rfl⟩
               ·
                have t4 : decide (y2 < 0) = true := decide_eq_true (by omega)
                have hb : db = true := by rw [hd, t2, t4]; simp
                subst hb
                clear hd HDB
                go_wp2
                go_meet
                exact ⟨rfl, rfl⟩
              ·
               have t2 : decide (y1 < 0) = true := decide_eq_true (by omega)
               have t3 : decide (y1 ≥ 0) = false := decide_eq_false hy10
               have t3' : decide (0 ≤ y1) = false := decide_eq_false hy10
               by_cases hy20 : 0 ≤ y2
               ·
                have t4 : decide (y2 < 0) = false := decide_eq_false (by omega)
                have hb : db = true := by rw [hd, t2, t4]; simp
                subst hb
                clear hd HDB
                go_wp2
                go_meet
                exact ⟨rfl, rfl⟩
               ·
                have t4 : decide (y2 < 0) = true := decide_eq_true (by omega)
                have hb : db = false := by rw [hd, t2, t4, t3']; simp
                subst hb
                clear hd HDB
                go_wp2
                go_meet
                exact ⟨rfl, rfl⟩
             case rest =>
              obtain ⟨rfl, hwc⟩ := hcut
              subst hwc
              cases db
              ·
               have HDN2 := hide (show diffJ (rowM m) (finM' m) S T' p j (k + 1) = dk by rw [HDN.out]; simp)
               go_wp2
               go_roundw
               case rel => exact ⟨k + 1, by omega, by rw [HDN2.out], by go_num, HB11⟩
               case measure => simp [intOf]; omega
              ·
               have HDN2 := hide (show diffJ (rowM m) (finM' m) S T' p j (k + 1) = true by rw [HDN.out]; simp)
               go_wp2
               go_roundw
               case rel => exact ⟨k + 1, by omega, by rw [HDN2.out], by go_num, HB11⟩
               case measure => simp [intOf]; omega
           ·
            obtain rfl : q = k := by omega
            have HDI := hide (diffJ_iff (row := rowM m) (fin := finM' m) (n := S) (A := T') (p := p) (q := j) (k := q) (by rw [HT.out.len p hpS, HQ.out]) (by rw [HT.out.len j hjS, HQ.out]))
            have HB10 := hide (HBW8.out.trans (HB9.out.mono (by omega)))
            obtain ⟨dk, hdk⟩ : ∃ b : Bool, b = diffJ (rowM m) (finM' m) S T' p j q := ⟨_, rfl⟩
            rw [← hdk] at HDI ⊢
            have HPJ := hide (show PS + j = p * S + j by rw [HPS.out])
            have cA := HRA3.out.cell (show PS + j < SS by omega)
            have fA := HRA3.out.frozen (PS + j)
            have lA := HRA3.out.lt
            clear hdk HRA2
            cases dk
            ·
             have HAN := hide (show ApI (lsM m) (rowM m) (finM' m) S T T' ag (PS + (j + 1)) by
              have h := HAI.out
              rw [HPJ.out] at h
              rw [← Nat.add_assoc, HPJ.out]
              exact h.same hjS (fun hd => by have := HDI.out.2 hd; cases this))
             go_wp2
             go_roundw
             case rel => exact ⟨T', ag, j + 1, by omega, rfl, by go_num, HRA3, HAN, HB10, by omega⟩
             case measure => simp [intOf]; omega
            ·
             have HAN := hide (show ApI (lsM m) (rowM m) (finM' m) S T (upd T' (PS + j)) true (PS + (j + 1)) by
              have h := HAI.out
              have hf := HTJ.out
              rw [HPJ.out] at h hf
              rw [← Nat.add_assoc, HPJ.out]
              exact h.mark HT.out hpS hjS hf (HDI.out.1 rfl))
             have HRN := hide ((HRA3.out.set (PS + j) (.bool true)).congr (g := fun i => .bool (upd T' (PS + j) i)) (fun i _ => by unfold upd; split <;> rfl))
             have HBN := hide (HB10.out.setCell (p := ⟨gA, PS + j, none⟩) (by exact Nat.le_refl _) (.bool true))
             go_wp2
             go_roundw
             case rel => exact ⟨upd T' (PS + j), true, j + 1, by omega, rfl, by go_num, HRN, HAN, HBN, by simp [World.setCell]; omega⟩
             case measure => simp [intOf]; omega
        ·
         rw [hTj] at cA
         have HAN := hide (show ApI (lsM m) (rowM m) (finM' m) S T T' ag (PS + (j + 1)) by
          have h := HAI.out
          rw [HPS.out] at h hTj
          rw [← Nat.add_assoc, HPS.out]
          exact h.skip hjS hTj)
         clear hTj
         go_wp2
         go_roundw
         case rel => exact ⟨T', ag, j + 1, by omega, rfl, by go_num, HRA, HAN, HBK', hzr⟩
         case measure => simp [intOf]; omega
       ·
        obtain rfl : S = j := by omega
        have HAN := hide (show ApI (lsM m) (rowM m) (finM' m) S T T' ag ((p + 1) * S) by rw [Nat.succ_mul, ← HPS.out]; exact HAI.out)
        go_wp2
        go_roundw
        case rel => exact ⟨T', ag, p + 1, by omega, rfl, by go_num, HRA, HAN, HBK', hzr⟩
        case measure => simp [intOf]; omega
     ·
      obtain rfl : S = p := by omega
      have HSN := hide HAI.out.snd
      have HFN := hide (show ag = false → ∀ p q, p < S → q < S → (T' (p * S + q) = false ↔ SameL (lsM m) (rowM m) (finM' m) p q) from fun h => by subst h; exact HAI.out.all HT.out)
      have HON := hide (show offN T' SS + (if ag = true then 1 else 0) ≤ gk - 1 by
       have h1 := HAI.out.le
       have h2 := HOF1.out
       rw [← HSQ.out] at h1
       cases ag
       · simp; omega
       ·
        have h3 := HAI.out.lt rfl
        rw [← HSQ.out] at h3
        simp; omega)
      have hgk : 0 < gk := by have := HOF1.out; omega
      go_wp2
      go_roundg (gk - 1)
      case measure => omega
      case rel => exact ⟨T', ag, rfl, HRA, HSN, HFN, HON, HBK', hzr⟩
end Go.Proofs.Ytopakcbhodnipaa
