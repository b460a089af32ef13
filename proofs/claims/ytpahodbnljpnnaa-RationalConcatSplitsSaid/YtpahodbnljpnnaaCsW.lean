/- The law RationalConcatSplits, walked: it returns true. Written by gen_cs.py. -/
import Derived.Test.YtpahodbnljpnnaaCsP
import Derived.Test.YtpahodbnljpnnaaCuW
import Derived.Test.YtpahodbnljpnnaaWbP
namespace Go.Proofs.Ytpahodbnljpnnaa
open Go.RowKit Gm Go.Sort Go.Shelf
set_option linter.unusedSimpArgs false
set_option linter.unusedVariables false
set_option maxRecDepth 100000 in
set_option maxHeartbeats 8000000 in
theorem claw_any (va vb v1 v2 : Value) (a b : Mach) (lu lo : List Int) (w : World) (B : Nat) (hB : B ≤ w.heap.size) (ha : MachAt w B va a) (hb : MachAt w B vb b) (h1 : Nums w B v1 lu) (h2 : Nums w B v2 lo) :
    Calls Try.prog 3 #[va, vb, v1, v2] w fun e w' => e = .returned (.bool true) ∧ Below w.heap.size w w' := by
  have HA := hide ha
  have HB := hide hb
  have HU := hide h1
  have HO := hide h2
  obtain ⟨A, AF, n, c, nf, cf, rfl, _⟩ := ha
  obtain ⟨A', AF', n', c', nf', cf', rfl, _⟩ := hb
  obtain ⟨A1, nu, cc1, rfl, HNU, hu1, hu2, _⟩ := h1
  obtain ⟨A2, no, cc2, rfl, HNO, ho1, ho2, _⟩ := h2
  have hne := fun a b c d W => run_neq_fault a b c d W
  have hf0 : fEq 0 0 0 0 = true := rfl
  have HCC := hide (fun va vb a b W B hB h h' => concat_any va vb a b W B hB h h')
  have HWW := hide (fun (v v1 v2 : Value) (m : Mach) (lu lo : List Int) W B (hB : B ≤ W.heap.size) (hM : MachAt W B v m) (hU : Nums W B v1 lu) (hO : Nums W B v2 lo) => lweight_any _ _ _ m lu lo W B hB hM hU hO)
  have HQU := hide (fun W (hB : B ≤ W.heap.size) (h : Nums W B (.slice A1 nu cc1) lu) => rword_any _ lu 0 W B hB h)
  have HQO := hide (fun W (hB : B ≤ W.heap.size) (h : Nums W B (.slice A2 no cc2) lo) => rword_any _ lo 0 W B hB h)
  have HL := hide (fun a b W => lighter_any a b W)
  go_enter Try.func3, Try.ntmps3
  go_wp2_with fail
  refine (shapes_ex _).mono ?_
  rintro e w1 ⟨rfl, hb1⟩
  have bX : Blk w1 w.heap.size 25 #[.int .i64 a.n, .slice A n c, .slice AF nf cf] := ((Blk.at_ rfl).alloc _).below hb1 (by simp; omega)
  have bY : Blk w1 (w.heap.size + 1) 25 #[.int .i64 b.n, .slice A' n' c', .slice AF' nf' cf'] := (Blk.at_ (by simp)).below hb1 (by simp)
  have hbw : Below w.heap.size w w1 := Below.trans (by go_grown) (hb1.mono (by simp; omega))
  clear hb1
  go_wp2_with fail
  refine (weighed_ex _).mono ?_
  rintro e w2 ⟨rfl, hb2⟩
  replace bX := bX.below hb2 bX.lt
  replace bY := bY.below hb2 bY.lt
  replace hbw := hbw.trans (hb2.mono hbw.size)
  clear hb2
  have x0 := bX.cell 0
  have x1 := bX.cell 1
  have x2 := bX.cell 2
  have y0 := bY.cell 0
  have y1 := bY.cell 1
  have y2 := bY.cell 2
  simp at x0 x1 x2 y0 y1 y2
  have xl := bX.lt
  have yl := bY.lt
  have hbz := hbw.size
  go_wp2_with fail
  refine (HCC.out _ _ a b _ _ (Nat.le_refl _) ((HA.out.below hbw hB).mono (by omega)) ((HB.out.below hbw hB).mono (by omega))).mono ?_
  rintro e w3 ⟨v3, rfl, hT, hb3⟩
  obtain ⟨A3, n3, c3, AF3, nf3, cf3, rfl⟩ := agg_of hT
  have HT3 := hide hT
  replace bX := bX.below hb3 bX.lt
  replace bY := bY.below hb3 bY.lt
  replace hbw := hbw.trans (hb3.mono hbw.size)
  clear hT hb3 x0 x1 x2 xl y0 y1 y2 yl HCC hbz
  obtain ⟨p3, hp3⟩ : ∃ p, p = (catF a b).1 := ⟨_, rfl⟩
  obtain ⟨q3, hq3⟩ : ∃ p, p = (catF a b).2 := ⟨_, rfl⟩
  rw [← hp3, ← hq3]
  have HP3 := hide (And.intro hp3 hq3)
  clear hp3 hq3
  obtain ⟨g3, hg3⟩ : ∃ g, g = (catR a b).n := ⟨_, rfl⟩
  rw [← hg3] at HT3 ⊢
  clear hg3
  have bP := (Blk.at_ (w := w3) (g := w3.heap.size) (t := 25) (cs := #[.int .i64 g3, .slice A3 n3 c3, .slice AF3 nf3 cf3]) rfl).alloc (Obj.cells #[.int .i64 p3, .int .i64 q3] 29)
  have bF : Blk ((w3.alloc (Obj.cells #[.int .i64 g3, .slice A3 n3 c3, .slice AF3 nf3 cf3] 25)).alloc (Obj.cells #[.int .i64 p3, .int .i64 q3] 29)) (w3.heap.size + 1) 29 #[.int .i64 p3, .int .i64 q3] := Blk.at_ (by simp)
  replace bX := (bX.alloc (Obj.cells #[.int .i64 g3, .slice A3 n3 c3, .slice AF3 nf3 cf3] 25)).alloc (Obj.cells #[.int .i64 p3, .int .i64 q3] 29)
  replace bY := (bY.alloc (Obj.cells #[.int .i64 g3, .slice A3 n3 c3, .slice AF3 nf3 cf3] 25)).alloc (Obj.cells #[.int .i64 p3, .int .i64 q3] 29)
  replace HT3 := hide ((HT3.out.alloc (Obj.cells #[.int .i64 g3, .slice A3 n3 c3, .slice AF3 nf3 cf3] 25)).alloc (Obj.cells #[.int .i64 p3, .int .i64 q3] 29))
  replace hbw := (hbw.alloc hbw.size (Obj.cells #[.int .i64 g3, .slice A3 n3 c3, .slice AF3 nf3 cf3] 25)).alloc (by have := hbw.size; simp; omega) (Obj.cells #[.int .i64 p3, .int .i64 q3] 29)
  have f0 := bF.cell 0
  have f1 := bF.cell 1
  have fl := bF.lt
  simp at f0 f1 fl
  have hbz := hbw.size
  simp at hbz
  by_cases hz : catF a b = (0, 0)
  rotate_left
  · have hz' := fEq0_false hz
    rw [← HP3.out.1, ← HP3.out.2] at hz'
    go_wp2
    exact bodyPost_ret (v := .bool true) (by simp [results, Try.results3, go_sem]) rfl ⟨rfl, hbw⟩
  obtain ⟨e1, e2⟩ := HP3.out
  rw [hz] at e1 e2
  subst e1 e2
  have HZ := hide hz
  clear HP3 hz
  by_cases h5 : 5 < nu
  · have t5 : decide ((nu : Int) > 5) = true := decide_eq_true (by omega)
    have t5' : decide ((5 : Int) < (nu : Int)) = true := decide_eq_true (by omega)
    go_wp2
    exact bodyPost_ret (v := .bool true) (by simp [results, Try.results3, go_sem]) rfl ⟨rfl, hbw⟩
  have t5 : decide ((nu : Int) > 5) = false := decide_eq_false (by omega)
  have t5' : decide ((5 : Int) < (nu : Int)) = false := decide_eq_false (by omega)
  by_cases h6 : 5 < no
  · have t6 : decide ((no : Int) > 5) = true := decide_eq_true (by omega)
    have t6' : decide ((5 : Int) < (no : Int)) = true := decide_eq_true (by omega)
    go_wp2
    exact bodyPost_ret (v := .bool true) (by simp [results, Try.results3, go_sem]) rfl ⟨rfl, hbw⟩
  have t6 : decide ((no : Int) > 5) = false := decide_eq_false (by omega)
  have t6' : decide ((5 : Int) < (no : Int)) = false := decide_eq_false (by omega)
  by_cases hu : wordF lu 0 = (0, 0)
  rotate_left
  · have hz' := fEq0_false hu
    obtain ⟨p, hp⟩ : ∃ p, p = (wordF lu 0).1 := ⟨_, rfl⟩
    obtain ⟨q, hq⟩ : ∃ p, p = (wordF lu 0).2 := ⟨_, rfl⟩
    rw [← hp, ← hq] at HQU hz'
    clear hp hq hu
    go_wp2_with fail
    refine (HQU.out _ (by simp; omega) (HU.out.below hbw hB)).mono ?_
    rintro e w4 ⟨rfl, hb4⟩
    replace hbw := hbw.trans (hb4.mono hbw.size)
    clear hb4
    go_wp2
    exact bodyPost_ret (v := .bool true) (by simp [results, Try.results3, go_sem]) rfl ⟨rfl, hbw⟩
  by_cases ho : wordF lo 0 = (0, 0)
  rotate_left
  · have hz' := fEq0_false ho
    obtain ⟨p, hp⟩ : ∃ p, p = (wordF lo 0).1 := ⟨_, rfl⟩
    obtain ⟨q, hq⟩ : ∃ p, p = (wordF lo 0).2 := ⟨_, rfl⟩
    rw [← hp, ← hq] at HQO hz'
    rw [hu] at HQU
    clear hp hq hu ho
    go_wp2_with fail
    refine (HQU.out _ (by simp; omega) (HU.out.below hbw hB)).mono ?_
    rintro e w4 ⟨rfl, hb4⟩
    replace hbw := hbw.trans (hb4.mono hbw.size)
    clear hb4
    have hbz := hbw.size
    go_wp2_with fail
    refine (HQO.out _ (by omega) (HO.out.below hbw hB)).mono ?_
    rintro e w5 ⟨rfl, hb5⟩
    replace hbw := hbw.trans (hb5.mono hbw.size)
    clear hb5
    go_wp2
    exact bodyPost_ret (v := .bool true) (by simp [results, Try.results3, go_sem]) rfl ⟨rfl, hbw⟩
  rw [hu] at HQU
  rw [ho] at HQO
  have HWU := hide hu
  have HWO := hide ho
  clear hu ho
  go_wp2_with fail
  refine (HQU.out _ (by simp; omega) (HU.out.below hbw hB)).mono ?_
  rintro e w4 ⟨rfl, hb4⟩
  replace bX := bX.below hb4 bX.lt
  replace bY := bY.below hb4 bY.lt
  replace bP := bP.below hb4 bP.lt
  replace HT3 := hide (HT3.out.below hb4 (by simp))
  replace hbw := hbw.trans (hb4.mono hbw.size)
  clear hb4 f0 f1 fl bF hbz
  have hbz := hbw.size
  go_wp2_with fail
  refine (HQO.out _ (by omega) (HO.out.below hbw hB)).mono ?_
  rintro e w5 ⟨rfl, hb5⟩
  replace bX := bX.below hb5 bX.lt
  replace bY := bY.below hb5 bY.lt
  replace bP := bP.below hb5 bP.lt
  replace HT3 := hide (HT3.out.below hb5 (Nat.le_refl _))
  replace hbw := hbw.trans (hb5.mono hbw.size)
  clear hb5 hbz HQU HQO
  obtain ⟨va0, vb0, vc0, _, _⟩ := cat_ok HZ.out
  have HVA := hide va0
  have HVB := hide vb0
  clear va0 vb0 vc0
  go_wp2
  have HX := hide bX
  have HY := hide bY
  have HP := hide bP
  have HBW := hide hbw
  have HS0 := hide (split_start a b lu lo)
  have hPb : w3.heap.size < w5.heap.size := bP.lt
  have hXb : w.heap.size + 1 < w5.heap.size := bY.lt
  clear bX bY bP hbw t5 t5' t6 t6'
  go_loopw [11, 12] (fun rv iv wr => ∃ (i : Nat) (r : Int), i ≤ nu + 1 ∧ rv = .int .i64 r ∧ iv = .int .i64 i ∧ Hid (Below w5.heap.size w5 wr) ∧ Hid (LeastS (SplitS a b lu lo i 0) r)) (fun _ iv _ => nu + 1 - (intOf iv).toNat)
  case atStart => exact ⟨0, -1, by omega, rfl, rfl, hide (Below.refl _ _), HS0⟩
  case round =>
    clear HS0
    obtain ⟨i, r, hi, rfl, rfl, HB2, HR⟩ := hrel
    by_cases hin : i ≤ nu
    · have ti : decide ((i : Int) ≤ (nu : Int)) = true := decide_eq_true (by omega)
      go_wp2
      go_loopw [11, 13] (fun rv jv wr => ∃ (j : Nat) (r : Int), j ≤ no + 1 ∧ rv = .int .i64 r ∧ jv = .int .i64 j ∧ Hid (Below w5.heap.size w5 wr) ∧ Hid (LeastS (SplitS a b lu lo i j) r)) (fun _ jv _ => no + 1 - (intOf jv).toNat)
      case atStart => exact ⟨0, r, by omega, rfl, rfl, HB2, HR⟩
      case round =>
        as_aux_lemma =>
        clear HB2 HR
        obtain ⟨j, r, hj, rfl, rfl, HB2, HR⟩ := hrel
        by_cases hjn : j ≤ no
        · have tj : decide ((j : Int) ≤ (no : Int)) = true := decide_eq_true (by omega)
          obtain ⟨T1, hT1, ht1⟩ := cut_take (A := A1) (c := cc1) hin hu1 hu2
          obtain ⟨T2, hT2, ht2⟩ := cut_take (A := A2) (c := cc2) hjn ho1 ho2
          obtain ⟨D1, hD1, hd1⟩ := cut_drop (A := A1) (c := cc1) hin hu1 hu2
          obtain ⟨D2, hD2, hd2⟩ := cut_drop (A := A2) (c := cc2) hjn ho1 ho2
          have HT1 := hide ht1
          have HT2 := hide ht2
          have HD1 := hide hd1
          have HD2 := hide hd2
          clear ht1 ht2 hd1 hd2
          have hst := split_step (a := a) (b := b) (by rw [HNU.out]; exact hin) (by rw [HNO.out]; exact hjn) HR.out
          have ex := wv_at HVA.out (wordF_take HWU.out 0 i).1 (wordF_take HWO.out 0 j).1
          have ey := wv_at HVB.out (wordF_take HWU.out 0 i).2 (wordF_take HWO.out 0 j).2
          have bx := wgt_small (valid_of HVA.out) (u := lu.take i) (v := lo.take j) (by have := List.length_take_le i lu; omega) (by have := List.length_take_le j lo; omega)
          have by_ := wgt_small (valid_of HVB.out) (u := lu.drop i) (v := lo.drop j) (by rw [List.length_drop, HNU.out]; omega) (by rw [List.length_drop, HNO.out]; omega)
          rw [← ex] at bx
          rw [← ey] at by_
          rw [← ex, ← ey] at hst
          have lx := wv_low a (lu.take i) (lo.take j)
          have ly := wv_low b (lu.drop i) (lo.drop j)
          clear ex ey
          have HCX := hide (fun W hM hU hO => HWW.out (.agg #[.int .i64 a.n, .slice A n c, .slice AF nf cf]) T1 T2 a (lu.take i) (lo.take j) W W.heap.size (Nat.le_refl _) hM hU hO)
          have HCY := hide (fun W hM hU hO => HWW.out (.agg #[.int .i64 b.n, .slice A' n' c', .slice AF' nf' cf']) D1 D2 b (lu.drop i) (lo.drop j) W W.heap.size (Nat.le_refl _) hM hU hO)
          obtain ⟨x, hx⟩ : ∃ x, x = wv a (lu.take i) (lo.take j) := ⟨_, rfl⟩
          obtain ⟨y, hy⟩ : ∃ x, x = wv b (lu.drop i) (lo.drop j) := ⟨_, rfl⟩
          rw [← hx] at HCX bx lx hst
          rw [← hy] at HCY by_ ly hst
          have HST := hide hst
          clear hx hy hst HR
          have j0 : (0 : Int) ≤ (j : Int) := by omega
          have i0 : (0 : Int) ≤ (i : Int) := by omega
          go_upto_region 13 with fail
          have bX := HX.out.below HB2.out HX.out.lt
          have bY := HY.out.below HB2.out HY.out.lt
          have hwX : w.heap.size < w5.heap.size := by omega
          have zX0 := bX.drew.cell 0
          have zX1 := bX.drew.cell 1
          have zX2 := bX.drew.cell 2
          have zY0 := bY.drew.cell 0
          have zY1 := bY.drew.cell 1
          have zY2 := bY.drew.cell 2
          simp at zX0 zX1 zX2 zY0 zY1 zY2
          refine wp_mix (fun w' => w'.cell? ⟨w.heap.size, 0, none⟩ = some (.int .i64 a.n) ∧ w'.cell? ⟨w.heap.size, 1, none⟩ = some (.slice A n c) ∧ w'.cell? ⟨w.heap.size, 2, none⟩ = some (.slice AF nf cf) ∧ w'.cell? ⟨w.heap.size + 1, 0, none⟩ = some (.int .i64 b.n) ∧ w'.cell? ⟨w.heap.size + 1, 1, none⟩ = some (.slice A' n' c') ∧ w'.cell? ⟨w.heap.size + 1, 2, none⟩ = some (.slice AF' nf' cf')) 15 [(0, false), (1, false), (2, false), (3, false), (4, false), (5, false), (6, false), (8, false), (9, false), (10, false), (11, false), (12, false), (13, false), (14, false), (7, true)] (by kernel_rfl) (by kernel_rfl) ?_ ?_
          · exact ⟨zX0, zX1, zX2, zY0, zY1, zY2⟩
          simp only [List.drop_succ_cons, List.drop_zero]
          clear zX0 zX1 zX2 zY0 zY1 zY2
          repeat (refine mix_q (v := ?_) (by rfl) (by rfl) ?_ ?_; rotate_left; (focus (intro w' hC; (try dsimp only at hC); go_simp; (first | done | with_reducible rfl))); simp only [Act.put, List.setIfInBounds_toArray, List.set_cons_zero, List.set_cons_succ, List.getElem_toArray, List.getElem_cons_zero, List.getElem_cons_succ])
          refine mix_l (by rfl) (by rfl) (fun K hK => ?_)
          go_simp
          have hbr : Below w.heap.size w wr := HBW.out.trans (HB2.out.mono HBW.out.size)
          have hbz := hbr.size
          refine (HCX.out _ ((HA.out.below hbr.drew hB).mono (by simp; omega)) (HT1.out _ _ _ ((HU.out.below hbr.drew hB).mono (by simp; omega))) (HT2.out _ _ _ ((HO.out.below hbr.drew hB).mono (by simp; omega)))).mono ?_
          rintro e w6 ⟨rfl, hb6⟩
          replace bX := bX.drew.below hb6 bX.drew.lt
          replace bY := bY.drew.below hb6 bY.drew.lt
          replace hbr := hbr.drew.trans (hb6.mono hbr.drew.size)
          have HB6 := hide (HB2.out.drew.trans (hb6.mono HB2.out.drew.size))
          have zX0 := bX.cell 0
          have zX1 := bX.cell 1
          have zX2 := bX.cell 2
          have zY0 := bY.cell 0
          have zY1 := bY.cell 1
          have zY2 := bY.cell 2
          simp at zX0 zX1 zX2 zY0 zY1 zY2
          refine hK _ _ ⟨zX0, zX1, zX2, zY0, zY1, zY2⟩ ?_
          clear hK K hb6 bX bY zX0 zX1 zX2 zY0 zY1 zY2 HB2 hbz
          refine mix_nil ?_; try simp only [Act.put, List.setIfInBounds_toArray, List.set_cons_zero, List.set_cons_succ, List.getElem_toArray, List.getElem_cons_zero, List.getElem_cons_succ]
          go_wp2_with fail
          have hbz := hbr.size
          refine (HCY.out _ ((HB.out.below hbr hB).mono (by omega)) (HD1.out _ _ _ ((HU.out.below hbr hB).mono (by omega))) (HD2.out _ _ _ ((HO.out.below hbr hB).mono (by omega)))).mono ?_
          rintro e w7 ⟨rfl, hb7⟩
          have HB7 := hide (HB6.out.trans (hb7.mono HB6.out.size))
          clear hb7 hbr hbz HB6 HCX HCY
          go_wp2
          refine NoPanic.normal ?_
          by_cases hx0 : 0 ≤ x
          · have tx : decide (x ≥ 0) = true := decide_eq_true hx0
            have tx' : decide (0 ≤ x) = true := decide_eq_true hx0
            by_cases hy0 : 0 ≤ y
            · have ty : decide (y ≥ 0) = true := decide_eq_true hy0
              have ty' : decide (0 ≤ y) = true := decide_eq_true hy0
              have HS2 := hide (show LeastS (SplitS a b lu lo i (j + 1)) (lightP r (x + y)) by have h := HST.out; unfold stepC at h; rwa [if_pos ⟨hx0, hy0⟩] at h)
              go_wp2_with fail
              refine (HL.out _ _ _).mono ?_
              rintro e _ ⟨rfl, rfl⟩
              go_wp2
              go_roundw
              case rel => exact ⟨j + 1, lightP r (x + y), by omega, rfl, by go_num, HB7, HS2⟩
              case measure => simp [intOf]; omega
            · have ty : decide (y ≥ 0) = false := decide_eq_false hy0
              have ty' : decide (0 ≤ y) = false := decide_eq_false hy0
              have HS2 := hide (show LeastS (SplitS a b lu lo i (j + 1)) r by have h := HST.out; unfold stepC at h; rwa [if_neg (by omega)] at h)
              go_wp2
              go_roundw
              case rel => exact ⟨j + 1, r, by omega, rfl, by go_num, HB7, HS2⟩
              case measure => simp [intOf]; omega
          · have tx : decide (x ≥ 0) = false := decide_eq_false hx0
            have tx' : decide (0 ≤ x) = false := decide_eq_false hx0
            have HS2 := hide (show LeastS (SplitS a b lu lo i (j + 1)) r by have h := HST.out; unfold stepC at h; rwa [if_neg (by omega)] at h)
            go_wp2
            go_roundw
            case rel => exact ⟨j + 1, r, by omega, rfl, by go_num, HB7, HS2⟩
            case measure => simp [intOf]; omega
        · obtain rfl : j = no + 1 := by omega
          have tj : decide (((no + 1 : Nat) : Int) ≤ (no : Int)) = false := decide_eq_false (by omega)
          have HS2 := hide (split_row (show LeastS (SplitS a b lu lo i (lo.length + 1)) r by rw [HNO.out]; exact HR.out))
          go_wp2
          go_roundw
          case rel => exact ⟨i + 1, r, by omega, rfl, by go_num, HB2, HS2⟩
          case measure => simp [intOf]; omega
    · obtain rfl : i = nu + 1 := by omega
      have ti : decide (((nu + 1 : Nat) : Int) ≤ (nu : Int)) = false := decide_eq_false (by omega)
      have HE := hide (split_end HZ.out HWU.out HWO.out (show LeastS (SplitS a b lu lo (lu.length + 1) 0) r by rw [HNU.out]; exact HR.out))
      have HCP := hide (fun W hM hU hO => HWW.out (.agg #[.int .i64 g3, .slice A3 n3 c3, .slice AF3 nf3 cf3]) (.slice A1 nu cc1) (.slice A2 no cc2) (catR a b) lu lo W W.heap.size (Nat.le_refl _) hM hU hO)
      rw [HE.out] at HCP
      have hbw : Below w.heap.size w wr := HBW.out.trans (HB2.out.mono HBW.out.size)
      have bP := HP.out.below HB2.out hPb
      have z0 := bP.cell 0
      have z1 := bP.cell 1
      have z2 := bP.cell 2
      simp at z0 z1 z2
      have lP := bP.lt
      have hbz := hbw.size
      clear HE HR
      go_wp2_with fail
      refine (HCP.out _ (HT3.out.below HB2.out (Nat.le_refl _)).at_ ((HU.out.below hbw hB).mono (by omega)) ((HO.out.below hbw hB).mono (by omega))).mono ?_
      rintro e w8 ⟨rfl, hb8⟩
      replace hbw := hbw.trans (hb8.mono hbw.size)
      go_wp2
      exact bodyPost_ret (v := .bool true) (by simp [results, Try.results3, go_sem]) rfl ⟨rfl, hbw⟩
end Go.Proofs.Ytpahodbnljpnnaa
