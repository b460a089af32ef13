/- The law RationalStarRepeats, walked: it returns true. Written by gen_rs.py. -/
import Derived.Test.YtpahodbnljpnnaaRsP
import Derived.Test.YtpahodbnljpnnaaCuW
import Derived.IntWalk
namespace Go.Proofs.Ytpahodbnljpnnaa
open Go.RowKit Gm Go.Sort Go.Shelf
set_option linter.unusedSimpArgs false
set_option linter.unusedVariables false
theorem row_below {w w' : World} {B b n : Nat} {t : TypeId} {f : Nat → Value} (h : w.rowIs b t n f) (hb : Below B w w') (hB : b < B) : w'.rowIs b t n f := h.of_block (hb.block _ hB)
set_option maxRecDepth 100000 in
set_option maxHeartbeats 16000000 in
theorem rlaw_any (va v1 v2 : Value) (m : Mach) (lu lo : List Int) (w : World) (B : Nat) (hB : B ≤ w.heap.size) (ha : MachAt w B va m) (h1 : Nums w B v1 lu) (h2 : Nums w B v2 lo) :
    Calls Try.prog 4 #[va, v1, v2] w fun e w' => e = .returned (.bool true) ∧ Below w.heap.size w w' := by
  have HA := hide ha
  have HU := hide h1
  have HO := hide h2
  obtain ⟨A, AF, n, c, nf, cf, rfl, _⟩ := ha
  obtain ⟨A1, nu, cc1, rfl, HNU, hu1, hu2, _⟩ := h1
  obtain ⟨A2, no, cc2, rfl, HNO, ho1, ho2, _⟩ := h2
  have hne := fun a b c d W => run_neq_fault a b c d W
  have hf0 : fEq 0 0 0 0 = true := rfl
  have HCC := hide (fun va m W B hB h => star_any va m W B hB h)
  have HWW := hide (fun (v v1 v2 : Value) (m : Mach) (lu lo : List Int) W B (hB : B ≤ W.heap.size) (hM : MachAt W B v m) (hU : Nums W B v1 lu) (hO : Nums W B v2 lo) => lweight_any _ _ _ m lu lo W B hB hM hU hO)
  have HQU := hide (fun W (hB : B ≤ W.heap.size) (h : Nums W B (.slice A1 nu cc1) lu) => rword_any _ lu 0 W B hB h)
  have HQO := hide (fun W (hB : B ≤ W.heap.size) (h : Nums W B (.slice A2 no cc2) lo) => rword_any _ lo 0 W B hB h)
  have HL := hide (fun a b W => lighter_any a b W)
  go_enter Try.func4, Try.ntmps4
  go_wp2_with fail
  refine (shapes_ex _).mono ?_
  rintro e w1 ⟨rfl, hb1⟩
  have bX : Blk w1 w.heap.size 25 #[.int .i64 m.n, .slice A n c, .slice AF nf cf] := (Blk.at_ rfl).below hb1 (by simp)
  have hbw : Below w.heap.size w w1 := Below.trans (by go_grown) (hb1.mono (by simp))
  clear hb1
  go_wp2_with fail
  refine (weighed_ex _).mono ?_
  rintro e w2 ⟨rfl, hb2⟩
  replace bX := bX.below hb2 bX.lt
  replace hbw := hbw.trans (hb2.mono hbw.size)
  clear hb2
  have x0 := bX.cell 0
  have x1 := bX.cell 1
  have x2 := bX.cell 2
  simp at x0 x1 x2
  have xl := bX.lt
  have hbz := hbw.size
  go_wp2_with fail
  refine (HCC.out _ m _ _ (Nat.le_refl _) ((HA.out.below hbw hB).mono (by omega))).mono ?_
  rintro e w3 ⟨v3, rfl, hT, hb3⟩
  obtain ⟨A3, n3, c3, AF3, nf3, cf3, rfl⟩ := agg_of hT
  have HT3 := hide hT
  replace bX := bX.below hb3 bX.lt
  replace hbw := hbw.trans (hb3.mono hbw.size)
  clear hT hb3 x0 x1 x2 xl HCC hbz
  obtain ⟨p3, hp3⟩ : ∃ p, p = (starF m).1 := ⟨_, rfl⟩
  obtain ⟨q3, hq3⟩ : ∃ p, p = (starF m).2 := ⟨_, rfl⟩
  rw [← hp3, ← hq3]
  have HP3 := hide (And.intro hp3 hq3)
  clear hp3 hq3
  obtain ⟨g3, hg3⟩ : ∃ g, g = (starR m).n := ⟨_, rfl⟩
  rw [← hg3] at HT3 ⊢
  clear hg3
  have bP := (Blk.at_ (w := w3) (g := w3.heap.size) (t := 25) (cs := #[.int .i64 g3, .slice A3 n3 c3, .slice AF3 nf3 cf3]) rfl).alloc (Obj.cells #[.int .i64 p3, .int .i64 q3] 29)
  have bF : Blk ((w3.alloc (Obj.cells #[.int .i64 g3, .slice A3 n3 c3, .slice AF3 nf3 cf3] 25)).alloc (Obj.cells #[.int .i64 p3, .int .i64 q3] 29)) (w3.heap.size + 1) 29 #[.int .i64 p3, .int .i64 q3] := Blk.at_ (by simp)
  replace bX := (bX.alloc (Obj.cells #[.int .i64 g3, .slice A3 n3 c3, .slice AF3 nf3 cf3] 25)).alloc (Obj.cells #[.int .i64 p3, .int .i64 q3] 29)
  replace HT3 := hide ((HT3.out.alloc (Obj.cells #[.int .i64 g3, .slice A3 n3 c3, .slice AF3 nf3 cf3] 25)).alloc (Obj.cells #[.int .i64 p3, .int .i64 q3] 29))
  replace hbw := (hbw.alloc hbw.size (Obj.cells #[.int .i64 g3, .slice A3 n3 c3, .slice AF3 nf3 cf3] 25)).alloc (by have := hbw.size; simp; omega) (Obj.cells #[.int .i64 p3, .int .i64 q3] 29)
  have f0 := bF.cell 0
  have f1 := bF.cell 1
  have fl := bF.lt
  simp at f0 f1 fl
  have hbz := hbw.size
  simp at hbz
  by_cases hz : starF m = (0, 0)
  rotate_left
  · have hz' := fEq0_false hz
    rw [← HP3.out.1, ← HP3.out.2] at hz'
    go_wp2
    exact bodyPost_ret (v := .bool true) (by simp [results, Try.results4, go_sem]) rfl ⟨rfl, hbw⟩
  obtain ⟨e1, e2⟩ := HP3.out
  rw [hz] at e1 e2
  subst e1 e2
  have HZ := hide hz
  clear HP3 hz
  by_cases h5 : 4 < nu
  · have t5 : decide ((nu : Int) > 4) = true := decide_eq_true (by omega)
    have t5' : decide ((4 : Int) < (nu : Int)) = true := decide_eq_true (by omega)
    go_wp2
    exact bodyPost_ret (v := .bool true) (by simp [results, Try.results4, go_sem]) rfl ⟨rfl, hbw⟩
  have t5 : decide ((nu : Int) > 4) = false := decide_eq_false (by omega)
  have t5' : decide ((4 : Int) < (nu : Int)) = false := decide_eq_false (by omega)
  by_cases h6 : 4 < no
  · have t6 : decide ((no : Int) > 4) = true := decide_eq_true (by omega)
    have t6' : decide ((4 : Int) < (no : Int)) = true := decide_eq_true (by omega)
    go_wp2
    exact bodyPost_ret (v := .bool true) (by simp [results, Try.results4, go_sem]) rfl ⟨rfl, hbw⟩
  have t6 : decide ((no : Int) > 4) = false := decide_eq_false (by omega)
  have t6' : decide ((4 : Int) < (no : Int)) = false := decide_eq_false (by omega)
  by_cases hu : wordF lu 0 = (0, 0)
  rotate_left
  · have hz' := fEq0_false hu
    obtain ⟨p, hp⟩ : ∃ p, p = (wordF lu 0).1 := ⟨_, rfl⟩
    obtain ⟨q, hq⟩ : ∃ p, p = (wordF lu 0).2 := ⟨_, rfl⟩
    rw [← hp, ← hq] at HQU hz'
    clear hp hq hu
    go_wp2_with fail
    refine (HQU.out _ (by simp; omega) (HU.out.below hbw hB)).mono ?_
    rintro e w4 ⟨rfl, hb4⟩
    replace hbw := hbw.trans (hb4.mono hbw.size)
    clear hb4
    go_wp2
    exact bodyPost_ret (v := .bool true) (by simp [results, Try.results4, go_sem]) rfl ⟨rfl, hbw⟩
  by_cases ho : wordF lo 0 = (0, 0)
  rotate_left
  · have hz' := fEq0_false ho
    obtain ⟨p, hp⟩ : ∃ p, p = (wordF lo 0).1 := ⟨_, rfl⟩
    obtain ⟨q, hq⟩ : ∃ p, p = (wordF lo 0).2 := ⟨_, rfl⟩
    rw [← hp, ← hq] at HQO hz'
    rw [hu] at HQU
    clear hp hq hu ho
    go_wp2_with fail
    refine (HQU.out _ (by simp; omega) (HU.out.below hbw hB)).mono ?_
    rintro e w4 ⟨rfl, hb4⟩
    replace hbw := hbw.trans (hb4.mono hbw.size)
    clear hb4
    have hbz := hbw.size
    go_wp2_with fail
    refine (HQO.out _ (by omega) (HO.out.below hbw hB)).mono ?_
    rintro e w5 ⟨rfl, hb5⟩
    replace hbw := hbw.trans (hb5.mono hbw.size)
    clear hb5
    go_wp2
    exact bodyPost_ret (v := .bool true) (by simp [results, Try.results4, go_sem]) rfl ⟨rfl, hbw⟩
  rw [hu] at HQU
  rw [ho] at HQO
  have HWU := hide hu
  have HWO := hide ho
  clear hu ho
  go_wp2_with fail
  refine (HQU.out _ (by simp; omega) (HU.out.below hbw hB)).mono ?_
  rintro e w4 ⟨rfl, hb4⟩
  replace bX := bX.below hb4 bX.lt
  replace bP := bP.below hb4 bP.lt
  replace HT3 := hide (HT3.out.below hb4 (by simp))
  replace hbw := hbw.trans (hb4.mono hbw.size)
  clear hb4 f0 f1 fl bF hbz
  have hbz := hbw.size
  go_wp2_with fail
  refine (HQO.out _ (by omega) (HO.out.below hbw hB)).mono ?_
  rintro e w5 ⟨rfl, hb5⟩
  replace bX := bX.below hb5 bX.lt
  replace bP := bP.below hb5 bP.lt
  replace HT3 := hide (HT3.out.below hb5 (Nat.le_refl _))
  replace hbw := hbw.trans (hb5.mono hbw.size)
  clear hb5 hbz HQU HQO
  obtain ⟨va0, va1, va2⟩ := star_ok HZ.out
  have HVA := hide va0
  clear va0 va1 va2 t5 t5' t6 t6'
  obtain ⟨n1, hn1⟩ : ∃ k, k = nu + 1 := ⟨_, rfl⟩
  obtain ⟨k1, hk1⟩ : ∃ k, k = no + 1 := ⟨_, rfl⟩
  obtain ⟨N, hN⟩ : ∃ N, N = n1 * k1 := ⟨_, rfl⟩
  have hNb : N ≤ 25 := by
    have := Nat.mul_le_mul (show n1 ≤ 5 by omega) (show k1 ≤ 5 by omega)
    omega
  have hNp : 0 < N := by rw [hN]; exact Nat.mul_pos (by omega) (by omega)
  have hn1I : (nu : Int) + 1 = (n1 : Int) := by omega
  have hk1I : (no : Int) + 1 = (k1 : Int) := by omega
  have hNI : (n1 : Int) * (k1 : Int) = (N : Int) := by rw [hN]; push_cast; rfl
  have ln1 : (n1 : Int) ≤ 5 := by omega
  have lk1 : (k1 : Int) ≤ 5 := by omega
  have hmkF := fun (W : World) => run_make_row' (P := Try.prog) 26 3 (.int .i64 0) 8 Try.underlying26 int_info rfl .i64 .i64 N (by omega) (by omega) W
  have HN1 := hide hn1
  have HK1 := hide hk1
  have HN3 := hide (show N = 1 * (lu.length + 1) * (lo.length + 1) by rw [hN, hn1, hk1, HNU.out, HNO.out, Nat.one_mul])
  have hun1 : nu < n1 := by omega
  have hok1 : no < k1 := by omega
  have hnu4 : nu ≤ 4 := by omega
  have hno4 : no ≤ 4 := by omega
  unfold big at hu2 ho2
  clear hn1 hk1 hN h5 h6
  go_wp2
  clear hmkF hNI
  generalize hW6 : World.alloc _ _ = W6
  obtain ⟨H, hH⟩ : ∃ H, H = w5.heap.size := ⟨_, rfl⟩
  have HB6 := hide (show Below H w5 W6 by rw [← hW6, hH]; exact (Below.refl _ _).alloc (Nat.le_refl _) _)
  have hR0 : W6.rowIs H 3 N (fun i => .int .i64 0) := by
    rw [← hW6, hH]
    exact World.rowIs_made w5 (.int .i64 0) N 3
  have hz6 : H + 1 ≤ W6.heap.size := by rw [← hW6, hH]; simp
  have HX := hide (show Blk W6 w.heap.size 25 #[.int .i64 m.n, .slice A n c, .slice AF nf cf] by rw [← hW6]; exact bX.alloc _)
  have HP := hide (show Blk W6 w3.heap.size 25 #[.int .i64 g3, .slice A3 n3 c3, .slice AF3 nf3 cf3] by rw [← hW6]; exact bP.alloc _)
  have hH5 : w5.heap.size ≤ H := by omega
  have HBW := hide (show Below w.heap.size w W6 by rw [← hW6]; exact hbw.alloc hbw.size _)
  have hPb : w3.heap.size < H := by rw [hH]; exact bP.lt
  have hXb : w.heap.size < H := by rw [hH]; exact bX.lt
  simp only [← hH]
  clear hW6 bX bP hbw hH
  have HB0 := hide (dp_start m lu lo (fun _ => 0))
  have HR0 := hide hR0
  clear hR0
  go_loopw [11] (fun iv wr => ∃ (i : Nat) (b : Nat → Int), i ≤ n1 ∧ iv = .int .i64 i ∧ Hid (Below H W6 wr) ∧ Hid (wr.rowIs H 3 N (fun x => .int .i64 (b x))) ∧ Hid (DP m lu lo i 0 b) ∧ H + 1 ≤ wr.heap.size) (fun iv _ => n1 - (intOf iv).toNat)
  case atStart => exact ⟨0, fun _ => 0, by omega, rfl, hide (Below.refl _ _), HR0, HB0, hz6⟩
  case round =>
    as_aux_lemma =>
    clear HB0 HR0 hz6
    obtain ⟨i, b, hi, rfl, HB2, HR, HD, hz⟩ := hrel
    by_cases hin : i ≤ nu
    · have ti : decide ((i : Int) ≤ (nu : Int)) = true := decide_eq_true (by omega)
      go_wp2
      go_loopw [12] (fun jv wr => ∃ (j : Nat) (b : Nat → Int), j ≤ k1 ∧ jv = .int .i64 j ∧ Hid (Below H W6 wr) ∧ Hid (wr.rowIs H 3 N (fun x => .int .i64 (b x))) ∧ Hid (DP m lu lo i j b) ∧ H + 1 ≤ wr.heap.size) (fun jv _ => k1 - (intOf jv).toNat)
      case atStart => exact ⟨0, b, by omega, rfl, HB2, HR, HD, hz⟩
      case round =>
        as_aux_lemma =>
        clear HB2 HR HD hz b ti
        obtain ⟨j, b, hj, rfl, HB2, HR, HD, hz⟩ := hrel
        by_cases hjn : j ≤ no
        · have tj : decide ((j : Int) ≤ (no : Int)) = true := decide_eq_true (by omega)
          have hil : i ≤ lu.length := by rw [HNU.out]; exact hin
          have hjl : j ≤ lo.length := by rw [HNO.out]; exact hjn
          obtain ⟨j1, hj1⟩ : ∃ z, z = i * k1 := ⟨_, rfl⟩
          obtain ⟨Kp, hK⟩ : ∃ z, z = j1 + j := ⟨_, rfl⟩
          have hKix : Kp = ixp lu.length lo.length 0 i j := by rw [hK, hj1, HK1.out]; unfold ixp; rw [HNO.out]; simp
          have hKN : Kp < N := by rw [hKix, HN3.out]; exact ixp_lt (by omega) hil hjl
          have e1 : (i : Int) * (k1 : Int) = (j1 : Int) := by rw [hj1]; push_cast; rfl
          have e2 : (j1 : Int) + (j : Int) = (Kp : Int) := by omega
          have hjb : j1 ≤ 25 := by omega
          have cK := HR.out.cell hKN
          have fK := HR.out.frozen Kp
          have lH : H < wr.heap.size := by omega
          have kI0 : (0 : Int) ≤ (Kp : Int) := by omega
          have kI1 : (Kp : Int) < (N : Int) := by omega
          have HKIX := hide hKix
          clear hj1 hK hKix
          have HE1 := hide e1
          have HE2 := hide e2
          go_upto_region 15 with fail
          clear e1 e2
          generalize hW7 : World.setCell _ _ _ = W7
          have HB7 := hide (show Below H W6 W7 by rw [← hW7]; exact HB2.out.setCell (by simp) _)
          have HR7 := hide (show W7.rowIs H 3 N (fun x => .int .i64 (setb b Kp (-1) x)) by
            rw [← hW7]; exact (HR.out.set Kp (.int .i64 (-1))).congr (fun x hx => by
              unfold setb
              by_cases e : x = Kp
              · rw [if_pos e, if_pos e]
              · rw [if_neg e, if_neg e]))
          have hz7 : H + 1 ≤ W7.heap.size := by rw [← hW7]; simpa [World.setCell] using hz
          clear hW7 cK fK lH HB2 HR hz
          obtain ⟨bd, hbd⟩ : ∃ x : Bool, x = decide (i = 0 ∧ j = 0) := ⟨_, rfl⟩
          have HBD := hide hbd
          clear hbd
          go_cut [85] from 80 to 154 (fun s85 wq => s85 = .bool bd ∧ wq = W7)
          case first =>
            as_aux_lemma =>
            by_cases hi0 : i = 0
            · have ti1 : ((i : Int) == 0) = true := by simp [hi0]
              by_cases hj0 : j = 0
              · have tj1 : ((j : Int) == 0) = true := by simp [hj0]
                have HV := hide (show bd = true by rw [HBD.out]; simp [hi0, hj0])
                clear hi0 hj0 HBD
                go_wp2
                go_meet
                exact ⟨by rw [HV.out], rfl⟩
              · have tj1 : ((j : Int) == 0) = false := by simp; omega
                have HV := hide (show bd = false by rw [HBD.out]; simp [hj0])
                clear hi0 hj0 HBD
                go_wp2
                go_meet
                exact ⟨by rw [HV.out], rfl⟩
            · have ti1 : ((i : Int) == 0) = false := by simp; omega
              have HV := hide (show bd = false by rw [HBD.out]; simp [hi0])
              clear hi0 HBD
              go_wp2
              go_meet
              exact ⟨by rw [HV.out], rfl⟩
          case rest =>
          obtain ⟨rfl, rfl⟩ := hcut
          by_cases h00 : i = 0 ∧ j = 0
          · obtain rfl : bd = true := by rw [HBD.out]; simp [h00]
            have HK0 := hide (show Kp = 0 by rw [HKIX.out, h00.1, h00.2]; simp [ixp])
            have HDN := hide (show DP m lu lo i (j + 1) (setb b Kp 0) by
              rw [HKIX.out]
              exact dp_next hil hjl HD.out (by rw [h00.1, h00.2]; exact rep_zero m))
            clear h00 HBD
            have c0 := HR7.out.cell hNp
            have f0 := HR7.out.frozen 0
            have lH : H < wc.heap.size := by omega
            have jN : (0 : Int) < (N : Int) := by omega
            go_wp2
            go_roundw
            case rel => exact ⟨j + 1, setb b Kp 0, by omega, by go_num, hide (HB7.out.setCell (by simp) _), hide ((HR7.out.set 0 (.int .i64 0)).congr (fun x hx => by
              unfold setb
              rw [HK0.out]
              by_cases e : x = 0
              · rw [if_pos e, if_pos e]
              · rw [if_neg e, if_neg e, if_neg e])), HDN, by simpa [World.setCell] using hz7⟩
            case measure => simp [intOf]; omega
          · obtain rfl : bd = false := by rw [HBD.out]; simp [h00]
            have H00 := hide h00
            clear h00 HBD
            have HRS := hide (reps_start m lu lo i j)
            go_wp2
            go_loopw [13] (fun pv wr => ∃ (p : Nat) (r : Int), p ≤ i + 1 ∧ pv = .int .i64 p ∧ Hid (Below H W6 wr) ∧ Hid (wr.rowIs H 3 N (fun x => .int .i64 (setb b Kp r x))) ∧ Hid (LeastS (RepS m lu lo i j p 0) r) ∧ H + 1 ≤ wr.heap.size) (fun pv _ => i + 1 - (intOf pv).toNat)
            case atStart => exact ⟨0, -1, by omega, rfl, HB7, HR7, HRS, hz7⟩
            case round =>
              as_aux_lemma =>
              clear HB7 HR7 HRS hz7
              obtain ⟨p, r, hp, rfl, HB2, HR, HS, hz⟩ := hrel
              by_cases hpi : p ≤ i
              · have tp : decide ((p : Int) ≤ (i : Int)) = true := decide_eq_true (by omega)
                go_wp2
                go_loopw [14] (fun qv wr => ∃ (q : Nat) (r : Int), q ≤ j + 1 ∧ qv = .int .i64 q ∧ Hid (Below H W6 wr) ∧ Hid (wr.rowIs H 3 N (fun x => .int .i64 (setb b Kp r x))) ∧ Hid (LeastS (RepS m lu lo i j p q) r) ∧ H + 1 ≤ wr.heap.size) (fun qv _ => j + 1 - (intOf qv).toNat)
                case atStart => exact ⟨0, r, by omega, rfl, HB2, HR, HS, hz⟩
                case round =>
                  as_aux_lemma =>
                  clear HB2 HR HS hz tp r
                  obtain ⟨q, r, hq, rfl, HB2, HR, HS, hz⟩ := hrel
                  by_cases hqj : q ≤ j
                  · have tq : decide ((q : Int) ≤ (j : Int)) = true := decide_eq_true (by omega)
                    have hpl : p ≤ lu.length := by omega
                    have hql : q ≤ lo.length := by omega
                    obtain ⟨j2, hj2⟩ : ∃ z, z = p * k1 := ⟨_, rfl⟩
                    obtain ⟨P, hP⟩ : ∃ z, z = j2 + q := ⟨_, rfl⟩
                    have hPix : P = ixp lu.length lo.length 0 p q := by rw [hP, hj2, HK1.out]; unfold ixp; rw [HNO.out]; simp
                    have hPN : P < N := by rw [hPix, HN3.out]; exact ixp_lt (by omega) hpl hql
                    have e1 : (p : Int) * (k1 : Int) = (j2 : Int) := by rw [hj2]; push_cast; rfl
                    have e2 : (j2 : Int) + (q : Int) = (P : Int) := by omega
                    have hjb2 : j2 ≤ 25 := by omega
                    have cP := HR.out.cell hPN
                    have fP := HR.out.frozen P
                    obtain ⟨sv, hsv⟩ : ∃ z, z = setb b Kp r P := ⟨_, rfl⟩
                    rw [← hsv] at cP
                    have lH : H < wr.heap.size := by omega
                    have pI0 : (0 : Int) ≤ (P : Int) := by omega
                    have pI1 : (P : Int) < (N : Int) := by omega
                    have HPIX := hide hPix
                    have HSV := hide hsv
                    obtain ⟨sk, hsk⟩ : ∃ x : Bool, x = decide ((p = i ∧ q = j) ∨ sv < 0) := ⟨_, rfl⟩
                    have HSK := hide hsk
                    clear hj2 hP hPix hsv hsk
                    go_upto_region 23 with fail
                    go_cut [116] from 98 to 154 (fun s116 wq => s116 = .bool sk ∧ wq = wr)
                    case first =>
                      as_aux_lemma =>
                      by_cases hpe : p = i
                      · have tp1 : ((p : Int) == (i : Int)) = true := by simp; omega
                        by_cases hqe : q = j
                        · have tq1 : ((q : Int) == (j : Int)) = true := by simp; omega
                          have HV := hide (show sk = true by rw [HSK.out]; simp [hpe, hqe])
                          clear hpe hqe HSK
                          go_wp2
                          go_meet
                          exact ⟨by rw [HV.out], rfl⟩
                        · have tq1 : ((q : Int) == (j : Int)) = false := by simp; omega
                          have HV := hide (show sk = decide (sv < 0) by rw [HSK.out]; simp [hqe])
                          clear hpe hqe HSK
                          go_wp2
                          go_meet
                          exact ⟨by rw [HV.out], rfl⟩
                      · have tp1 : ((p : Int) == (i : Int)) = false := by simp; omega
                        have HV := hide (show sk = decide (sv < 0) by rw [HSK.out]; simp [hpe])
                        clear hpe HSK
                        go_wp2
                        go_meet
                        exact ⟨by rw [HV.out], rfl⟩
                    case rest =>
                    obtain ⟨rfl, rfl⟩ := hcut
                    by_cases hpq : p = i ∧ q = j
                    · obtain rfl : sk = true := by rw [HSK.out]; simp [hpq]
                      have HS2 := hide (show LeastS (RepS m lu lo i j p (q + 1)) r by
                        have h := HS.out
                        rw [hpq.1, hpq.2] at h ⊢
                        exact reps_skip h)
                      clear hpq HSK HS e1 e2 cP fP
                      go_wp2
                      go_roundw
                      case rel => exact ⟨q + 1, r, by omega, by go_num, HB2, HR, HS2, hz⟩
                      case measure => simp [intOf]; omega
                    have hPK : P ≠ Kp := by rw [HPIX.out, HKIX.out]; exact dp_far hil hjl hpl hql hpq
                    have hsb : sv = b P := by rw [HSV.out]; unfold setb; rw [if_neg hPK]
                    have hls : LeastS (Rep m (lu.take p) (lo.take q)) sv := by rw [hsb, HPIX.out]; exact HD.out p q hpl hql (by omega)
                    have HLS := hide hls
                    have HPQ := hide hpq
                    have slo := hls.low
                    have shi := rep_small HZ.out (by have := List.length_take_le p lu; omega) (by have := List.length_take_le q lo; omega) hls
                    clear hls hpq hsb
                    by_cases hs0 : sv < 0
                    · obtain rfl : sk = true := by rw [HSK.out]; simp [hs0]
                      have HS2 := hide (reps_none hpi hqj HPQ.out HS.out HLS.out hs0)
                      clear HSK HS e1 e2 cP fP
                      go_wp2
                      go_roundw
                      case rel => exact ⟨q + 1, r, by omega, by go_num, HB2, HR, HS2, hz⟩
                      case measure => simp [intOf]; omega
                    obtain rfl : sk = false := by rw [HSK.out]; simp [HPQ.out, hs0]
                    obtain ⟨V1, hV1, hv1⟩ := cut_mid (A := A1) (c := cc1) hpi hin hu1 hu2
                    obtain ⟨V2, hV2, hv2⟩ := cut_mid (A := A2) (c := cc2) hqj hjn ho1 ho2
                    have HV1 := hide hv1
                    have HV2 := hide hv2
                    have ex := wv_at (m := m) HVA.out (wordF_take (wordF_take HWU.out 0 i).1 0 p).2 (wordF_take (wordF_take HWO.out 0 j).1 0 q).2
                    have hst := reps_step hpi hqj HPQ.out HS.out HLS.out
                    have xhi := wgt_small (valid_of HVA.out) (u := (lu.take i).drop p) (v := (lo.take j).drop q) (by rw [List.length_drop, List.length_take]; omega) (by rw [List.length_drop, List.length_take]; omega)
                    rw [← ex] at hst xhi
                    have xlo := wv_low m ((lu.take i).drop p) ((lo.take j).drop q)
                    clear ex hv1 hv2 HSK HS
                    have HCX := hide (fun W hM hU hO => HWW.out (.agg #[.int .i64 m.n, .slice A n c, .slice AF nf cf]) V1 V2 m ((lu.take i).drop p) ((lo.take j).drop q) W W.heap.size (Nat.le_refl _) hM hU hO)
                    obtain ⟨x, hx⟩ : ∃ x, x = wv m ((lu.take i).drop p) ((lo.take j).drop q) := ⟨_, rfl⟩
                    rw [← hx] at HCX hst xhi xlo
                    have HST := hide hst
                    clear hx hst
                    go_upto_region 24 with fail
                    have bX := HX.out.below HB2.out hXb
                    have z0 := bX.drew.cell 0
                    have z1 := bX.drew.cell 1
                    have z2 := bX.drew.cell 2
                    simp at z0 z1 z2
                    have p0 : (0 : Int) ≤ (p : Int) := by omega
                    have p1 : (p : Int) ≤ (i : Int) := by omega
                    have q0 : (0 : Int) ≤ (q : Int) := by omega
                    have q1 : (q : Int) ≤ (j : Int) := by omega
                    refine wp_mix (fun w' => w'.cell? ⟨w.heap.size, 0, none⟩ = some (.int .i64 m.n) ∧ w'.cell? ⟨w.heap.size, 1, none⟩ = some (.slice A n c) ∧ w'.cell? ⟨w.heap.size, 2, none⟩ = some (.slice AF nf cf)) 9 [(0, false), (1, false), (2, false), (3, false), (4, false), (5, false), (6, false), (7, false), (8, false)] (by kernel_rfl) (by kernel_rfl) ?_ ?_
                    · exact ⟨z0, z1, z2⟩
                    simp only [List.drop_succ_cons, List.drop_zero]
                    clear z0 z1 z2 bX
                    repeat (refine mix_q (v := ?_) (by rfl) (by rfl) ?_ ?_; rotate_left; (focus (intro w' hC; (try dsimp only at hC); go_simp; (first | done | with_reducible rfl))); simp only [Act.put, List.setIfInBounds_toArray, List.set_cons_zero, List.set_cons_succ, List.getElem_toArray, List.getElem_cons_zero, List.getElem_cons_succ])
                    refine mix_nil ?_; try simp only [Act.put, List.setIfInBounds_toArray, List.set_cons_zero, List.set_cons_succ, List.getElem_toArray, List.getElem_cons_zero, List.getElem_cons_succ]
                    have hbr : Below w.heap.size w wc := HBW.out.trans (HB2.out.mono (by omega))
                    have hbz := hbr.size
                    go_wp2_with fail
                    refine (HCX.out _ ((HA.out.below hbr.drew hB).mono (by simp; omega)) (HV1.out _ _ _ ((HU.out.below hbr.drew hB).mono (by simp; omega))) (HV2.out _ _ _ ((HO.out.below hbr.drew hB).mono (by simp; omega)))).mono ?_
                    rintro e w6 ⟨rfl, hb6⟩
                    have HB6 := hide (HB2.out.drew.trans (hb6.mono (by simp; omega)))
                    have HR6 := hide (row_below HR.out.drew hb6 (by simp; omega))
                    have hz6 : H + 1 ≤ w6.heap.size := by have := hb6.size; simp at this; omega
                    clear hb6 HB2 HR hz hbr hbz cP fP lH HCX hV1 hV2 HV1 HV2
                    go_wp2
                    refine NoPanic.normal ?_
                    by_cases hx0 : 0 ≤ x
                    · have tx : decide (x ≥ 0) = true := decide_eq_true hx0
                      have tx' : decide (0 ≤ x) = true := decide_eq_true hx0
                      have HS2 := hide (show LeastS (RepS m lu lo i j p (q + 1)) (lightP r (sv + x)) by have h := HST.out; unfold stepC at h; rwa [if_pos ⟨by omega, hx0⟩] at h)
                      have HSVB := hide (show setb b Kp r P = sv by rw [HSV.out])
                      have cK : w6.drew.cell? ⟨H, Kp, none⟩ = some (.int .i64 r) := by have h := HR6.out.drew.cell hKN; simpa [setb] using h
                      have cP : w6.drew.cell? ⟨H, P, none⟩ = some (.int .i64 sv) := by have h := HR6.out.drew.cell hPN; rw [HSVB.out] at h; exact h
                      have f1 := HE1.out
                      have f2 := HE2.out
                      have g0 : IntKind.i64.wrap (j1 : Int) = (j1 : Int) := IntWalk.i64_in _ (by omega)
                      have g1 : IntKind.i64.wrap (Kp : Int) = (Kp : Int) := IntWalk.i64_in _ (by omega)
                      have g2 : IntKind.i64.wrap (j2 : Int) = (j2 : Int) := IntWalk.i64_in _ (by omega)
                      have g3 : IntKind.i64.wrap (P : Int) = (P : Int) := IntWalk.i64_in _ (by omega)
                      have g4 : IntKind.i64.wrap (sv + x) = (sv + x) := IntWalk.i64_in _ (by omega)
                      go_upto_region 26 with fail
                      refine wp_mix (fun w' => w'.cell? ⟨H, Kp, none⟩ = some (.int .i64 r) ∧ w'.cell? ⟨H, P, none⟩ = some (.int .i64 sv)) 25 [(0, false), (1, false), (2, false), (3, false), (4, false), (5, false), (6, false), (7, false), (8, false), (9, false), (10, false), (11, false), (12, false), (13, false), (14, false), (15, false), (16, false), (17, false), (18, false), (19, false), (20, false), (21, false), (22, false), (23, false), (24, true)] (by kernel_rfl) (by kernel_rfl) ?_ ?_
                      · exact ⟨cK, cP⟩
                      simp only [List.drop_succ_cons, List.drop_zero]
                      have HCK := hide cK
                      have HCP := hide cP
                      clear cK cP
                      repeat (refine mix_q (v := ?_) (by rfl) (by rfl) ?_ ?_; rotate_left; (focus (intro w' hC; (try dsimp only at hC); go_simp; (first | done | with_reducible rfl))); simp only [Act.put, List.setIfInBounds_toArray, List.set_cons_zero, List.set_cons_succ, List.getElem_toArray, List.getElem_cons_zero, List.getElem_cons_succ])
                      refine mix_l (by rfl) (by rfl) (fun K hK => ?_)
                      go_simp
                      refine (HL.out _ _ _).mono ?_
                      rintro e _ ⟨rfl, rfl⟩
                      refine hK _ _ ⟨HCK.out, HCP.out⟩ ?_
                      clear hK K
                      have cK := HCK.out
                      refine mix_nil ?_; try simp only [Act.put, List.setIfInBounds_toArray, List.set_cons_zero, List.set_cons_succ, List.getElem_toArray, List.getElem_cons_zero, List.getElem_cons_succ]
                      have fK := HR6.out.drew.frozen Kp
                      have lH : H < w6.drew.heap.size := by simp; omega
                      go_wp2
                      refine NoPanic.normal ?_
                      go_wp2
                      go_roundw
                      case rel => exact ⟨q + 1, lightP r (sv + x), by omega, by go_num, hide (HB6.out.drew.setCell (by simp) _), hide ((HR6.out.drew.set Kp (.int .i64 (lightP r (sv + x)))).congr (fun y hy => by
                        unfold setb
                        by_cases e : y = Kp
                        · rw [if_pos e, if_pos e]
                        · rw [if_neg e, if_neg e, if_neg e])), HS2, by simpa [World.setCell] using hz6⟩
                      case measure => simp [intOf]; omega
                    · have tx : decide (x ≥ 0) = false := decide_eq_false hx0
                      have tx' : decide (0 ≤ x) = false := decide_eq_false hx0
                      have HS2 := hide (show LeastS (RepS m lu lo i j p (q + 1)) r by have h := HST.out; unfold stepC at h; rwa [if_neg (by omega)] at h)
                      go_wp2
                      go_roundw
                      case rel => exact ⟨q + 1, r, by omega, by go_num, HB6, HR6, HS2, hz6⟩
                      case measure => simp [intOf]; omega
                  · obtain rfl : q = j + 1 := by omega
                    have tq : decide (((j + 1 : Nat) : Int) ≤ (j : Int)) = false := decide_eq_false (by omega)
                    have HS2 := hide (reps_row HS.out)
                    go_wp2
                    go_roundw
                    case rel => exact ⟨p + 1, r, by omega, by go_num, HB2, HR, HS2, hz⟩
                    case measure => simp [intOf]; omega
              · obtain rfl : p = i + 1 := by omega
                have tp : decide (((i + 1 : Nat) : Int) ≤ (i : Int)) = false := decide_eq_false (by omega)
                have HDN := hide (show DP m lu lo i (j + 1) (setb b Kp r) by
                  rw [HKIX.out]
                  exact dp_next hil hjl HD.out (reps_end hil hjl H00.out HS.out))
                go_wp2
                go_roundw
                case rel => exact ⟨j + 1, setb b Kp r, by omega, by go_num, HB2, HR, HDN, hz⟩
                case measure => simp [intOf]; omega
        · obtain rfl : j = k1 := by have := HK1.out; omega
          have tj : decide ((j : Int) ≤ (no : Int)) = false := decide_eq_false (by omega)
          have HDN := hide (dp_row (show DP m lu lo i (lo.length + 1) b by rw [HNO.out, ← HK1.out]; exact HD.out))
          go_wp2
          go_roundw
          case rel => exact ⟨i + 1, b, by omega, by go_num, HB2, HR, HDN, hz⟩
          case measure => simp [intOf]; omega
    · obtain rfl : i = n1 := by have := HN1.out; omega
      have ti : decide ((i : Int) ≤ (nu : Int)) = false := decide_eq_false (by omega)
      obtain ⟨L, hL⟩ : ∃ L, L + 1 = N := ⟨N - 1, by omega⟩
      have hLix : L = ixp lu.length lo.length 0 lu.length lo.length := by
        have h := HN3.out
        unfold ixp
        rw [Nat.one_mul, Nat.add_mul, Nat.one_mul] at h
        rw [Nat.zero_mul, Nat.zero_add]
        omega
      have HE := hide (star_end HZ.out HWU.out HWO.out (r := b L) (by rw [hLix]; exact HD.out _ _ (Nat.le_refl _) (Nat.le_refl _) (.inl (by rw [HNU.out]; exact hun1))))
      have HCP := hide (fun W hM hU hO => HWW.out (.agg #[.int .i64 g3, .slice A3 n3 c3, .slice AF3 nf3 cf3]) (.slice A1 nu cc1) (.slice A2 no cc2) (starR m) lu lo W W.heap.size (Nat.le_refl _) hM hU hO)
      rw [HE.out] at HCP
      have hLN : L < N := by omega
      have hLI : (N : Int) - 1 = (L : Int) := by omega
      have l0 : (0 : Int) ≤ (L : Int) := by omega
      have l1 : (L : Int) < (N : Int) := by omega
      have lN : (N : Int) ≤ 25 := by omega
      have hwL : IntKind.i64.wrap (L : Int) = (L : Int) := IntWalk.i64_in _ (by omega)
      have hbw : Below w.heap.size w wr := HBW.out.trans (HB2.out.mono (by omega))
      have hbz := hbw.size
      obtain ⟨y, hy⟩ : ∃ y, y = b L := ⟨_, rfl⟩
      have HRY := hide (show ∀ W : World, W.rowIs H 3 N (fun x => .int .i64 (b x)) → W.cell? ⟨H, L, none⟩ = some (.int .i64 y) from fun W h => by rw [hy]; exact h.cell hLN)
      rw [← hy] at HCP
      have HT4 := hide (HT3.out.below (HB6.out.trans HB2.out) hH5)
      clear HE hy hLix hL HD ti
      go_upto_region 27 with fail
      have bP := HP.out.below HB2.out hPb
      have z0 := bP.drew.cell 0
      have z1 := bP.drew.cell 1
      have z2 := bP.drew.cell 2
      simp at z0 z1 z2
      have cL := HRY.out _ HR.out.drew
      refine wp_mix (fun w' => w'.cell? ⟨w3.heap.size, 0, none⟩ = some (.int .i64 g3) ∧ w'.cell? ⟨w3.heap.size, 1, none⟩ = some (.slice A3 n3 c3) ∧ w'.cell? ⟨w3.heap.size, 2, none⟩ = some (.slice AF3 nf3 cf3) ∧ w'.cell? ⟨H, L, none⟩ = some (.int .i64 y)) 10 [(0, false), (1, false), (2, false), (4, false), (5, false), (6, false), (7, false), (8, false), (9, false), (3, true)] (by kernel_rfl) (by kernel_rfl) ?_ ?_
      · exact ⟨z0, z1, z2, cL⟩
      simp only [List.drop_succ_cons, List.drop_zero]
      clear z0 z1 z2 cL
      repeat (refine mix_q (v := ?_) (by rfl) (by rfl) ?_ ?_; rotate_left; (focus (intro w' hC; (try dsimp only at hC); go_simp; (first | done | with_reducible rfl))); simp only [Act.put, List.setIfInBounds_toArray, List.set_cons_zero, List.set_cons_succ, List.getElem_toArray, List.getElem_cons_zero, List.getElem_cons_succ])
      refine mix_l (by rfl) (by rfl) (fun K hK => ?_)
      go_simp
      refine (HCP.out _ HT4.out.drew.at_ ((HU.out.below hbw.drew hB).mono (by simp; omega)) ((HO.out.below hbw.drew hB).mono (by simp; omega))).mono ?_
      rintro e w8 ⟨rfl, hb8⟩
      replace bP := bP.drew.below hb8 bP.drew.lt
      replace hbw := hbw.drew.trans (hb8.mono hbw.drew.size)
      have z0 := bP.cell 0
      have z1 := bP.cell 1
      have z2 := bP.cell 2
      simp at z0 z1 z2
      refine hK _ _ ⟨z0, z1, z2, HRY.out _ (row_below HR.out.drew hb8 (by simp; omega))⟩ ?_
      clear hK K z0 z1 z2 bP
      refine mix_nil ?_; try simp only [Act.put, List.setIfInBounds_toArray, List.set_cons_zero, List.set_cons_succ, List.getElem_toArray, List.getElem_cons_zero, List.getElem_cons_succ]
      go_wp2
      refine NoPanic.normal ?_
      go_wp2
      exact bodyPost_ret (v := .bool true) (by simp [results, Try.results4, go_sem]) rfl ⟨rfl, hbw⟩
end Go.Proofs.Ytpahodbnljpnnaa
