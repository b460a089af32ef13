/- The reference's Weigh, walked. -/
import Derived.Test.YtbedbpbgdmbipaaWdW
import Derived.Test.YtbedbpbgdmbipaaWeP
import Derived.Test.YtbedbpbgdmbipaaNew
import Derived.Test.YtbedbpbgdmbipaaReach
import Derived.Deep.CutRange
namespace Gm
theorem stp_val {u v : List Int} {a : Arc} {i j : Nat} (h : (stp u v a i j).isNone = false) : stp u v a i j = some (if a.i = 0 then i else i + 1, if a.o = 0 then j else j + 1) := by
  unfold stp at h ⊢
  by_cases h1 : a.i ≠ 0 ∧ (i = u.length ∨ u.getD i 0 ≠ a.i)
  · rw [if_pos h1] at h; simp at h
  · rw [if_neg h1] at h ⊢
    by_cases h2 : a.o ≠ 0 ∧ (j = v.length ∨ v.getD j 0 ≠ a.o)
    · rw [if_pos h2] at h; simp at h
    · rw [if_neg h2]
theorem stp_noI {u v : List Int} {a : Arc} {i j : Nat} (h1 : a.i ≠ 0) (h2 : i = u.length ∨ u.getD i 0 ≠ a.i) : (stp u v a i j).isNone = true := by
  unfold stp; rw [if_pos ⟨h1, h2⟩]; rfl
theorem stp_noO {u v : List Int} {a : Arc} {i j : Nat} (h1 : a.o ≠ 0) (h2 : j = v.length ∨ v.getD j 0 ≠ a.o) : (stp u v a i j).isNone = true := by
  unfold stp
  by_cases h : a.i ≠ 0 ∧ (i = u.length ∨ u.getD i 0 ≠ a.i)
  · rw [if_pos h]; rfl
  · rw [if_neg h, if_pos ⟨h1, h2⟩]; rfl
theorem stp_yesB {u v : List Int} {a : Arc} {i j : Nat} (h1 : a.i = 0 ∨ (i ≠ u.length ∧ u.getD i 0 = a.i)) (h2 : a.o = 0 ∨ (j ≠ v.length ∧ v.getD j 0 = a.o)) : (stp u v a i j).isNone = false := by
  unfold stp
  rw [if_neg, if_neg]
  · rfl
  · rintro ⟨g, h⟩
    rcases h2 with h2 | ⟨h2, h3⟩
    · exact g h2
    · rcases h with h | h
      · exact h2 h
      · exact h h3
  · rintro ⟨g, h⟩
    rcases h1 with h2 | ⟨h2, h3⟩
    · exact g h2
    · rcases h with h | h
      · exact h2 h
      · exact h h3
end Gm
namespace Go.Proofs.Ytbedbpbgdmbipaa
open Go.RowKit Gm
set_option linter.unusedSimpArgs false
set_option linter.unusedVariables false
set_option maxRecDepth 100000 in
set_option maxHeartbeats 16000000 in
theorem weigh_good (v v1 v2 : Value) (m : Mach) (S : Nat) (lu lo : List Int) (w : World) (B : Nat) (hB : B ≤ w.heap.size) (h : MachAt w B v m) (hS : m.n = (S : Int)) (hS0 : 0 < S) (hS4 : S ≤ 400) (hn2 : m.arcs.length ≤ 2000) (hrng : inRange m.arcs S) (hwa : ∀ a ∈ m.arcs, 0 ≤ a.w ∧ a.w ≤ 1000000) (hfr : ∀ x ∈ m.fins, 0 ≤ x.s ∧ x.s < (S : Int) ∧ 0 ≤ x.w ∧ x.w ≤ 1000000)
    (hu30 : lu.length ≤ 30) (ho30 : lo.length ≤ 30) (h1 : Nums w B v1 lu) (h2 : Nums w B v2 lo) :
    Calls Try.prog 13 #[v, v1, v2] w fun e w' => e = .returned (.int .i64 (wgt m lu lo)) ∧ Below w.heap.size w w' := by
  obtain ⟨wv, hwv⟩ : ∃ x, x = wgt m lu lo := ⟨_, rfl⟩
  rw [← hwv]
  have HWV := hide hwv
  clear hwv
  obtain ⟨AM, AF, n, c, nf, cf, rfl, HN, HF, hnc, hnfc, hnb, hnfb, hA, hF⟩ := h
  rw [hS]
  have HS := hide hS
  rw [HN.out] at hn2
  obtain ⟨A1, nu, cc1, rfl, HNU, hu1, hu2, hru⟩ := h1
  obtain ⟨A2, no, cc2, rfl, HNO, ho1, ho2, hro⟩ := h2
  rw [HNU.out] at hu30
  rw [HNO.out] at ho30
  obtain ⟨n1, hn1⟩ : ∃ k, k = nu + 1 := ⟨_, rfl⟩
  obtain ⟨k1, hk1⟩ : ∃ k, k = no + 1 := ⟨_, rfl⟩
  obtain ⟨N1, hN1⟩ : ∃ N, N = S * n1 := ⟨_, rfl⟩
  obtain ⟨N, hN⟩ : ∃ N, N = N1 * k1 := ⟨_, rfl⟩
  have hN1b : N1 ≤ 12400 := by
    have := Nat.mul_le_mul hS4 (show n1 ≤ 31 by omega)
    omega
  have hNb : N ≤ 384400 := by
    have := Nat.mul_le_mul hN1b (show k1 ≤ 31 by omega)
    omega
  have hN1p : 0 < N1 := by rw [hN1]; exact Nat.mul_pos hS0 (by omega)
  have hNp : 0 < N := by rw [hN]; exact Nat.mul_pos hN1p (by omega)
  have hn1I : (nu : Int) + 1 = (n1 : Int) := by omega
  have hk1I : (no : Int) + 1 = (k1 : Int) := by omega
  have hN1I : (S : Int) * (n1 : Int) = (N1 : Int) := by rw [hN1]; push_cast; rfl
  have hNI : (N1 : Int) * (k1 : Int) = (N : Int) := by rw [hN]; push_cast; rfl
  have hN3 : N = S * (lu.length + 1) * (lo.length + 1) := by rw [hN, hN1, hn1, hk1, HNU.out, HNO.out]
  have HN3 := hide hN3
  have HN1 := hide hn1
  have HK1 := hide hk1
  have hmkF := fun (W : World) => run_make_row' (P := Try.prog) 26 3 (.int .i64 0) 8 Try.underlying26 int_info rfl .i64 .i64 N (by omega) (by omega) W
  have HWA := hide hwa
  have HFR := hide hfr
  have HRNG := hide hrng
  have HSZ := hide hS0
  have HA := hide hA
  have HFF := hide hF
  have HRU := hide hru
  have HRO := hide hro
  have tS : decide ((S : Int) > 0) = true := decide_eq_true (by omega)
  have tS' : decide ((0 : Int) < (S : Int)) = true := decide_eq_true (by omega)
  have ln1 : (n1 : Int) ≤ 31 := by omega
  have lk1 : (k1 : Int) ≤ 31 := by omega
  have hun1 : nu < n1 := by omega
  have hok1 : no < k1 := by omega
  unfold big at hnb hnfb hu2 ho2
  clear hwa hfr hrng hA hF hru hro hN3 hn1 hk1 hN1 hN hS
  go_enter Try.func13, Try.ntmps13
  go_wp2
  clear hmkF hN1I hNI
  generalize hW : World.alloc _ _ = W0
  obtain ⟨H, hH⟩ : ∃ H, H = w.heap.size + 1 := ⟨_, rfl⟩
  have hb0 : Below w.heap.size w W0 := by rw [← hW]; go_grown
  have bM : Blk W0 w.heap.size 25 #[.int .i64 (S : Int), .slice AM n c, .slice AF nf cf] := by rw [← hW]; exact ((Blk.new w _ _).alloc _)
  have rF0 : W0.rowIs H 3 N (fun i => .int .i64 (if i < 0 then -1 else 0)) := by
    rw [← hW, hH]
    have := World.rowIs_made (w.alloc (.cells #[.int .i64 (S : Int), .slice AM n c, .slice AF nf cf] 25)) (.int .i64 0) N 3
    simpa using this
  have hz0 : H + 1 ≤ W0.heap.size := by rw [← hW, hH]; simp
  have HA0 := hide ((HA.out.below hb0 hB).mono (show B ≤ H by omega))
  have HF0 := hide ((HFF.out.below hb0 hB).mono (show B ≤ H by omega))
  have HRU0 := hide ((HRU.out.below hb0 hB).mono (show B ≤ H by omega))
  have HRO0 := hide ((HRO.out.below hb0 hB).mono (show B ≤ H by omega))
  have HBM := hide bM
  have HB0 := hide hb0
  have hwH : w.heap.size < H := by omega
  simp only [← hH]
  clear hW hb0 bM hH HA HFF HRU HRO
  go_loopw [39] (fun iv wr => ∃ k : Nat, k ≤ N ∧ iv = .int .i64 k ∧ Hid (Below H W0 wr) ∧ Hid (wr.rowIs H 3 N (fun i => .int .i64 (if i < k then -1 else 0))) ∧ H + 1 ≤ wr.heap.size) (fun iv _ => N - (intOf iv).toNat)
  case atStart => exact ⟨0, by omega, rfl, hide (Below.refl _ _), hide rF0, hz0⟩
  case round =>
    clear rF0 hz0
    obtain ⟨q, hq, rfl, HB3, HR, hz⟩ := hrel
    have kM := HBM.out.below HB3.out hwH
    have k0 : wr.cell? ⟨w.heap.size, 0, none⟩ = some (.int .i64 (S : Int)) := kM.cell 0
    have lM : w.heap.size < wr.heap.size := by omega
    clear kM
    by_cases hqS : q < N
    · have cH := HR.out.cell hqS
      have fH := HR.out.frozen q
      have lH : H < wr.heap.size := by omega
      have j0 : (0 : Int) ≤ (q : Int) := by omega
      have j1 : (q : Int) < (N : Int) := by omega
      go_wp2
      go_roundw
      case rel => exact ⟨q + 1, by omega, by go_num, hide (HB3.out.setCell (by simp) _), hide ((HR.out.set q (.int .i64 (-1))).congr (fun i _ => by by_cases e : i = q <;> simp [e] <;> (by_cases e2 : i < q <;> simp [e2] <;> omega))), by simpa [World.setCell] using hz⟩
      case measure => simp [intOf]; omega
    · obtain rfl : N = q := by omega
      have cH0 := HR.out.cell hNp
      have fH0 := HR.out.frozen 0
      have lH : H < wr.heap.size := by omega
      have jN : (0 : Int) < (N : Int) := by omega
      go_wp2
      generalize hW : World.setCell _ _ _ = W1
      have HB1 := hide (show Below H W0 W1 by rw [← hW]; exact HB3.out.setCell (by simp) _)
      have HR1 := hide (show W1.rowIs H 3 N (fun i => .int .i64 (setb (fun _ => -1) 0 0 i)) by
        rw [← hW]; exact (HR.out.set 0 (.int .i64 0)).congr (fun i hi => by
          unfold setb
          by_cases e : i = 0
          · rw [if_pos e, if_pos e]
          · rw [if_neg e, if_neg e, if_pos hi]))
      have hz1 : H + 1 ≤ W1.heap.size := by rw [← hW]; simpa [World.setCell] using hz
      have HRX0 := hide (rlx_start (W := 1000000) (m := m) (u := lu) (v := lo) (S := S) (N := N) (by rw [HS.out]; omega))
      obtain ⟨g0, hg0⟩ : ∃ g, g = pot 1000000 (setb (fun _ => -1) 0 0) N + 1 := ⟨_, rfl⟩
      have HG0 := hide hg0
      clear hW hg0 HB3 HR hz k0 lM cH0 fH0 lH
      go_loopg [11] g0 (fun gk lv wr => ∃ (b : Nat → Int) (again : Bool), lv = .bool again ∧ Hid (Below H W0 wr) ∧ Hid (wr.rowIs H 3 N (fun i => .int .i64 (b i))) ∧ Hid (Rlx 1000000 m lu lo S N b) ∧ Hid (again = false → DoneTo m lu lo b (ixp lu.length lo.length n 0 0)) ∧ Hid (pot 1000000 b N + (if again = true then 1 else 0) ≤ gk) ∧ H + 1 ≤ wr.heap.size)
      case atStart => exact ⟨_, true, rfl, HB1, HR1, HRX0, hide (fun h => by simp at h), hide (by rw [HG0.out]; simp), hz1⟩
      case round =>
        clear HB1 HR1 HRX0 hz1 HG0
        obtain ⟨b0, again, rfl, HB, HR, HRX, HDN, HPG, hz⟩ := hrel
        have kM := HBM.out.below HB.out hwH
        have q1 : wr.cell? ⟨w.heap.size, 1, none⟩ = some (.slice AM n c) := kM.cell 1
        have q2 : wr.cell? ⟨w.heap.size, 2, none⟩ = some (.slice AF nf cf) := kM.cell 2
        have lM : w.heap.size < wr.heap.size := by omega
        clear kM
        cases again
        · have HDE := hide (HDN.out rfl)
          have HEND := hide (rlx_end HRX.out HSZ.out HRNG.out (fun a ha => (HWA.out a ha).1) (by rw [HN.out]; exact HDE.out))
          clear HDN HPG HDE
          go_wp2
          go_loopw [20, 173] (fun lv iv wr => ∃ (k : Nat) (least : Int), k ≤ nf ∧ lv = .int .i64 least ∧ iv = .int .i64 k ∧ Hid (Below H W0 wr) ∧ Hid (wr.rowIs H 3 N (fun i => .int .i64 (b0 i))) ∧ Hid (LB m lu lo b0 k least) ∧ -1 ≤ least ∧ least ≤ 400000000000 ∧ H + 1 ≤ wr.heap.size) (fun _ iv _ => nf - (intOf iv).toNat)
          case atStart => exact ⟨0, -1, by omega, rfl, rfl, HB, HR, hide lb_start, by omega, by omega, hz⟩
          case round =>
            as_aux_lemma =>
            clear HB HR hz q1 q2 lM
            obtain ⟨k, least, hk, rfl, rfl, HB2, HR2, HLB, hl0, hl1, hz2⟩ := hrel
            by_cases hkn : k < nf
            · obtain ⟨b, off, x, rfl, hbB, c0, c1, HX⟩ := fins_at (HF0.out.below HB2.out (Nat.le_refl _)) hkn
              have hkl : k < m.fins.length := by rw [HF.out]; exact hkn
              obtain ⟨r0, r1, r2, r3⟩ := HFR.out x (by rw [← HX.out]; simp [List.getD, hkl])
              obtain ⟨fs, hfs⟩ : ∃ z : Nat, x.s = (z : Int) := ⟨x.s.toNat, by omega⟩
              have hfsS : fs < S := by omega
              obtain ⟨j1, hj1⟩ : ∃ j, j = fs * n1 := ⟨_, rfl⟩
              obtain ⟨j2, hj2⟩ : ∃ j, j = j1 + n1 := ⟨_, rfl⟩
              obtain ⟨j3, hj3⟩ : ∃ j, j = j1 + nu := ⟨_, rfl⟩
              obtain ⟨j4, hj4⟩ : ∃ j, j = j3 * k1 := ⟨_, rfl⟩
              obtain ⟨j5, hj5⟩ : ∃ j, j = j4 + k1 := ⟨_, rfl⟩
              obtain ⟨K, hK⟩ : ∃ j, j = j4 + no := ⟨_, rfl⟩
              have hKix : K = ixp lu.length lo.length x.s.toNat lu.length lo.length := by rw [hK, hj4, hj3, hj1, HN1.out, HK1.out, HNU.out, HNO.out, hfs]; rfl
              have hKN : K < N := by rw [hKix, HN3.out]; exact ixp_lt (by omega) (Nat.le_refl _) (Nat.le_refl _)
              have hj34 : j3 ≤ j4 := by rw [hj4]; exact Nat.le_mul_of_pos_right _ (by omega)
              have e1 : (fs : Int) * (n1 : Int) = (j1 : Int) := by rw [hj1]; push_cast; rfl
              have e2 : (j1 : Int) + (n1 : Int) = (j2 : Int) := by omega
              have e3 : (j2 : Int) - 1 = (j3 : Int) := by omega
              have e4 : (j3 : Int) * (k1 : Int) = (j4 : Int) := by rw [hj4]; push_cast; rfl
              have e5 : (j4 : Int) + (k1 : Int) = (j5 : Int) := by omega
              have e6 : (j5 : Int) - 1 = (K : Int) := by omega
              have hjb : j1 ≤ 400000 ∧ j2 ≤ 400000 ∧ j3 ≤ 400000 ∧ j4 ≤ 400000 ∧ j5 ≤ 400000 := by omega
              obtain ⟨hb1, hb2, hb3, hb4, hb5⟩ := hjb
              have hcK := HR2.out.cell hKN
              obtain ⟨bv, hbv⟩ : ∃ z, z = b0 K := ⟨_, rfl⟩
              rw [← hbv] at hcK
              have hbv2 : bv ≤ 384400000000 := by
                have h1 := rlx_bound HRX.out (x := K)
                have h2 : (N - 1) * 1000000 ≤ 384400 * 1000000 := Nat.mul_le_mul_right _ (by omega)
                rw [← hbv] at h1
                have h3 : (((N - 1) * 1000000 : Nat) : Int) ≤ ((384400 * 1000000 : Nat) : Int) := Int.ofNat_le.2 h2
                exact Int.le_trans (Int.le_trans h1 h3) (by decide)
              have hbv0 : -1 ≤ bv := by rw [hbv]; exact HRX.out.low_ K
              have HBV := hide (show b0 (ixp lu.length lo.length x.s.toNat lu.length lo.length) = bv by rw [hbv, hKix])
              rw [hfs] at c0
              obtain ⟨xw, hxw⟩ : ∃ z, z = x.w := ⟨_, rfl⟩
              rw [← hxw] at c1 r2 r3
              have HXW := hide hxw
              have HXS := hide (show 0 ≤ x.s ∧ x.s < (S : Int) from ⟨r0, r1⟩)
              have lbw : b < wr.heap.size := by omega
              have lHw : H < wr.heap.size := by omega
              have kI0 : (0 : Int) ≤ (K : Int) := by omega
              have kI1 : (K : Int) < (N : Int) := by omega
              have hkl2 := hkl
              clear hj1 hj2 hj3 hj4 hj5 hK hKix hj34 hfs r0 r1 hxw hbv
              by_cases hb0 : 0 ≤ bv
              · have tb : decide (bv ≥ 0) = true := decide_eq_true hb0
                have tb' : decide (0 ≤ bv) = true := decide_eq_true hb0
                by_cases hl : least < 0
                · have tl : decide (least < 0) = true := decide_eq_true hl
                  have HL2 := hide (show LB m lu lo b0 (k + 1) (bv + xw) by have h := lb_take HLB.out HRX.out hkl2 HX.out HXS.out (by rw [← HXW.out]; exact r2) (by rw [HBV.out]; omega) (by rw [HBV.out, ← HXW.out]; omega); rw [HBV.out, ← HXW.out] at h; exact h)
                  go_wp2
                  go_roundw
                  case rel => exact ⟨k + 1, bv + xw, by omega, rfl, by go_num, hide (HB2.out.alloc (by omega) _), hide (HR2.out.alloc _), HL2, by omega, by omega, by simp; omega⟩
                  case measure => simp [intOf]; omega
                · have tl : decide (least < 0) = false := decide_eq_false hl
                  by_cases hs : bv + xw < least
                  · have ts : decide (bv + xw < least) = true := decide_eq_true hs
                    have HL2 := hide (show LB m lu lo b0 (k + 1) (bv + xw) by have h := lb_take HLB.out HRX.out hkl2 HX.out HXS.out (by rw [← HXW.out]; exact r2) (by rw [HBV.out]; omega) (by rw [HBV.out, ← HXW.out]; omega); rw [HBV.out, ← HXW.out] at h; exact h)
                    go_wp2
                    go_roundw
                    case rel => exact ⟨k + 1, bv + xw, by omega, rfl, by go_num, hide (HB2.out.alloc (by omega) _), hide (HR2.out.alloc _), HL2, by omega, by omega, by simp; omega⟩
                    case measure => simp [intOf]; omega
                  · have ts : decide (bv + xw < least) = false := decide_eq_false hs
                    have HL2 := hide (lb_skip HLB.out hkl2 HX.out (by rw [HBV.out, ← HXW.out]; omega))
                    go_wp2
                    go_roundw
                    case rel => exact ⟨k + 1, least, by omega, rfl, by go_num, hide (HB2.out.alloc (by omega) _), hide (HR2.out.alloc _), HL2, hl0, hl1, by simp; omega⟩
                    case measure => simp [intOf]; omega
              · have tb : decide (bv ≥ 0) = false := decide_eq_false hb0
                have tb' : decide (0 ≤ bv) = false := decide_eq_false hb0
                have HL2 := hide (lb_skip HLB.out hkl2 HX.out (by rw [HBV.out, ← HXW.out]; omega))
                go_wp2
                go_roundw
                case rel => exact ⟨k + 1, least, by omega, rfl, by go_num, hide (HB2.out.alloc (by omega) _), hide (HR2.out.alloc _), HL2, hl0, hl1, by simp; omega⟩
                case measure => simp [intOf]; omega
            · obtain rfl : nf = k := by omega
              have hle := lb_end (by rw [HF.out]; exact HLB.out) HEND.out (fun x hx => (HFR.out x hx).2.2.1)
              have HW := hide (HWV.out.trans (wgt_eq hle))
              clear hle
              go_wp2
              go_ret
              exact ⟨by rw [HW.out]; rfl, HB0.out.trans (HB2.out.mono (by omega))⟩
        · go_wp2
          go_loopw [11, 55] (fun av iv wr => ∃ (t : Nat) (again : Bool) (b : Nat → Int), t ≤ n ∧ av = .bool again ∧ iv = .int .i64 t ∧ Hid (Below H W0 wr) ∧ Hid (wr.rowIs H 3 N (fun i => .int .i64 (b i))) ∧ Hid (Rnd 1000000 m lu lo S N b0 b again (ixp lu.length lo.length t 0 0)) ∧ H + 1 ≤ wr.heap.size) (fun _ iv _ => n - (intOf iv).toNat)
          case atStart => exact ⟨0, false, b0, by omega, rfl, rfl, HB, HR, hide (rnd_start HRX.out), hz⟩
          case round =>
            clear HB HR hz q1 q2 lM HRX HDN
            obtain ⟨t, again, b1, ht, rfl, rfl, HB2, HR2, HRN, hz2⟩ := hrel
            by_cases htn : t < n
            · obtain ⟨b, off, a, rfl, hbB, c0, c1, c2, c3, c4, HA⟩ := arcs_at (HA0.out.below HB2.out (Nat.le_refl _)) htn
              have hain := getD_mem (by rw [HN.out]; exact htn) HA.out
              obtain ⟨hw0, hw1⟩ := HWA.out a hain
              obtain ⟨r0, r1, r2, r3⟩ := HRNG.out a hain
              obtain ⟨fk, hfk⟩ : ∃ k : Nat, a.f = (k : Int) := ⟨a.f.toNat, by omega⟩
              obtain ⟨ta, hta⟩ : ∃ k : Nat, a.t = (k : Int) := ⟨a.t.toNat, by omega⟩
              rw [hfk] at c0 r0 r1
              rw [hta] at c1 r2 r3
              have HFK := hide hfk
              have HTA := hide hta
              have HAIN := hide hain
              obtain ⟨aw, haw⟩ : ∃ z, z = a.w := ⟨_, rfl⟩
              obtain ⟨ai, hai⟩ : ∃ z, z = a.i := ⟨_, rfl⟩
              obtain ⟨ao, hao⟩ : ∃ z, z = a.o := ⟨_, rfl⟩
              rw [← hai] at c2
              rw [← hao] at c3
              rw [← haw] at c4 hw0 hw1
              have HAI := hide hai
              have HAO := hide hao
              have HAW := hide haw
              have lb : b < wr.heap.size := by omega
              clear hfk hta hain haw hai hao
              go_wp2
              generalize hW : World.alloc _ _ = W5
              obtain ⟨Z, hZ⟩ : ∃ Z, Z = wr.heap.size := ⟨_, rfl⟩
              have HZ := hide (show Blk W5 Z 54 #[.int .i64 (fk : Int), .int .i64 (ta : Int), .int .i64 ai, .int .i64 ao, .int .i64 aw] by rw [← hW]; exact Blk.at_ hZ)
              have HB5 := hide (show Below H W0 W5 by rw [← hW]; exact HB2.out.alloc (by omega) _)
              have HR5 := hide (show W5.rowIs H 3 N (fun i => .int .i64 (b1 i)) by rw [← hW]; exact HR2.out.alloc _)
              have hHZ : H < Z := by omega
              have hz5 : Z + 1 ≤ W5.heap.size := by rw [← hW, hZ]; simp
              simp only [← hZ]
              clear hW hZ HB2 HR2 hz2 c0 c1 c2 c3 c4 lb hbB
              go_loopw [11, 14] (fun av iv wr => ∃ (i : Nat) (again : Bool) (b : Nat → Int), i ≤ n1 ∧ av = .bool again ∧ iv = .int .i64 i ∧ Hid (Below H W0 wr) ∧ Hid (wr.rowIs H 3 N (fun i => .int .i64 (b i))) ∧ Hid (Blk wr Z 54 #[.int .i64 (fk : Int), .int .i64 (ta : Int), .int .i64 ai, .int .i64 ao, .int .i64 aw]) ∧ Hid (Rnd 1000000 m lu lo S N b0 b again (ixp lu.length lo.length t i 0)) ∧ Z + 1 ≤ wr.heap.size) (fun _ iv _ => n1 - (intOf iv).toNat)
              case atStart => exact ⟨0, again, b1, by omega, rfl, rfl, HB5, HR5, HZ, HRN, hz5⟩
              case round =>
                clear HB5 HR5 HZ HRN hz5
                obtain ⟨i, again, b1, hi, rfl, rfl, HB2, HR2, HZ, HRN, hz2⟩ := hrel
                by_cases hin : i < n1
                · go_wp2
                  go_loopw [11, 15] (fun av iv wr => ∃ (j : Nat) (again : Bool) (b : Nat → Int), j ≤ k1 ∧ av = .bool again ∧ iv = .int .i64 j ∧ Hid (Below H W0 wr) ∧ Hid (wr.rowIs H 3 N (fun i => .int .i64 (b i))) ∧ Hid (Blk wr Z 54 #[.int .i64 (fk : Int), .int .i64 (ta : Int), .int .i64 ai, .int .i64 ao, .int .i64 aw]) ∧ Hid (Rnd 1000000 m lu lo S N b0 b again (ixp lu.length lo.length t i j)) ∧ Z + 1 ≤ wr.heap.size) (fun _ iv _ => k1 - (intOf iv).toNat)
                  case atStart => exact ⟨0, again, b1, by omega, rfl, rfl, HB2, HR2, HZ, HRN, hz2⟩
                  case round =>
                    as_aux_lemma =>
                    clear HB2 HR2 HZ HRN hz2
                    obtain ⟨j, again, b1, hj, rfl, rfl, HB2, HR2, HZ, HRN, hz2⟩ := hrel
                    by_cases hjk : j < k1
                    · have z0 : wr.cell? ⟨Z, 0, none⟩ = some (.int .i64 (fk : Int)) := HZ.out.cell 0
                      have z1 : wr.cell? ⟨Z, 1, none⟩ = some (.int .i64 (ta : Int)) := HZ.out.cell 1
                      have z2 : wr.cell? ⟨Z, 2, none⟩ = some (.int .i64 ai) := HZ.out.cell 2
                      have z3 : wr.cell? ⟨Z, 3, none⟩ = some (.int .i64 ao) := HZ.out.cell 3
                      have z4 : wr.cell? ⟨Z, 4, none⟩ = some (.int .i64 aw) := HZ.out.cell 4
                      have lZ : Z < wr.heap.size := by omega
                      have lH : H < wr.heap.size := by omega
                      obtain ⟨j1, hj1⟩ : ∃ j, j = fk * n1 := ⟨_, rfl⟩
                      obtain ⟨j2, hj2⟩ : ∃ j, j = j1 + i := ⟨_, rfl⟩
                      obtain ⟨j3, hj3⟩ : ∃ j, j = j2 * k1 := ⟨_, rfl⟩
                      obtain ⟨K, hK⟩ : ∃ k, k = j3 + j := ⟨_, rfl⟩
                      have hiu : i ≤ lu.length := by rw [HNU.out]; omega
                      have hjo : j ≤ lo.length := by rw [HNO.out]; omega
                      have hKix : K = ixp lu.length lo.length a.f.toNat i j := by rw [hK, hj3, hj2, hj1, HN1.out, HK1.out, HNU.out, HNO.out, HFK.out]; rfl
                      have hKN : K < N := by rw [hKix, HN3.out, HFK.out]; exact ixp_lt (by omega) hiu hjo
                      have hj23 : j2 ≤ j3 := by rw [hj3]; exact Nat.le_mul_of_pos_right _ (by omega)
                      have e1 : (fk : Int) * (n1 : Int) = (j1 : Int) := by rw [hj1]; push_cast; rfl
                      have e2 : (j1 : Int) + (i : Int) = (j2 : Int) := by omega
                      have e3 : (j2 : Int) * (k1 : Int) = (j3 : Int) := by rw [hj3]; push_cast; rfl
                      have e4 : (j3 : Int) + (j : Int) = (K : Int) := by omega
                      have hjb : j1 ≤ 400000 ∧ j2 ≤ 400000 ∧ j3 ≤ 400000 := by omega
                      obtain ⟨hb1, hb2, hb3⟩ := hjb
                      have hcK := HR2.out.cell hKN
                      obtain ⟨bv, hbv⟩ : ∃ z, z = b1 K := ⟨_, rfl⟩
                      rw [← hbv] at hcK
                      have bv2 : bv ≤ 384400000000 := by
                        have h1 := rlx_bound HRN.out.inv (x := K)
                        have h2 : (N - 1) * 1000000 ≤ 384400 * 1000000 := Nat.mul_le_mul_right _ (by omega)
                        rw [← hbv] at h1
                        have h3 : (((N - 1) * 1000000 : Nat) : Int) ≤ ((384400 * 1000000 : Nat) : Int) := Int.ofNat_le.2 h2
                        exact Int.le_trans (Int.le_trans h1 h3) (by decide)
                      have bv0 : -1 ≤ bv := by rw [hbv]; exact HRN.out.inv.low_ K
                      have HBV := hide (show b1 (ixp lu.length lo.length a.f.toNat i j) = bv by rw [hbv, hKix])
                      have kI0 : (0 : Int) ≤ (K : Int) := by omega
                      have kI1 : (K : Int) < (N : Int) := by omega
                      have i0 : (0 : Int) ≤ (i : Int) := by omega
                      have jj0 : (0 : Int) ≤ (j : Int) := by omega
                      have en : (n1 : Int) - 1 = (nu : Int) := by omega
                      have ek : (k1 : Int) - 1 = (no : Int) := by omega
                      obtain ⟨bad, hbad⟩ : ∃ x : Bool, x = (decide (bv < 0) || (stp lu lo a i j).isNone) := ⟨_, rfl⟩
                      have HBAD := hide hbad
                      clear hj1 hj2 hj3 hK hKix hj23 hbv hbad
                      go_upto_region 23 with fail
                      clear e1 e2 e3 e4
                      go_cut [123] from 64 to 168 (fun s123 wq => s123 = .bool bad ∧ ∃ q, wq = wr.drewN q)
                      case first =>
                        as_aux_lemma =>
                        by_cases hb0 : bv < 0
                        · have HV := hide (show bad = true by rw [HBAD.out]; simp [hb0])
                          have tb : decide (bv < 0) = true := decide_eq_true hb0
                          clear hb0 HBAD
                          go_quiet (fail)
                          go_wp2
                          go_meet
                          exact ⟨by rw [HV.out], _, rfl⟩
                        · have hnb : decide (bv < 0) = false := decide_eq_false hb0
                          by_cases hi0 : ai = 0
                          · have ti1 : (ai == 0) = true := by simp [hi0]
                            have ti2 : (ai != 0) = false := by simp [hi0]
                            have HI0 := hide (show a.i = 0 by rw [← HAI.out]; exact hi0)
                            clear hi0
                            by_cases ho0 : ao = 0
                            · have HV := hide (show bad = false by rw [HBAD.out, hnb, stp_yesB (.inl HI0.out) (.inl (by rw [← HAO.out]; exact ho0))]; rfl)
                              have to1 : (ao == 0) = true := by simp [ho0]
                              have to2 : (ao != 0) = false := by simp [ho0]
                              clear ho0 HBAD
                              go_quiet (fail)
                              go_wp2
                              go_meet
                              exact ⟨by rw [HV.out], _, rfl⟩
                            · have to1 : (ao == 0) = false := by simp [ho0]
                              have to2 : (ao != 0) = true := by simp [ho0]
                              have HO0 := hide (show a.o ≠ 0 by rw [← HAO.out]; exact ho0)
                              clear ho0
                              by_cases hjn : j = no
                              · have HV := hide (show bad = true by rw [HBAD.out, stp_noO HO0.out (.inl (by rw [HNO.out]; exact hjn))]; simp)
                                have tj : ((j : Int) == (no : Int)) = true := by simp; omega
                                clear hjn HBAD
                                go_quiet (fail)
                                go_wp2
                                go_meet
                                exact ⟨by rw [HV.out], _, rfl⟩
                              · have tj : ((j : Int) == (no : Int)) = false := by simp; omega
                                have j1' : (j : Int) < (no : Int) := by omega
                                obtain ⟨bo, oo, rfl, hbo, co⟩ := (HRO0.out.below HB2.out (Nat.le_refl _)).at1 (k := j) (by omega)
                                simp only [intCell] at co
                                obtain ⟨lj, hlj⟩ : ∃ z, z = lo.getD j 0 := ⟨_, rfl⟩
                                rw [← hlj] at co
                                have HLJ := hide hlj
                                have HJN := hide (show j ≠ lo.length by rw [HNO.out]; exact hjn)
                                have lbo : bo < wr.heap.size := by omega
                                clear hlj hjn
                                by_cases hlo : lj = ao
                                · have HV := hide (show bad = false by rw [HBAD.out, hnb, stp_yesB (.inl HI0.out) (.inr ⟨HJN.out, by rw [← HLJ.out, ← HAO.out]; exact hlo⟩)]; rfl)
                                  have tl1 : (lj == ao) = true := by simp [hlo]
                                  have tl2 : (lj != ao) = false := by simp [hlo]
                                  clear hlo HBAD
                                  go_quiet (fail)
                                  go_wp2
                                  go_meet
                                  exact ⟨by rw [HV.out], _, rfl⟩
                                · have HV := hide (show bad = true by rw [HBAD.out, stp_noO HO0.out (.inr (by rw [← HLJ.out, ← HAO.out]; exact hlo))]; simp)
                                  have tl1 : (lj == ao) = false := by simp [hlo]
                                  have tl2 : (lj != ao) = true := by simp [hlo]
                                  clear hlo HBAD
                                  go_quiet (fail)
                                  go_wp2
                                  go_meet
                                  exact ⟨by rw [HV.out], _, rfl⟩
                          · have ti1 : (ai == 0) = false := by simp [hi0]
                            have ti2 : (ai != 0) = true := by simp [hi0]
                            have HI0 := hide (show a.i ≠ 0 by rw [← HAI.out]; exact hi0)
                            clear hi0
                            by_cases hin2 : i = nu
                            · have HV := hide (show bad = true by rw [HBAD.out, stp_noI HI0.out (.inl (by rw [HNU.out]; exact hin2))]; simp)
                              have tn : ((i : Int) == (nu : Int)) = true := by simp; omega
                              clear hin2 HBAD
                              go_quiet (fail)
                              go_wp2
                              go_meet
                              exact ⟨by rw [HV.out], _, rfl⟩
                            · have tn : ((i : Int) == (nu : Int)) = false := by simp; omega
                              have i1' : (i : Int) < (nu : Int) := by omega
                              obtain ⟨bi, oi, rfl, hbi, ci⟩ := (HRU0.out.below HB2.out (Nat.le_refl _)).at1 (k := i) (by omega)
                              simp only [intCell] at ci
                              obtain ⟨li, hli⟩ : ∃ z, z = lu.getD i 0 := ⟨_, rfl⟩
                              rw [← hli] at ci
                              have HLI := hide hli
                              have HIN := hide (show i ≠ lu.length by rw [HNU.out]; exact hin2)
                              have lbi : bi < wr.heap.size := by omega
                              clear hli hin2
                              by_cases hlu : li = ai
                              · have tk1 : (li == ai) = true := by simp [hlu]
                                have tk2 : (li != ai) = false := by simp [hlu]
                                have HLU := hide (show lu.getD i 0 = a.i by rw [← HLI.out, ← HAI.out]; exact hlu)
                                clear hlu
                                by_cases ho0 : ao = 0
                                · have HV := hide (show bad = false by rw [HBAD.out, hnb, stp_yesB (.inr ⟨HIN.out, HLU.out⟩) (.inl (by rw [← HAO.out]; exact ho0))]; rfl)
                                  have to1 : (ao == 0) = true := by simp [ho0]
                                  have to2 : (ao != 0) = false := by simp [ho0]
                                  clear ho0 HBAD
                                  go_quiet (fail)
                                  go_wp2
                                  go_meet
                                  exact ⟨by rw [HV.out], _, rfl⟩
                                · have to1 : (ao == 0) = false := by simp [ho0]
                                  have to2 : (ao != 0) = true := by simp [ho0]
                                  have HO0 := hide (show a.o ≠ 0 by rw [← HAO.out]; exact ho0)
                                  clear ho0
                                  by_cases hjn : j = no
                                  · have HV := hide (show bad = true by rw [HBAD.out, stp_noO HO0.out (.inl (by rw [HNO.out]; exact hjn))]; simp)
                                    have tj : ((j : Int) == (no : Int)) = true := by simp; omega
                                    clear hjn HBAD
                                    go_quiet (fail)
                                    go_wp2
                                    go_meet
                                    exact ⟨by rw [HV.out], _, rfl⟩
                                  · have tj : ((j : Int) == (no : Int)) = false := by simp; omega
                                    have j1' : (j : Int) < (no : Int) := by omega
                                    obtain ⟨bo, oo, rfl, hbo, co⟩ := (HRO0.out.below HB2.out (Nat.le_refl _)).at1 (k := j) (by omega)
                                    simp only [intCell] at co
                                    obtain ⟨lj, hlj⟩ : ∃ z, z = lo.getD j 0 := ⟨_, rfl⟩
                                    rw [← hlj] at co
                                    have HLJ := hide hlj
                                    have HJN := hide (show j ≠ lo.length by rw [HNO.out]; exact hjn)
                                    have lbo : bo < wr.heap.size := by omega
                                    clear hlj hjn
                                    by_cases hlo : lj = ao
                                    · have HV := hide (show bad = false by rw [HBAD.out, hnb, stp_yesB (.inr ⟨HIN.out, HLU.out⟩) (.inr ⟨HJN.out, by rw [← HLJ.out, ← HAO.out]; exact hlo⟩)]; rfl)
                                      have tl1 : (lj == ao) = true := by simp [hlo]
                                      have tl2 : (lj != ao) = false := by simp [hlo]
                                      clear hlo HBAD
                                      go_quiet (fail)
                                      go_wp2
                                      go_meet
                                      exact ⟨by rw [HV.out], _, rfl⟩
                                    · have HV := hide (show bad = true by rw [HBAD.out, stp_noO HO0.out (.inr (by rw [← HLJ.out, ← HAO.out]; exact hlo))]; simp)
                                      have tl1 : (lj == ao) = false := by simp [hlo]
                                      have tl2 : (lj != ao) = true := by simp [hlo]
                                      clear hlo HBAD
                                      go_quiet (fail)
                                      go_wp2
                                      go_meet
                                      exact ⟨by rw [HV.out], _, rfl⟩
                              · have HV := hide (show bad = true by rw [HBAD.out, stp_noI HI0.out (.inr (by rw [← HLI.out, ← HAI.out]; exact hlu))]; simp)
                                have tk1 : (li == ai) = false := by simp [hlu]
                                have tk2 : (li != ai) = true := by simp [hlu]
                                clear hlu HBAD
                                go_quiet (fail)
                                go_wp2
                                go_meet
                                exact ⟨by rw [HV.out], _, rfl⟩
                      case rest =>
                      obtain ⟨rfl, q0, rfl⟩ := hcut
                      cases hbb : bad
                      · have hb := HBAD.out
                        rw [hbb] at hb
                        replace hb := hb.symm
                        rw [Bool.or_eq_false_iff] at hb
                        have HSV := hide (stp_val hb.2)
                        have hbv3 : ¬ bv < 0 := of_decide_eq_false hb.1
                        clear hb hbb HBAD
                        obtain ⟨iA, hiA⟩ : ∃ z : Nat, z = if a.i = 0 then i else i + 1 := ⟨_, rfl⟩
                        obtain ⟨jA, hjA⟩ : ∃ z : Nat, z = if a.o = 0 then j else j + 1 := ⟨_, rfl⟩
                        have hsv := HSV.out
                        rw [← hiA, ← hjA] at hsv
                        obtain ⟨hiAu, hjAo⟩ := stp_le hsv hiu hjo
                        have HST := hide hsv
                        have HIA := hide hiA
                        have HJA := hide hjA
                        clear hsv hiA hjA HSV
                        clear i0 jj0 kI0 kI1 hcK en ek
                        go_upto_if 123 with fail
                        go_upto_if 128 with fail
                        go_cut [17] from 64 to 168 (fun s17 wq => s17 = .int .i64 (iA : Int) ∧ wq = wr.drewN q0)
                        case first =>
                          by_cases hi0 : ai = 0
                          · have ti1 : (ai == 0) = true := by simp [hi0]
                            have ti2 : (ai != 0) = false := by simp [hi0]
                            have HV := hide (show iA = i by rw [HIA.out, if_pos (by rw [← HAI.out]; exact hi0)])
                            clear hi0
                            go_wp2
                            go_meet
                            exact ⟨by rw [HV.out], rfl⟩
                          · have ti1 : (ai == 0) = false := by simp [hi0]
                            have ti2 : (ai != 0) = true := by simp [hi0]
                            have HV := hide (show iA = i + 1 by rw [HIA.out, if_neg (by rw [← HAI.out]; exact hi0)])
                            clear hi0
                            go_wp2
                            go_meet
                            exact ⟨by rw [HV.out]; push_cast; rfl, rfl⟩
                        case rest =>
                        obtain ⟨rfl, rfl⟩ := hcut
                        go_upto_if 133 with fail
                        go_cut [18] from 64 to 168 (fun s18 wq => s18 = .int .i64 (jA : Int) ∧ wq = wr.drewN q0)
                        case first =>
                          by_cases hi0 : ao = 0
                          · have ti1 : (ao == 0) = true := by simp [hi0]
                            have ti2 : (ao != 0) = false := by simp [hi0]
                            have HV := hide (show jA = j by rw [HJA.out, if_pos (by rw [← HAO.out]; exact hi0)])
                            clear hi0
                            go_wp2
                            go_meet
                            exact ⟨by rw [HV.out], rfl⟩
                          · have ti1 : (ao == 0) = false := by simp [hi0]
                            have ti2 : (ao != 0) = true := by simp [hi0]
                            have HV := hide (show jA = j + 1 by rw [HJA.out, if_neg (by rw [← HAO.out]; exact hi0)])
                            clear hi0
                            go_wp2
                            go_meet
                            exact ⟨by rw [HV.out]; push_cast; rfl, rfl⟩
                        case rest =>
                        obtain ⟨rfl, rfl⟩ := hcut
                        obtain ⟨l1, hl1⟩ : ∃ j, j = ta * n1 := ⟨_, rfl⟩
                        obtain ⟨l2, hl2⟩ : ∃ j, j = l1 + iA := ⟨_, rfl⟩
                        obtain ⟨l3, hl3⟩ : ∃ j, j = l2 * k1 := ⟨_, rfl⟩
                        obtain ⟨K2, hK2⟩ : ∃ k, k = l3 + jA := ⟨_, rfl⟩
                        have hK2ix : K2 = ixp lu.length lo.length a.t.toNat iA jA := by rw [hK2, hl3, hl2, hl1, HN1.out, HK1.out, HNU.out, HNO.out, HTA.out]; rfl
                        have hK2N : K2 < N := by rw [hK2ix, HN3.out, HTA.out]; exact ixp_lt (by omega) hiAu hjAo
                        have hl23 : l2 ≤ l3 := by rw [hl3]; exact Nat.le_mul_of_pos_right _ (by omega)
                        have e1 : (ta : Int) * (n1 : Int) = (l1 : Int) := by rw [hl1]; push_cast; rfl
                        have e2 : (l1 : Int) + (iA : Int) = (l2 : Int) := by omega
                        have e3 : (l2 : Int) * (k1 : Int) = (l3 : Int) := by rw [hl3]; push_cast; rfl
                        have e4 : (l3 : Int) + (jA : Int) = (K2 : Int) := by omega
                        have hlb : l1 ≤ 400000 ∧ l2 ≤ 400000 ∧ l3 ≤ 400000 := by omega
                        obtain ⟨hlb1, hlb2, hlb3⟩ := hlb
                        have hcK2 := HR2.out.cell hK2N
                        have fcK2 := HR2.out.frozen K2
                        obtain ⟨bt, hbt⟩ : ∃ z, z = b1 K2 := ⟨_, rfl⟩
                        rw [← hbt] at hcK2
                        have HBT := hide (show b1 (ixp lu.length lo.length a.t.toNat iA jA) = bt by rw [hbt, hK2ix])
                        have HK2 := hide hK2ix
                        have HBV2 := hide (show b1 (ixp lu.length lo.length fk i j) = bv by rw [← HBV.out, HFK.out]; rfl)
                        have hK0 : (0 : Int) ≤ (K2 : Int) := by omega
                        have hK1 : (K2 : Int) < (N : Int) := by omega
                        clear hl1 hl2 hl3 hK2 hK2ix hl23 hbt
                        by_cases hbt0 : bt < 0
                        · have tb : decide (bt < 0) = true := decide_eq_true hbt0
                          have HNEW := hide (show Rlx 1000000 m lu lo S N (setb b1 K2 (bv + aw)) ∧ pot 1000000 (setb b1 K2 (bv + aw)) N < pot 1000000 b1 N by
                            have h := rlx_step (W := 1000000) (by omega) HRN.out.inv HN3.out (show fk < S by omega) hiu hjo HAIN.out HFK.out (by rw [HTA.out]; omega) (by rw [← HAW.out]; exact ⟨hw0, hw1⟩) (by rw [HBV2.out]; omega) HST.out (by rw [HBT.out, HBV2.out, ← HAW.out]; exact .inl hbt0)
                            rw [HBV2.out, ← HAW.out, ← HK2.out] at h
                            exact h)
                          go_wp2
                          go_quiet (fail)
                          go_wp2
                          generalize hW9 : World.setCell _ _ _ = W9
                          have HB9 := hide (show Below H W0 W9 by rw [← hW9]; refine Below.setCell ?_ (by simp) _; (repeat refine below_drewN ?_ _); exact HB2.out)
                          have HR9 := hide (show W9.rowIs H 3 N (fun x => .int .i64 (setb b1 K2 (bv + aw) x)) by
                            rw [← hW9]
                            refine (World.rowIs.set (show World.rowIs _ H 3 N (fun i => .int .i64 (b1 i)) from HR2.out) K2 (.int .i64 (bv + aw))).congr (fun x _ => ?_)
                            unfold setb
                            by_cases e : x = K2 <;> simp [e])
                          have HZ9 := hide (show Blk W9 Z 54 #[.int .i64 (fk : Int), .int .i64 (ta : Int), .int .i64 ai, .int .i64 ao, .int .i64 aw] by rw [← hW9]; exact Blk.far HZ.out (by simp; omega) _)
                          have hz9 := HZ9.out.lt
                          clear hW9
                          go_roundw
                          case rel => exact ⟨j + 1, true, setb b1 K2 (bv + aw), by omega, rfl, by go_num, HB9, HR9, HZ9, hide (rnd_better HRN.out HNEW.out.1 HNEW.out.2), by omega⟩
                          case measure => simp [intOf]; omega
                        · have tb : decide (bt < 0) = false := decide_eq_false hbt0
                          by_cases hbt1 : bv + aw < bt
                          · have tc : decide (bv + aw < bt) = true := decide_eq_true hbt1
                            have HNEW := hide (show Rlx 1000000 m lu lo S N (setb b1 K2 (bv + aw)) ∧ pot 1000000 (setb b1 K2 (bv + aw)) N < pot 1000000 b1 N by
                              have h := rlx_step (W := 1000000) (by omega) HRN.out.inv HN3.out (show fk < S by omega) hiu hjo HAIN.out HFK.out (by rw [HTA.out]; omega) (by rw [← HAW.out]; exact ⟨hw0, hw1⟩) (by rw [HBV2.out]; omega) HST.out (by rw [HBT.out, HBV2.out, ← HAW.out]; exact .inr hbt1)
                              rw [HBV2.out, ← HAW.out, ← HK2.out] at h
                              exact h)
                            go_wp2
                            go_quiet (fail)
                            go_wp2
                            generalize hW9 : World.setCell _ _ _ = W9
                            have HB9 := hide (show Below H W0 W9 by rw [← hW9]; refine Below.setCell ?_ (by simp) _; (repeat refine below_drewN ?_ _); exact HB2.out)
                            have HR9 := hide (show W9.rowIs H 3 N (fun x => .int .i64 (setb b1 K2 (bv + aw) x)) by
                              rw [← hW9]
                              refine (World.rowIs.set (show World.rowIs _ H 3 N (fun i => .int .i64 (b1 i)) from HR2.out) K2 (.int .i64 (bv + aw))).congr (fun x _ => ?_)
                              unfold setb
                              by_cases e : x = K2 <;> simp [e])
                            have HZ9 := hide (show Blk W9 Z 54 #[.int .i64 (fk : Int), .int .i64 (ta : Int), .int .i64 ai, .int .i64 ao, .int .i64 aw] by rw [← hW9]; exact Blk.far HZ.out (by simp; omega) _)
                            have hz9 := HZ9.out.lt
                            clear hW9
                            go_roundw
                            case rel => exact ⟨j + 1, true, setb b1 K2 (bv + aw), by omega, rfl, by go_num, HB9, HR9, HZ9, hide (rnd_better HRN.out HNEW.out.1 HNEW.out.2), by omega⟩
                            case measure => simp [intOf]; omega
                          · have tc : decide (bv + aw < bt) = false := decide_eq_false hbt1
                            have HCL := hide (show Clo lu lo b1 a i j from clo_some HST.out (by rw [HBT.out, HBV.out, ← HAW.out]; omega))
                            go_wp2
                            go_quiet (fail)
                            go_wp2
                            go_roundw
                            case rel => exact ⟨j + 1, again, b1, by omega, rfl, by go_num, hide (below_drewN HB2.out _), hide HR2.out, hide (HZ.out.drewN _), hide (rnd_same HRN.out hiu hjo HA.out HCL.out), hz2⟩
                            case measure => simp [intOf]; omega
                      · have HCL := hide (show Clo lu lo b1 a i j by
                          have hb := HBAD.out
                          rw [hbb] at hb
                          have hb := hb.symm
                          rw [Bool.or_eq_true] at hb
                          rcases hb with hb | hb
                          · exact clo_low (by rw [HBV.out]; exact of_decide_eq_true hb)
                          · exact clo_none (Option.isNone_iff_eq_none.1 hb))
                        clear hbb HBAD
                        go_wp2
                        go_roundw
                        case rel => exact ⟨j + 1, again, b1, by omega, rfl, by go_num, hide (below_drewN HB2.out _), hide HR2.out, hide (HZ.out.drewN _), hide (rnd_same HRN.out hiu hjo HA.out HCL.out), hz2⟩
                        case measure => simp [intOf]; omega
                    · obtain rfl : k1 = j := by omega
                      have HRE := hide (show Rnd 1000000 m lu lo S N b0 b1 again (ixp lu.length lo.length t (i + 1) 0) by rw [← ixp_row]; have h := HRN.out; rw [HK1.out, ← HNO.out] at h; exact h)
                      go_wp2
                      go_roundw
                      case rel => exact ⟨i + 1, again, b1, by omega, rfl, by go_num, HB2, HR2, HZ, HRE, hz2⟩
                      case measure => simp [intOf]; omega
                · obtain rfl : n1 = i := by omega
                  have HRE := hide (show Rnd 1000000 m lu lo S N b0 b1 again (ixp lu.length lo.length (t + 1) 0 0) by rw [← ixp_arc]; have h := HRN.out; rw [HN1.out, ← HNU.out] at h; exact h)
                  go_wp2
                  go_roundw
                  case rel => exact ⟨t + 1, again, b1, by omega, rfl, by go_num, HB2, HR2, HRE, by omega⟩
                  case measure => simp [intOf]; omega
            · obtain rfl : n = t := by omega
              have hgk : 0 < gk := by have := HPG.out; simp at this; omega
              have HP2 := hide (show pot 1000000 b1 N + (if again = true then 1 else 0) ≤ gk - 1 by
                have h := HPG.out
                simp only [if_true] at h
                cases again
                · have := (HRN.out.no rfl).1; rw [this]; simp only [Bool.false_eq_true, if_false]; omega
                · have := HRN.out.yes rfl; simp only [if_true]; omega)
              have HRI := hide HRN.out.inv
              have HDI := hide (show again = false → DoneTo m lu lo b1 (ixp lu.length lo.length n 0 0) from fun h => (HRN.out.no h).2)
              clear HRN
              go_wp2
              go_roundg (gk - 1)
              case measure => omega
              case rel => exact ⟨b1, again, rfl, HB2, HR2, HRI, HDI, HP2, hz2⟩
end Go.Proofs.Ytbedbpbgdmbipaa
