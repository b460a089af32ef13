/- determ.refine, walked: classes of states are parted until nothing changes. -/
import Derived.Test.YtopakcbhodnipaaRnP
import Derived.Test.YtopakcbhodnipaaNlL
import Derived.Test.YtopakcbhodnipaaGrL
import Derived.Test.YtopakcbhodnipaaDqZ
import Derived.Test.YtopakcbhodnipaaReach
import Derived.Test.YtopakcbhodnipaaReg
import Derived.Maps.AppendAt
import Derived.IntWalk
import Derived.Deep.Cut
import Derived.Deep.CutRange
import Derived.LoopTactic
namespace Gm
open Go Go.RowKit
theorem own_of_blk {w : World} {base g : Nat} {e : TypeId} {cs : Array Value} (h : Blk w g e cs) (hb : base ≤ g) (hm : cs.size ≤ maxLen) : w.ownsRow base e 1 (.slice (some ⟨g, 0, none⟩) cs.size cs.size) cs.size cs.toList :=
  ⟨by simp, .inr ⟨g, cs.size, cs, rfl, hb, h, Nat.le_refl _, hm, by simp, List.take_of_length_le (by simp)⟩⟩
theorem wrap8 (x : Int) : IntKind.u8.wrap x = x % 256 := by simp [IntKind.wrap, IntKind.signed, IntKind.bits]
def b3w (x : Int) : List Int := [IntKind.u8.wrap (x / 65536), IntKind.u8.wrap (x / 256), IntKind.u8.wrap x]
theorem b3w_eq (x : Int) : b3w x = b3 x := by unfold b3w b3; rw [wrap8, wrap8, wrap8]
end Gm
namespace Go.Proofs.Ytopakcbhodnipaa
open Go.RowKit Gm
set_option linter.unusedSimpArgs false
set_option linter.unusedVariables false
theorem u8_info : (Try.prog.info? 5).map (fun i => (i.zero, i.size, i.bytes)) = some (some (.int .u8 0), 1, 1) := by kernel_rfl
theorem str_at {w : World} {base : Nat} {v : Value} {n : Nat} {l : List UInt8} (h : w.ownsRow base 5 1 v n (Lib.byteCells l)) : (convert 114 9 v).run Try.prog w = .ok (.string ⟨l.toArray⟩) w := by
  have hl : l.length = n := by have := h.1; simpa [Lib.byteCells] using this
  subst hl
  rcases h.2 with ⟨rfl, h0⟩ | ⟨g, cap, cur, rfl, _⟩
  · obtain rfl : l = [] := List.eq_nil_of_length_eq_zero h0
    rw [run_convert_bytes_string w 114 9 5 none 0 0 Try.underlying114 Try.underlying5 Try.underlying9]
    simp [Conv.bytesToString]; rfl
  · refine run_convert_bytes_back w 114 9 5 ⟨g, 0, none⟩ cap l Try.underlying114 Try.underlying5 Try.underlying9 (fun j hj => ?_)
    refine h.cells (g := g) rfl j _ ?_
    simp [Lib.byteCells, hj]
theorem kl_str : KL Try.prog 9 kvS okS := ⟨Maps.string_keyed Try.underlying9, fun a ha => by
  unfold okS at ha
  refine ⟨.string a, ?_⟩
  have hs : ByteArray.size ⟨a.toArray⟩ ≤ maxLen := by show a.toArray.size ≤ _; simp [maxLen]; omega
  unfold keyOf kvS
  rw [Try.underlying9]
  simp [mapKey, Try.underlying9, hs], kvS_inj⟩
theorem zero_intS (W : World) : (zeroValue 3).run Try.prog W = .ok (.int .i64 0) W := by kernel_rfl
set_option maxRecDepth 100000 in
set_option maxHeartbeats 16000000 in
theorem refine_any (vn vf : Value) (l : List Int) (L : List (List Int)) (F : List Bool) (w : World) (B : Nat) (hB : B ≤ w.heap.size) (hn : NumsL w B vn L) (hf : Bools w B vf F) (hT : Tab l (rowOf L) (finOf F) L.length) (hF : F.length = L.length) (hq : l.length ≤ 2000) (hn2 : L.length ≤ 20000) :
    Calls Try.prog 83 #[vn, vf] w fun e w' => ∃ (g : Nat) (c : Nat → Nat) (k : Nat), e = .returned (.tuple #[.slice (some ⟨g, 0, none⟩) L.length L.length, .int .i64 (k : Int)]) ∧ w'.rowIs g 3 L.length (fun i => .int .i64 ((c i : Nat) : Int)) ∧ w.heap.size ≤ g ∧ k ≤ L.length ∧
      (∀ s, s < L.length → c s < k) ∧ (∀ s t, s < L.length → t < L.length → (c s = c t ↔ ∀ v, accS (tstp l (rowOf L)) (finOf F) s v ↔ accS (tstp l (rowOf L)) (finOf F) t v)) ∧ (∀ i, i < k → ∃ s, s < L.length ∧ c s = i) ∧ Below w.heap.size w w' := by
  obtain ⟨AN, n, cn, rfl, HN, hnc, hnb, hR⟩ := hn
  obtain ⟨AF, nf, cf, rfl, HF, hfc, hfb, hFF⟩ := hf
  obtain ⟨i8, h80, h81, h82, h83⟩ := info_parts u8_info
  have HRR := hide (show RdL w B AN n L from hR)
  have HRF := hide hFF
  rw [HN.out] at hT hF hn2 ⊢
  have hnf : nf = n := by rw [← HF.out]; exact hF
  subst hnf
  have HT := hide hT
  have HQ2 := hide hq
  have hmk := fun (W : World) => run_make_row' (P := Try.prog) 22 3 (.int .i64 0) 8 Try.underlying22 int_info rfl .i64 .i64 nf (by omega) (by omega) W
  have HMK := hide hmk
  unfold big at hnb hfb
  clear hR hFF hT hF hq hmk
  have hmk := HMK.out
  go_enter Try.func83, Try.ntmps83
  go_upto_region 2 with fail
  clear hmk
  generalize hW1 : World.alloc _ _ = W1
  have hgC : Hid (W1.rowIs w.heap.size 3 nf (fun i => .int .i64 (((fun _ => 0 : Nat → Nat) i : Nat) : Int))) := by
    rw [← hW1]
    exact hide (World.rowIs_made w (.int .i64 0) nf 3)
  have HB1 := hide (show Below w.heap.size w W1 by rw [← hW1]; go_grown)
  have hz1 : w.heap.size < W1.heap.size := hgC.out.lt
  have HC0 := hide (Cls.start (ls := l) (row := rowOf L) (fin := finOf F) (n := nf))
  obtain ⟨H, hH⟩ : ∃ z, z = w.heap.size := ⟨_, rfl⟩
  rw [← hH] at HB1 hz1 hgC hB
  simp only [← hH]
  have HHW := hide hH
  clear hW1 hH
  go_wp2
  go_loopw [6, 7] (fun cv nv wr => ∃ (gC : Nat) (cl : Nat → Nat) (k : Nat), cv = .slice (some ⟨gC, 0, none⟩) nf nf ∧ nv = .int .i64 (k : Int) ∧ Hid (wr.rowIs gC 3 nf (fun i => .int .i64 ((cl i : Nat) : Int))) ∧ Hid (Cls l (rowOf L) (finOf F) nf cl k) ∧ Hid (∀ i, i < nf → cl i < 20001) ∧ k ≤ nf ∧ H ≤ gC ∧ Hid (Below H w wr) ∧ H < wr.heap.size) (fun _ nv _ => nf + 1 - (intOf nv).toNat)
  case atStart => exact ⟨H, fun _ => 0, 0, rfl, rfl, hgC, HC0, hide (fun i _ => by show (0 : Nat) < 20001; omega), by omega, Nat.le_refl _, HB1, hz1⟩
  case round =>
    clear hgC HC0 HB1 hz1
    obtain ⟨gC, cl, k, rfl, rfl, HGC, HCL, HCB, hkn, hHC, HBK, hzr⟩ := hrel
    have hmk := HMK.out
    have hmm := @run_makeMap Try.prog
    go_upto_region 6 with fail
    clear hmk hmm
    generalize hW4 : World.alloc _ _ = W4
    obtain ⟨Mb, hMb⟩ : ∃ z, z = wr.heap.size := ⟨_, rfl⟩
    obtain ⟨gR, hgR⟩ : ∃ z, z = Mb + 1 := ⟨_, rfl⟩
    obtain ⟨K, hK⟩ : ∃ z, z = keyU (rowOf L) (finOf F) cl := ⟨_, rfl⟩
    have HKU := hide (keyU_num (row := rowOf L) (fin := finOf F) (c := cl) (n := nf) (fun s hs => by have := HCB.out s hs; omega) HT.out.rng)
    rw [← hK] at HKU
    have HKE := hide (show ∀ s, K s = toB (keyBy (rowOf L) (finOf F) cl s) from fun s => by rw [hK]; rfl)
    have HM4 := hide (show MapIs W4 kvS okS Mb (numE (numD K 0) 0) by rw [← hW4, hMb]; exact (MapIs.made wr kvS okS).alloc _)
    have HGR4 := hide (show W4.rowIs gR 3 nf (fun i => if i < 0 then .int .i64 ((posU K nf i : Nat) : Int) else .int .i64 0) by
      rw [← hW4, hgR, hMb]
      have := World.rowIs_made (wr.alloc (.map #[] 0)) (.int .i64 0) nf 3
      exact (by simpa using this : World.rowIs _ _ _ _ _).congr (fun i _ => by simp))
    have HGC4 := hide (show W4.rowIs gC 3 nf (fun i => .int .i64 ((cl i : Nat) : Int)) by rw [← hW4]; exact (HGC.out.alloc _).alloc _)
    have HB4 := hide (show Below H w W4 by rw [← hW4]; exact (HBK.out.alloc (by omega) _).alloc (by simp; omega) _)
    have hCM : gC < Mb := by rw [hMb]; exact HGC.out.lt
    have hMR : Mb < gR := by omega
    have hR4 : gR < W4.heap.size := HGR4.out.lt
    have hHM : H < Mb := by omega
    simp only [← hMb, ← hgR]
    clear hW4 hMb hgR hK HGC HBK hzr
    go_loopw [28] (fun iv wr => ∃ s : Nat, s ≤ nf ∧ iv = .int .i64 (s : Int) ∧ Hid (MapIs wr kvS okS Mb (numE (numD K s) 0)) ∧ Hid (wr.rowIs gR 3 nf (fun i => if i < s then .int .i64 ((posU K nf i : Nat) : Int) else .int .i64 0)) ∧ Hid (wr.rowIs gC 3 nf (fun i => .int .i64 ((cl i : Nat) : Int))) ∧ Hid (Below H w wr) ∧ gR < wr.heap.size) (fun iv _ => nf - (intOf iv).toNat)
    case atStart => exact ⟨0, by omega, rfl, HM4, HGR4, HGC4, HB4, hR4⟩
    case round =>
      clear HM4 HGR4 HGC4 HB4 hR4
      obtain ⟨s, hs, rfl, HM, HGR, HGC, HBK, hR4⟩ := hrel
      by_cases hsn : s < nf
      · obtain ⟨b1, o1, A1, n1, c1, rw1, rfl, hb1, d1, HR1, HL1, hc1, hn1b, hrd1⟩ := row_at (HRR.out.below HBK.out hB) hsn
        have hn1 : n1 ≤ 2000 := by
          have h := HT.out.len s hsn
          unfold rowOf at h
          rw [HR1.out, HL1.out] at h
          have := HQ2.out
          omega
        have HRD1 := hide hrd1
        have lb1 : b1 < wr.heap.size := by omega
        have cC := HGC.out.cell hsn
        have fC := HGC.out.frozen s
        have lC := HGC.out.lt
        obtain ⟨z, hz⟩ : ∃ z : Int, z = ((cl s : Nat) : Int) := ⟨_, rfl⟩
        rw [← hz] at cC
        have HZ := hide hz
        obtain ⟨q1, hq1⟩ : ∃ q, IntKind.u8.wrap (z / 65536) = q := ⟨_, rfl⟩
        obtain ⟨q2, hq2⟩ : ∃ q, IntKind.u8.wrap (z / 256) = q := ⟨_, rfl⟩
        obtain ⟨q3, hq3⟩ : ∃ q, IntKind.u8.wrap z = q := ⟨_, rfl⟩
        have HB3 := hide (show [q1, q2, q3] = b3 z by rw [← b3w_eq, ← hq1, ← hq2, ← hq3]; rfl)
        clear hz hrd1
        go_upto_region 8 with fail
        refine wp_mix (fun w' => w'.cell? ⟨gC, s, none⟩ = some (.int .i64 z)) 17 [(0, false), (1, false), (2, false), (3, false), (4, false), (5, false), (6, false), (7, false), (8, false), (9, false), (10, false), (11, false), (12, false), (13, false), (14, false), (15, false), (16, false)] (by kernel_rfl) (by kernel_rfl) ?_ ?_
        · go_simp
        simp only [List.drop_succ_cons, List.drop_zero]
        repeat (refine mix_q (v := ?_) (by rfl) (by rfl) ?_ ?_; rotate_left; (focus (intro w' hC; (try dsimp only at hC); go_simp; (first | done | with_reducible rfl))); simp only [Act.put, List.setIfInBounds_toArray, List.set_cons_zero, List.set_cons_succ, List.getElem_toArray, List.getElem_cons_zero, List.getElem_cons_succ])
        refine mix_nil ?_; try simp only [Act.put, List.setIfInBounds_toArray, List.set_cons_zero, List.set_cons_succ, List.getElem_toArray, List.getElem_cons_zero, List.getElem_cons_succ]
        go_wp2
        refine NoPanic.normal ?_
        generalize hW5 : (World.alloc _ _).drew = W5
        obtain ⟨W3, hW3⟩ : ∃ z, z = wr := ⟨_, rfl⟩
        rw [← hW3] at HM HGR HGC HBK hR4 HRD1 hW5 cC fC lC lb1 d1 ⊢
        obtain ⟨gB, hgB⟩ : ∃ z, z = W3.heap.size := ⟨_, rfl⟩
        have HGB5 := hide (show Blk W5 gB 5 #[.int .u8 q1, .int .u8 q2, .int .u8 q3, .int .u8 0] by rw [← hW5]; exact (Blk.at_ hgB : Blk (World.alloc W3 _) gB _ _))
        have HB5 := hide (show Below gB W3 W5 by rw [← hW5, hgB]; go_grown)
        have hgR5 : gR < gB := by omega
        have lb1' : b1 < gB := by omega
        obtain ⟨b2, o2, x, rfl, hb2, d2, HX⟩ := bool_at (HRF.out.below (HBK.out.trans (HB5.out.mono (by omega))) hB) hsn
        have lb2 : b2 < W5.heap.size := by have := HGB5.out.lt; omega
        simp only [← hgB]
        have HW3 := hide hgB
        clear hW5 hW3 hgB d1 cC fC lC lb1 hq1 hq2 hq3
        go_upto_if 54 with fail
        go_cut [] from 55 to 56 (fun wx => Hid (Blk wx gB 5 #[.int .u8 q1, .int .u8 q2, .int .u8 q3, .int .u8 (if x = true then 1 else 0)]) ∧ Hid (Below gB W3 wx))
        case first =>
          have c3 := HGB5.out.cell 3
          have f3 := HGB5.out.frozen 3
          have l3 := HGB5.out.lt
          simp at c3
          clear HX
          cases x
          · go_wp2
            go_meet
            exact ⟨by simpa using HGB5, HB5⟩
          · go_wp2
            go_meet
            exact ⟨hide (by simpa using HGB5.out.set_ 3 (.int .u8 1)), hide (HB5.out.setCell (p := ⟨gB, 3, none⟩) (by exact Nat.le_refl _) _)⟩
        case rest =>
          obtain ⟨HGB6, HB6⟩ := hcut
          clear HGB5 HB5 d2 lb2
          have HO0 := hide (show wc.ownsRow gB 5 1 (.slice (some ⟨gB, 0, none⟩) 4 4) 4 (byRow (b3 z ++ [if x = true then 1 else 0] ++ rowBy cl (rw1.take 0))) by
            have h := own_of_blk (base := gB) HGB6.out (Nat.le_refl _) (by simp [maxLen])
            rw [← HB3.out]
            exact h)
          have hz6 : gB < wc.heap.size := HGB6.out.lt
          obtain ⟨W6, hW6⟩ : ∃ z, z = wc := ⟨_, rfl⟩
          rw [← hW6] at HO0 HB6 hz6 ⊢
          clear hW6 HGB6
          have HC6 := hide (HGC.out.of_block (HB6.out.block gC (by omega)))
          have HRD6 := hide (HRD1.out.below HB6.out (by omega))
          go_upto_region 12 with fail
          go_loopw [12, 59] (fun bv jv wr => ∃ (j m : Nat), j ≤ n1 ∧ jv = .int .i64 (j : Int) ∧ m = 4 + 3 * j ∧ Hid (wr.ownsRow gB 5 1 bv m (byRow (b3 z ++ [if x = true then 1 else 0] ++ rowBy cl (rw1.take j)))) ∧ Hid (Below gB W6 wr) ∧ gB < wr.heap.size) (fun _ jv _ => n1 - (intOf jv).toNat)
          case atStart => exact ⟨0, 4, by omega, rfl, by omega, HO0, hide (Below.refl _ _), hz6⟩
          case round =>
            clear HO0 hz6
            obtain ⟨j, m, hj, rfl, hm, HO, HB7, hz7⟩ := hrel
            by_cases hjn : j < n1
            · obtain ⟨b3', o3, y, rfl, hb3, d3, HY⟩ := num_at (HRD6.out.below HB7.out (by omega)) hjn
              have lb3 : b3' < wr.heap.size := by omega
              have hjl : j < rw1.length := by rw [HL1.out]; exact hjn
              have HTK := hide (take_snoc hjl HY.out)
              have hyn : y < (nf : Int) := by
                have h := HT.out.rng s hsn y
                unfold rowOf at h
                rw [HR1.out] at h
                exact h (by rw [← HY.out]; simp [List.getD, hjl])
              obtain ⟨cc, hcc⟩ : ∃ z, z = clT cl y := ⟨_, rfl⟩
              have HCC := hide hcc
              have HM7 := hide hm
              have hm6 : m ≤ 6004 := by omega
              clear HY hjl hcc hm
              obtain ⟨bb, hbb⟩ : ∃ b : Bool, decide (0 ≤ y) = b := ⟨_, rfl⟩
              have HBB := hide hbb
              go_upto_if 64 with fail
              clear hbb
              go_cut [15] from 65 to 68 (fun s15 wx => s15 = .int .i64 cc ∧ wx = wr)
              case first =>
                have e := HCC.out
                unfold clT at e
                cases bb
                · have hy0 : ¬ 0 ≤ y := of_decide_eq_false HBB.out
                  rw [if_neg hy0] at e
                  have HE := hide e
                  clear e
                  go_wp2
                  go_meet
                  exact ⟨by rw [HE.out], rfl⟩
                · have hy0 : 0 ≤ y := of_decide_eq_true HBB.out
                  have cC := (HC6.out.of_block (HB7.out.block gC (by omega))).cell (show y.toNat < nf by omega)
                  rw [if_pos hy0] at e
                  rw [← e] at cC
                  have lC : gC < wr.heap.size := by omega
                  clear e
                  go_wp2
                  go_meet
                  exact ⟨rfl, rfl⟩
              case rest =>
                obtain ⟨rfl, hwc⟩ := hcut
                subst hwc
                obtain ⟨A5, c5, rfl, hmc, _⟩ := own_value HO.out
                obtain ⟨q4, hq4⟩ : ∃ q, IntKind.u8.wrap (cc / 65536) = q := ⟨_, rfl⟩
                obtain ⟨q5, hq5⟩ : ∃ q, IntKind.u8.wrap (cc / 256) = q := ⟨_, rfl⟩
                obtain ⟨q6, hq6⟩ : ∃ q, IntKind.u8.wrap cc = q := ⟨_, rfl⟩
                have HB4 := hide (show [q4, q5, q6] = b3 cc by rw [← b3w_eq, ← hq4, ← hq5, ← hq6]; rfl)
                go_wp2_with (at_builtin; refine wpList_append_own_at _ rfl (.tmp 69) (.tmp 78) 114 rfl gB 5 i8 _ 1 1 Try.underlying114 h80 h81 h82 h83 rfl (by omega) (.slice A5 m c5) m _ rfl (HO.out.alloc _) ⟨wc.heap.size, 0, none⟩ 3 3 (byRow [q4, q5, q6]) rfl (by rfl) (World.news_of_block (cs := (byRow [q4, q5, q6]).toArray) (t := 5) (fr := (0, 0)) (Blk.at_ rfl)) (byRow_one _) (by simp only [maxLen]; omega) (by omega) (by simp <;> omega) ?_; intro v' w8 hown2 hg2 _ hat2)
                have HON := hide (show w8.ownsRow gB 5 1 v' (m + 3) (byRow (b3 z ++ [if x = true then 1 else 0] ++ rowBy cl (rw1.take (j + 1)))) by
                  rw [HTK.out, rowBy_snoc, ← HCC.out, ← List.append_assoc, byRow_append _ (b3 cc), ← HB4.out]
                  exact hown2)
                have HBN := hide ((HB7.out.alloc (by omega) _).grown hg2 (by simp <;> omega) (fun z hz => (HO.out.lt z hz).1))
                have hs8 := hg2.size
                simp at hs8
                have hm3 : m + 3 = 4 + 3 * (j + 1) := by have := HM7.out; omega
                have HM3 := hide hm3
                clear hown2 hg2 hat2 hm3 hq4 hq5 hq6
                go_roundw
                case rel => exact ⟨j + 1, m + 3, by omega, by go_num, HM3.out, HON, HBN, by omega⟩
                case measure => simp [intOf]; omega
            · obtain rfl : n1 = j := by omega
              have hend : rw1.take n1 = rw1 := List.take_of_length_le (by rw [HL1.out]; exact Nat.le_refl _)
              have HKS := hide (show byRow (b3 z ++ [if x = true then 1 else 0] ++ rowBy cl (rw1.take n1)) = Lib.byteCells (K s) by
                rw [hend, HKE.out, ← byRow_cells (keyBy_rng _ _ _ _)]
                unfold keyBy rowOf
                rw [HR1.out, ← HZ.out, show finOf F s = x from HX.out])
              have HOK := hide (show okS (K s) by
                unfold okS
                rw [HKE.out]
                unfold toB
                rw [List.length_map, keyBy_len]
                unfold rowOf
                rw [HR1.out, HL1.out]
                omega)
              rw [HKS.out] at HO
              have hcv := str_at HO.out
              have HB8 := hide (HB6.out.trans HB7.out)
              have HM8 := hide (HM.out.below HB8.out (by omega))
              have HGR8 := hide (HGR.out.of_block (HB8.out.block gR hgR5))
              have HGC8 := hide (HGC.out.of_block (HB8.out.block gC (by omega)))
              have HBK8 := hide (HBK.out.trans (HB8.out.mono (by omega)))
              obtain ⟨W8, hW8⟩ : ∃ z, z = wr := ⟨_, rfl⟩
              rw [← hW8] at hcv HM8 HGR8 HGC8 HBK8 hz7 ⊢
              clear hW8 hend HO HB7 HB8 HKS HX HM HGR HGC HBK
              have hR8 : gR < W8.heap.size := by omega
              by_cases hmem : K s ∈ numD K s
              · have HLY := hide (old_at (n := nf) hmem hsn)
                have HLY1 := hide (show (lk (numE (numD K s) 0) (K s)).getD (.int .i64 0) = .int .i64 ((posU K nf s : Nat) : Int) by rw [HLY.out]; rfl)
                have HNO := hide (num_old hmem)
                have rc := HGR8.out.cell hsn
                have rf := HGR8.out.frozen s
                have HOLD := hide (show (if s < s then Value.int .i64 ((posU K nf s : Nat) : Int) else .int .i64 0) = .int .i64 0 by rw [if_neg (Nat.lt_irrefl _)])
                rw [HOLD.out] at rc
                clear hmem HOLD
                go_wp2_with (first
                  | (at_lookup; refine wpList_look_yes rfl _ _ 93 rfl kl_str Try.underlying93 zero_intS rfl HM8.out (K s) rfl HOK.out _ HLY.out ?_)
                  | (at_lookup; refine wpList_look_one rfl _ _ 93 rfl kl_str Try.underlying93 zero_intS rfl HM8.out (K s) rfl HOK.out _ HLY1.out ?_))
                go_roundw
                case rel => exact ⟨s + 1, by omega, by go_num, hide (by rw [HNO.out]; exact HM8.out.set_ (p := ⟨gR, s, none⟩) (by show Mb ≠ gR; omega) _), hide ((HGR8.out.set s (.int .i64 ((posU K nf s : Nat) : Int))).congr (fun i hi => by
                    by_cases e : i = s
                    · subst e; simp
                    · by_cases e2 : i < s
                      · simp [e, e2, Nat.lt_succ_of_lt e2]
                      · rw [if_neg e, if_neg e2, if_neg (by omega)])), hide (HGC8.out.setOther (a := ⟨gR, s, none⟩) (by show gC ≠ gR; omega) _), hide (HBK8.out.setCell (p := ⟨gR, s, none⟩) (by show H ≤ gR; omega) _), by simp [World.setCell]; omega⟩
                case measure => simp [intOf]; omega
              · have HLN := hide (look_no hmem)
                have HNN := hide (num_new hmem)
                have HLA := hide (show (lk (numE (numD K (s + 1)) 0) (K s)).getD (.int .i64 0) = .int .i64 ((posU K nf s : Nat) : Int) by rw [look_at (K := K) (s := s) (m := s + 1) (n := nf) (by omega) (by omega)]; rfl)
                have rc := HGR8.out.cell hsn
                have rf := HGR8.out.frozen s
                have HOLD := hide (show (if s < s then Value.int .i64 ((posU K nf s : Nat) : Int) else .int .i64 0) = .int .i64 0 by rw [if_neg (Nat.lt_irrefl _)])
                rw [HOLD.out] at rc
                obtain ⟨nl, hnl⟩ : ∃ z, z = (numD K s).length := ⟨_, rfl⟩
                rw [← hnl] at HNN
                have HNL := hide (show (numE (numD K s) 0).length = nl by rw [numE_length, hnl])
                have hln := HM8.out.run_len (P := Try.prog) Try.underlying93 HNL.out
                clear hmem HOLD hnl
                go_wp2_with (first
                  | (at_lookup; refine wpList_look_no rfl _ _ 93 rfl kl_str Try.underlying93 zero_intS rfl HM8.out (K s) rfl HOK.out HLN.out ?_)
                  | (at_mapUpdate; go_loud (refine wpList_mapup rfl _ _ _ 93 rfl kl_str Try.underlying93 rfl HM8.out (K s) rfl HOK.out (.int .i64 (nl : Int)) rfl ?_); intro w9 hm9 hg9 hz9; rw [HNN.out] at hm9; have rc9 := hg9.cell rc (by simp; omega); have rf9 := far_free hg9 (by simp; omega) hR8 rf)
                  | (at_lookup; refine wpList_look_one rfl _ _ 93 rfl kl_str Try.underlying93 zero_intS rfl hm9 (K s) rfl HOK.out _ HLA.out ?_))
                have HR9 := hide (HGR8.out.of_block (hg9.block gR hR8 (by simp; omega)))
                have HC9 := hide (HGC8.out.of_block (hg9.block gC (by omega) (by simp; omega)))
                have HBK9 := hide (HBK8.out.grown hg9 (by omega) (fun z hz => by injection hz with hz; omega))
                go_roundw
                case rel => exact ⟨s + 1, by omega, by go_num, hide (hm9.set_ (p := ⟨gR, s, none⟩) (by show Mb ≠ gR; omega) _), hide ((HR9.out.set s (.int .i64 ((posU K nf s : Nat) : Int))).congr (fun i hi => by
                    by_cases e : i = s
                    · subst e; simp
                    · by_cases e2 : i < s
                      · simp [e, e2, Nat.lt_succ_of_lt e2]
                      · rw [if_neg e, if_neg e2, if_neg (by omega)])), hide (HC9.out.setOther (a := ⟨gR, s, none⟩) (by show gC ≠ gR; omega) _), hide (HBK9.out.setCell (p := ⟨gR, s, none⟩) (by show H ≤ gR; omega) _), by simp [World.setCell]; omega⟩
                case measure => simp [intOf]; omega
      · obtain rfl : nf = s := by omega
        have HNX := hide (HCL.out.next HT.out)
        have HGX := hide (cls_grow HCL.out)
        obtain ⟨k', hk'⟩ : ∃ z, z = cntC (rowOf L) (finOf F) nf cl := ⟨_, rfl⟩
        rw [← hk'] at HNX HGX
        have HLE := hide (show k' ≤ nf by rw [hk', HKU.out.1]; exact numD_len K nf)
        have HNL := hide (show (numE (numD K nf) 0).length = k' by rw [numE_length, hk', HKU.out.1])
        have HREN := hide (show ∀ i, i < nf → posU K nf i = renK (rowOf L) (finOf F) nf cl i from fun i hi => ((HKU.out.2 i hi).symm))
        have HGR9 := hide (HGR.out.congr (g := fun i => .int .i64 ((renK (rowOf L) (finOf F) nf cl i : Nat) : Int)) (fun i hi => by rw [if_pos hi, HREN.out i hi]))
        have HLOW := hide (show ∀ i, i < nf → renK (rowOf L) (finOf F) nf cl i < k' from fun i hi => by rw [hk']; exact List.idxOf_lt_length_of_mem (mem_numD.2 ⟨i, hi, rfl⟩))
        have HK' := hide hk'
        clear hk'
        by_cases hstop : k' = k
        · subst hstop
          have HEND := hide (cls_end HT.out HCL.out HK'.out.symm)
          have t5 : ((k' : Int) == (k' : Int)) = true := by simp
          have hln := HM.out.run_len (P := Try.prog) Try.underlying93 HNL.out
          go_wp2
          exact bodyPost_ret (v := .tuple #[.slice (some ⟨gR, 0, none⟩) nf nf, .int .i64 (k' : Int)]) (by simp [results, Try.results83, go_sem]) rfl ⟨gR, renK (rowOf L) (finOf F) nf cl, k', rfl, HGR9.out, by rw [← HHW.out]; omega, HLE.out, HLOW.out, HEND.out, HNX.out.onto, by rw [← HHW.out]; exact HBK.out⟩
        · have t5 : ((k' : Int) == (k : Int)) = false := by simp; omega
          have hgrow : k < k' := by have := HGX.out; omega
          have hle' := HLE.out
          clear hstop
          have hln := HM.out.run_len (P := Try.prog) Try.underlying93 HNL.out
          go_wp2
          go_roundw
          case rel => exact ⟨gR, renK (rowOf L) (finOf F) nf cl, k', rfl, rfl, HGR9, HNX, hide (fun i hi => by have := HLOW.out i hi; omega), HLE.out, by omega, HBK, by omega⟩
          case measure => simp [intOf]; omega
end Go.Proofs.Ytopakcbhodnipaa
