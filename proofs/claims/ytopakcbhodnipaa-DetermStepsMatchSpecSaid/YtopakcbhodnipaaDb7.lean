/- The texts SeW of this proof. No conditions. -/
import Derived.Test.YtopakcbhodnipaaCb11
import Derived.Test.YtopakcbhodnipaaCb25
import Derived.Test.YtopakcbhodnipaaCb26
import Derived.Test.YtopakcbhodnipaaCb27
import Derived.Test.YtopakcbhodnipaaCb28
import Derived.Test.YtopakcbhodnipaaDb1
import Derived.Test.YtopakcbhodnipaaDb5
import Derived.Test.YtopakcbhodnipaaDb6
/- Text SeW. -/
namespace Go.Proofs.Ytopakcbhodnipaa
open Go.RowKit Gm
set_option linter.unusedSimpArgs false
set_option linter.unusedVariables false
theorem labsR_len3 (A : List Arc) : (labsR A).length ≤ A.length := by
 have h : (labsR A).length ≤ (A.map (·.i)).length := incD_len (labsR_sorted A) (fun x hx => by
  obtain ⟨_, a, ha, rfl⟩ := (labsR_mem A x).1 hx
  exact List.mem_map.2 ⟨a, ha, rfl⟩)
 rwa [List.length_map] at h
theorem bools_info : (Try.prog.info? 24).map (fun i => (i.zero, i.size, i.bytes)) = some (some (.slice none 0 0), 1, 24) := by kernel_rfl
set_option maxRecDepth 100000 in
set_option maxHeartbeats 16000000 in
theorem sets_any (
 va : Value) (m : Mach) (w : World) (B : Nat) (hB : B ≤ w.heap.size) (ha : MachAt w B va m) (hv : accF m = (0, 0)) (hl : (silM m).arcs.length ≤ 2000) :
 Calls Try.prog 34 #[va] w fun e w' => ∃ v1 b, e = .returned (.tuple #[v1, .bool b]) ∧ Below w.heap.size w w' ∧ (b = false → MachNew w.heap.size w' v1 (silM m)) ∧ (b = true → MachNew w.heap.size w' v1 (setsR m) ∧ (setsR m).n ≤ 60) := by
 have HVV := hide hv
 obtain ⟨K, hK⟩ : ∃ z, z = silM m := ⟨_, rfl⟩
 have HSR := hide (show silR m = (K, (0, 0)) by unfold silR; rw [if_neg (by rw [hv]; simp), if_neg (by omega), hK])
 have HST := hide (show setsR m = if K.n = 0 then K else setM K by unfold setsR; rw [← hK])
 have HKM := hide hK
 rw [← hK] at hl ⊢
 have HLEN := hide hl
 have HM := hide ha
 obtain ⟨i0, hi0, iz0, iz1, iz2⟩ := info_parts arc_info
 obtain ⟨i1, hi1, jz0, jz1, jz2⟩ := info_parts fin_info
 obtain ⟨i2, hi2, kz0, kz1, kz2⟩ := info_parts bools_info
 obtain ⟨A, AF, n, c, nf, cf, rfl, _⟩ := ha
 clear hv hl hK
 go_enter Try.func34, Try.ntmps34
 go_upto_region 1 with fail
 generalize hW2 : World.alloc _ _ = W2
 obtain ⟨X, hX⟩ : ∃ z, z = w.heap.size := ⟨_, rfl⟩
 obtain ⟨R, hR⟩ : ∃ z, z = w.heap.size + 1 := ⟨_, rfl⟩
 have bX := hide (show Blk W2 X 28 #[.int .i64 m.n, .slice A n c, .slice AF nf cf] by rw [← hW2]; exact (Blk.at_ hX).alloc _)
 have bR := hide (show Blk W2 R 28 #[.int .i64 0, .slice none 0 0, .slice none 0 0] by rw [← hW2]; exact Blk.at_ (by simp [hR]))
 have HBW := hide (show Below w.heap.size w W2 by rw [← hW2]; go_grown)
 have hXR : X < R := by omega
 have hwR : w.heap.size ≤ R := by omega
 have hwX : w.heap.size ≤ X := by omega
 have hRs : W2.heap.size = R + 1 := by rw [← hW2]; simp [hR]
 simp only [← hR]
 try simp only [← hX]
 clear hW2 hX hR
 have HM2 := hide (HM.out.below HBW.out hB)
 have x0 := bX.out.cell 0
 have x1 := bX.out.cell 1
 have x2 := bX.out.cell 2
 simp at x0 x1 x2
 have lX := bX.out.lt
 go_upto_region 2 with (go_at_call 33; refine (silentOf_any _ m W2 B (by omega) HM2.out HVV.out).mono ?_; rintro e w3 ⟨v1, rfl, hnew, hb3⟩; rw [← HKM.out] at hnew; obtain ⟨AK, AFK, nK, cK, nfK, cfK, rfl, hn1, hn2, hn3, hn4, hn5, hn6, hn7, hn8⟩ := hnew.at_; clear hn1 hn2 hn3 hn4 hn5 hn6 hn7 hn8; have HNK := hide hnew; have HB3 := hide hb3; have bX3 := hide (bX.out.below hb3 bX.out.lt); clear hnew hb3 x0 x1 x2 lX; have x0 := bX3.out.cell 0; have x1 := bX3.out.cell 1; have x2 := bX3.out.cell 2; simp at x0 x1 x2; have xf0 := bX3.out.frozen 0; have xf1 := bX3.out.frozen 1; have xf2 := bX3.out.frozen 2; have lX := bX3.out.lt)
 have hXW : X < W2.heap.size := by omega
 have bX4 := hide (((bX3.out.set_ 0 (.int .i64 K.n)).set_ 1 (.slice AK nK cK)).set_ 2 (.slice AFK nfK cfK))
 have bR4 := hide ((((bR.out.below HB3.out (by omega)).far (p := ⟨X, 0, none⟩) (by show R ≠ X; omega) (.int .i64 K.n)).far (p := ⟨X, 1, none⟩) (by show R ≠ X; omega) (.slice AK nK cK)).far (p := ⟨X, 2, none⟩) (by show R ≠ X; omega) (.slice AFK nfK cfK))
 have HK4 := hide (((HNK.out.set (p := ⟨X, 0, none⟩) hXW (.int .i64 K.n)).set (p := ⟨X, 1, none⟩) hXW (.slice AK nK cK)).set (p := ⟨X, 2, none⟩) hXW (.slice AFK nfK cfK))
 have HB4 := hide ((((HBW.out.trans (HB3.out.mono (by omega))).setCell (p := ⟨X, 0, none⟩) hwX (.int .i64 K.n)).setCell (p := ⟨X, 1, none⟩) hwX (.slice AK nK cK)).setCell (p := ⟨X, 2, none⟩) hwX (.slice AFK nfK cfK))
 generalize hW4 : World.setCell _ _ _ = W4 at *
 clear hW4 bX bR bX3 HB3 HNK HM2 HBW x0 x1 x2 lX xf0 xf1 xf2
 have bX4 := hide (show Blk W4 X 28 #[.int .i64 K.n, .slice AK nK cK, .slice AFK nfK cfK] from bX4.out)
 have x0 := bX4.out.cell 0
 have x1 := bX4.out.cell 1
 have x2 := bX4.out.cell 2
 simp at x0 x1 x2
 have lX := bX4.out.lt
 by_cases hn0 : K.n = 0
 ·
  have t1 : (K.n == 0) = true := by simp [hn0]
  have HSZ := hide (show setsR m = K by rw [HST.out, if_pos hn0])
  have HN0 := hide hn0
  have q0 := bR4.out.cell 0
  have q1 := bR4.out.cell 1
  have q2 := bR4.out.cell 2
  have qf := bR4.out.frozen 0
  have qf1 := bR4.out.frozen 1
  have qf2 := bR4.out.frozen 2
  have lR := bR4.out.lt
  simp at q0 q1 q2
  have hRW : R < W2.heap.size := by omega
  have HNW := hide (((HK4.out.set (p := ⟨R, 0, none⟩) hRW (.int .i64 K.n)).set (p := ⟨R, 1, none⟩) hRW (.slice AK nK cK)).set (p := ⟨R, 2, none⟩) hRW (.slice AFK nfK cfK))
  have HBE := hide (((HB4.out.setCell (p := ⟨R, 0, none⟩) hwR (.int .i64 K.n)).setCell (p := ⟨R, 1, none⟩) hwR (.slice AK nK cK)).setCell (p := ⟨R, 2, none⟩) hwR (.slice AFK nfK cfK))
  have hwW : w.heap.size ≤ W2.heap.size := by omega
  clear hn0
  go_wp21
  exact bodyPost_ret (v := .tuple #[.agg #[.int .i64 K.n, .slice AK nK cK, .slice AFK nfK cfK], .bool true]) (by simp [results, Try.results34, go_sem, lR, q0, q1, q2, qf, qf1, qf2]) rfl ⟨_, true, rfl, HBE.out, fun h => (by cases h), fun _ => ⟨by rw [HSZ.out]; exact HNW.out.mono hwW, by rw [HSZ.out, HN0.out]; decide⟩⟩
 have t1 : (K.n == 0) = false := by simp [hn0]
 have hok : SilOk K K.n.toNat := by
  have h := silR_ok (m := m) (by rw [HSR.out]) (by rw [HSR.out]; exact hn0)
  rw [HSR.out] at h
  exact h
 have HSZ := hide (show setsR m = setM K by rw [HST.out, if_neg hn0])
 obtain ⟨S, hS⟩ : ∃ z, z = K.n.toNat := ⟨_, rfl⟩
 rw [← hS] at hok
 have hSn : K.n = (S : Int) := hok.n
 have hS0 : 0 < S := hok.pos
 have hS4 : S ≤ 400 := hok.n4
 have HOK := hide hok
 have HKL := hide hok.len
 have HMA := hide (show MachAt W4 W4.heap.size (.agg #[.int .i64 K.n, .slice AK nK cK, .slice AFK nfK cfK]) K from HK4.out.at_)
 obtain ⟨AK', AFK', nK', cK', nfK', cfK', hE, HN, HF, hnc, hnfc, hnb, hnfb, hA, hF⟩ := HMA.out
 simp only [Value.agg.injEq, Array.mk.injEq, List.cons.injEq, Value.slice.injEq, true_and, and_true] at hE
 obtain ⟨⟨rfl, rfl, rfl⟩, rfl, rfl, rfl⟩ := hE
 have HRA := hide hA
 have HRF := hide hF
 rw [hSn] at x0 t1 bX4 HMA
 have HSN := hide hSn
 clear hA hF hok hn0 hS hSn HST HSR
 unfold big at hnb hnfb
 have HMK := hide (fun (W : World) => run_make_row' (P := Try.prog) 24 4 (.bool false) 1 Try.underlying24 bool_info rfl .i64 .i64 S (by omega) (by omega) W)
 have hmk := HMK.out
 have HR0 := hide (show (W4.alloc (.cells (madeCells #[.bool false] S) 4)).rowIs W4.heap.size 4 S (fun _ => .bool false) from World.rowIs_made W4 (.bool false) S 4)
 have c0 := HR0.out.cell hS0
 have f0 := HR0.out.frozen 0
 have l0 := HR0.out.lt
 have j1 : (0 : Int) < (S : Int) := by omega
 go_upto_region 9 with fail
 generalize hW5 : World.alloc _ _ = W5
 obtain ⟨G, hG⟩ : ∃ z, z = W4.heap.size := ⟨_, rfl⟩
 obtain ⟨O, hO⟩ : ∃ z, z = W4.heap.size + 1 + 1 := ⟨_, rfl⟩
 have HL5 := hide (show BL W5 G 24 4 S (.slice (some ⟨W4.heap.size + 1, 0, none⟩) 1 1) 1 [G] (StD K 0).1.1 from by
  have h := HR0.out.set 0 (.bool true)
  rw [World.setCell_alloc_new] at h
  refine ⟨?_, rfl, fun i g Z hg hZ => ?_⟩
  ·
   rw [← hW5]
   have hb : Blk ((W4.alloc (Obj.cells ((madeCells #[.bool false] S).setIfInBounds 0 (.bool true)) 4)).alloc (Obj.cells #[rowV' S G] 24)) (W4.heap.size + 1) 24 #[rowV' S G] := Blk.at_ (by simp)
   rw [← hG]
   exact own_of_blkS (base := G) (by first | exact hb.alloc _ | (rw [hG] at *; exact hb.alloc _)) (by omega) (by simp [maxLen])
  ·
   have hi : i = 0 := by
    have := (List.getElem?_eq_some_iff.1 hg).1
    simp at this
    exact this
   subst hi
   have e1 : G = g := by simpa using hg
   have e2 : [0] = Z := by simpa [StD, stB_zero] using hZ
   rw [← e1, ← e2, ← hW5, hG]
   refine ((h.alloc _).alloc _).congr fun j hj => ?_
   by_cases e : j = 0
   · subst e; simp
   · simp [e])
 have HM5 := hide (show Mg 28 61 63 W5 O G 0 0 (StD K 0).1.2 0 (StD K 0).2 by
  rw [← hW5]
  exact Mg.start (Blk.at_ (by rw [hO]; simp)) G)
 have HB5 := hide (show Below G W4 W5 by rw [← hW5, hG]; go_grown)
 have hz5 : O < W5.heap.size := HM5.out.lt
 have hGO : G ≤ O := by omega
 have hXG : X < G := by omega
 have hRG : R < G := by have := bR4.out.lt; omega
 have hwG : w.heap.size ≤ G := by omega
 have HGE := hide hG
 have HMG := hide (show MachAt W4 G (.agg #[.int .i64 (S : Int), .slice AK nK cK, .slice AFK nfK cfK]) K by rw [hG]; exact HMA.out)
 rw [← hG] at HRA HRF
 have HNE := hide (show (StD K 0).1.1.length = 1 from rfl)
 rw [← hG] at HL5
 simp only [← hO]
 try simp only [← hG]
 clear hmk c0 f0 l0 x0 x1 x2 lX j1 hW5 hG hO HR0 HMA
 have hP1 : 1 ≤ 60 := by omega
 go_loopw [5, 7] (fun lv iv wr => ∃ (k p q r : Nat) (gs : List Nat), k ≤ p ∧ iv = .int .i64 (k : Int) ∧ q ≤ 2000 * k ∧ r ≤ k ∧ p ≤ 60 ∧ Hid (BL wr G 24 4 S lv p gs (StD K k).1.1) ∧ Hid (Mg 28 61 63 wr O G 0 q (StD K k).1.2 r (StD K k).2) ∧ Hid (Below G W4 wr) ∧ O < wr.heap.size) (fun _ iv _ => 60 - (intOf iv).toNat)
 case atStart => exact ⟨0, 1, 0, 0, [G], by omega, rfl, by omega, by omega, hP1, HL5, HM5, HB5, hz5⟩
 case round =>
  clear HL5 HM5 HB5 hz5 HNE
  obtain ⟨k, p, q, r, gs, hkp, rfl, hq, hr, hp, HL, HM, HB, hOz⟩ := hrel
  have bX6 := hide (bX4.out.below HB.out hXG)
  by_cases hlt : k < p
  ·
   obtain ⟨lb, lc, g0, Z, rfl, hpc, hGl, hlb, d0, hg0, hZ, HZR⟩ := HL.out.at_ hlt
   have HZ := hide hZ
   have HNX := hide (stB_next hZ)
   have HZO := hide (stD_ok HOK.out.rng hS0 k Z (List.mem_of_getElem? hZ))
   have HP0 := hide (show (bfsRow k (stpX K.arcs (labsR K.arcs) Z 0) (StD K k).1) = (StD K k).1 by rw [stpX_zero]; rfl)
   have HLM := hide (show ∀ a ∈ K.arcs, a.i ∈ labsR K.arcs from fun a ha => (labsR_mem _ _).2 ⟨by have := (HOK.out.lab a ha).1; omega, a, ha, rfl⟩)
   have HLL := hide (show (labsR K.arcs).length ≤ 2000 by
    have := labsR_len3 K.arcs
    have := HKL.out
    omega)
   clear hg0 hZ HZR d0
   have x0 := bX6.out.cell 0
   have x1 := bX6.out.cell 1
   have x2 := bX6.out.cell 2
   simp at x0 x1 x2
   have lX := bX6.out.lt
   go_upto_region 12 with (go_at_call 27; refine (labels_any _ K wr G (by omega) (HMG.out.below HB.out (Nat.le_refl _)) (by have := HKL.out; omega)).mono ?_; rintro e w7 ⟨AL, cL, rfl, ho7, hb7⟩; have HO7 := hide ho7; have HB7 := hide hb7; clear ho7 hb7)
   have HL7 := hide (HL.out.below HB7.out)
   have HM7 := hide (HM.out.below HB7.out)
   have HB8 := hide (HB.out.trans (HB7.out.mono (by omega)))
   have HO8 := hide (own_low HO7.out (show G ≤ wr.heap.size by omega))
   have hOz7 : O < w7.heap.size := by have := HB7.out.size; omega
   rw [← HP0.out] at HL7 HM7
   clear HL HM HB HB7 HO7 x0 x1 x2 lX bX6 hOz HP0
   obtain ⟨ls, hls⟩ : ∃ z, z = labsR K.arcs := ⟨_, rfl⟩
   have HLS := hide (show ls.Pairwise (· < ·) by rw [hls]; exact labsR_sorted _)
   rw [← hls] at HL7 HM7 HO8 HLM HLL ⊢
   obtain ⟨nl, hnl⟩ : ∃ z, z = ls.length := ⟨_, rfl⟩
   have HNL := hide hnl
   rw [← hnl] at HO8 HLL ⊢
   have hnl2 : nl ≤ 2000 := HLL.out
   clear hls hnl HLL
   go_loopw [5, 44] (fun lv jv wr => ∃ (j p q1 : Nat) (gs : List Nat), j ≤ nl ∧ k < p ∧ jv = .int .i64 (j : Int) ∧ q1 ≤ 2000 * k + j ∧ p ≤ 60 ∧ Hid (BL wr G 24 4 S lv p gs (bfsRow k (stpX K.arcs ls Z j) (StD K k).1).1) ∧ Hid (Mg 28 61 63 wr O G 0 q1 (bfsRow k (stpX K.arcs ls Z j) (StD K k).1).2 r (StD K k).2) ∧ Hid (wr.ownsRow G 3 1 (.slice AL nl cL) nl (intRow ls)) ∧ Hid (Below G W4 wr) ∧ O < wr.heap.size) (fun _ jv _ => nl - (intOf jv).toNat)
   case atStart => exact ⟨0, p, q, gs, by omega, hlt, rfl, by omega, hp, HL7, HM7, HO8, HB8, hOz7⟩
   case round =>
    clear HL7 HM7 HO8 HB8 hOz7
    obtain ⟨j, p', q1, gs', hj, hkp', rfl, hq1, hp', HL, HM, HOL, HB, hOz⟩ := hrel
    obtain ⟨ST, hST⟩ : ∃ z, z = bfsRow k (stpX K.arcs ls Z j) (StD K k).1 := ⟨_, rfl⟩
    have HSV := hide (show ST.1[k]? = some Z by
     obtain ⟨e, he⟩ := bfsRow_pre k (stpX K.arcs ls Z j) (StD K k).1
     rw [hST, he, List.getElem?_append_left (List.getElem?_eq_some_iff.1 HZ.out).1]
     exact HZ.out)
    have HND := hide (show ST.1.Nodup by rw [hST]; exact bfsRow_nodup _ _ _ (stB_nodup k))
    have HSR := hide (show ∀ z ∈ ST.1, okSet S z by rw [hST]; exact bfsRow_all (P := okSet S) (stD_ok HOK.out.rng hS0 k) (stpX_ok HOK.out.rng))
    rw [← hST] at HL HM
    have HST := hide hST
    clear hST
    have bX6 := hide (bX4.out.below HB.out hXG)
    have x0 := bX6.out.cell 0
    have x1 := bX6.out.cell 1
    have x2 := bX6.out.cell 2
    simp at x0 x1 x2
    have lX := bX6.out.lt
    obtain ⟨lb, lc, g0, Z', rfl, hpc, hGl, hlb, d0, hg0, hZ', hZR⟩ := HL.out.at_ hkp'
    obtain rfl : Z' = Z := Option.some.inj (hZ'.symm.trans HSV.out)
    have hg0z : g0 < wr.heap.size := hZR.lt
    have HZR := hide hZR
    clear hZR hg0 hZ'
    by_cases hjn : j < nl
    ·
     obtain ⟨x, hx⟩ : ∃ x, ls[j]? = some x := ⟨_, List.getElem?_eq_getElem (by rw [← HNL.out]; exact hjn)⟩
     obtain ⟨bL, cL', e, hbL1, hbL2⟩ := HOL.out.form (by omega)
     simp only [Value.slice.injEq, true_and] at e
     obtain ⟨rfl, rfl⟩ := e
     have cx := HOL.out.cellAt j (by omega)
     rw [show (intRow ls)[j]? = some (.int .i64 x) by unfold intRow; rw [List.getElem?_map, hx]; rfl] at cx
     have HXS := hide (stpX_next (A := K.arcs) (X := Z') hx)
     have hmk := HMK.out
     have HR0 := hide (show (wr.alloc (.cells (madeCells #[.bool false] S) 4)).rowIs wr.heap.size 4 S (fun _ => .bool false) from World.rowIs_made wr (.bool false) S 4)
     obtain ⟨W7, hW7⟩ : ∃ z, z = wr := ⟨_, rfl⟩
     rw [← hW7] at HL HM HOL HB hOz x0 x1 x2 lX hlb d0 HZR hg0z bX6 hbL2 cx HR0 ⊢
     have HD0 := hide d0
     clear hW7 hx
     go_upto_region 17 with fail
     clear hmk cx
     generalize hW8 : World.alloc _ _ = W8
     obtain ⟨g, hg⟩ : ∃ z, z = W7.heap.size := ⟨_, rfl⟩
     have HRW8 := hide (show W8.rowIs g 4 S (fun i => .bool (nxtS K.arcs Z' x 0 i)) by rw [← hW8, hg]; exact HR0.out.congr (fun i _ => by rw [nxtS_zero]))
     have HB8 := hide (show Below g W7 W8 by rw [← hW8, hg]; exact (Below.refl _ _).alloc (Nat.le_refl _) _)
     have hg8 : g < W8.heap.size := HRW8.out.lt
     have hgE := hide hg
     have hGg : G ≤ g := by have := HB.out.size; omega
     have hlg : lb < g := by omega
     have hg0g : g0 < g := by omega
     have hOg : O < g := by omega
     try simp only [← hg]
     clear hW8 hg HR0 x0 x1 x2 lX d0 bX6
     go_loopw [11, 54] (fun av tv wr => ∃ t : Nat, t ≤ nK ∧ av = .bool (somS K.arcs Z' x t) ∧ tv = .int .i64 (t : Int) ∧ Hid (wr.rowIs g 4 S (fun i => .bool (nxtS K.arcs Z' x t i))) ∧ Hid (Below g W7 wr) ∧ g < wr.heap.size) (fun _ tv _ => nK - (intOf tv).toNat)
     case atStart => exact ⟨0, by omega, by rw [somS_zero], rfl, HRW8, HB8, hg8⟩
     case round =>
      clear HRW8 HB8 hg8
      obtain ⟨t, ht, rfl, rfl, HRW, HBW, hgz⟩ := hrel
      have HBT := hide (show Below G W4 wr from HB.out.trans (HBW.out.mono hGg))
      have HBV := hide (show Below W7.heap.size W7 wr by rw [← hgE.out]; exact HBW.out)
      obtain ⟨sv, hsv⟩ : ∃ z, z = somS K.arcs Z' x t := ⟨_, rfl⟩
      have HSV2 := hide hsv
      rw [← hsv]
      clear hsv
      by_cases htn : t < nK
      ·
       obtain ⟨bb, off, a, hAe, hbB, e0, e1, e2, e3, e4, HX⟩ := arcs_at (HRA.out.below HBT.out (Nat.le_refl _)) htn
       subst hAe
       have hbw : bb < wr.heap.size := by omega
       have hkl : t < K.arcs.length := by rw [HN.out]; exact htn
       have hak : K.arcs[t]? = some a := by rw [← HX.out, List.getElem?_eq_getElem hkl]; simp [hkl]
       obtain ⟨r0, r1, r2, r3⟩ := HOK.out.rng a (List.mem_of_getElem? hak)
       have HAK := hide hak
       have d0 := keep_cell HBV.out HD0.out hlb
       have hZR := HZR.out.of_block (HBV.out.block g0 hg0z)
       have cz := hZR.cell (show a.f.toNat < S by omega)
       have lz : g0 < wr.heap.size := hZR.lt
       have llb : lb < wr.heap.size := by omega
       rw [show ((a.f.toNat : Nat) : Int) = a.f by omega] at cz
       have fN := HRW.out.frozen a.t.toNat
       have cN := HRW.out.cell (show a.t.toNat < S by omega)
       clear hkl hak HX hZR
       by_cases hax : a.i = x
       ·
        have t1 : (a.i == x) = true := by simp [hax]
        by_cases haz : a.f ∈ Z'
        ·
         have HSN := hide (somS_yes (X := Z') (x := x) HAK.out ⟨hax, haz⟩)
         have HRS := hide (fun (W : World) (h : W.rowIs g 4 S (fun i => .bool (nxtS K.arcs Z' x t i))) => (h.set a.t.toNat (.bool true)).congr (g := fun i => .bool (nxtS K.arcs Z' x (t + 1) i)) (fun i _ => by rw [nxtS_yes (X := Z') (x := x) HAK.out ⟨hax, haz⟩ r2]; split <;> rfl))
         rw [decide_eq_true haz] at cz
         clear haz
         go_wp2
         go_quiet (fail)
         go_wp2
         go_roundw
         case rel => exact ⟨t + 1, by omega, by rw [HSN.out], by go_num, hide (HRS.out _ (HRW.out.alloc _)), hide ((below_drewN (HBW.out.alloc (by omega) _) _).setCell (p := ⟨g, _, none⟩) (by exact Nat.le_refl _) _), by simp [World.setCell]; omega⟩
         case measure => simp [intOf]; omega
        ·
         have HSN := hide (somS_no (X := Z') (x := x) (a := a) HAK.out (fun h => haz h.2))
         have HRN := hide (HRW.out.congr (g := fun i => .bool (nxtS K.arcs Z' x (t + 1) i)) (fun i _ => by rw [nxtS_no (X := Z') (x := x) HAK.out (fun h => haz h.2)]))
         rw [decide_eq_false haz] at cz
         clear haz
         go_wp2
         go_quiet (fail)
         go_wp2
         go_roundw
         case rel => exact ⟨t + 1, by omega, by rw [HSN.out, HSV2.out], by go_num, hide (HRN.out.alloc _), hide (below_drewN (HBW.out.alloc (by omega) _) _), by simp; omega⟩
         case measure => simp [intOf]; omega
       ·
        have t1 : (a.i == x) = false := by simp [hax]
        have HSN := hide (somS_no (X := Z') (x := x) (a := a) HAK.out (fun h => hax h.1))
        have HRN := hide (HRW.out.congr (g := fun i => .bool (nxtS K.arcs Z' x (t + 1) i)) (fun i _ => by rw [nxtS_no (X := Z') (x := x) HAK.out (fun h => hax h.1)]))
        clear hax
        go_wp2
        go_quiet (fail)
        go_wp2
        go_roundw
        case rel => exact ⟨t + 1, by omega, by rw [HSN.out, HSV2.out], by go_num, hide (HRN.out.alloc _), hide (below_drewN (HBW.out.alloc (by omega) _) _), by simp; omega⟩
        case measure => simp [intOf]; omega
      ·
       obtain rfl : nK = t := by omega
       clear ht htn
       have HRU := hide (HRW.out.congr (g := fun i => .bool (decide ((i : Int) ∈ setT K.arcs Z' x))) (fun i _ => by
        have h := nxtS_all K.arcs Z' x i
        rw [HN.out] at h
        rw [h]))
       have HSA := hide (show somS K.arcs Z' x K.arcs.length = sv by rw [HN.out]; exact HSV2.out.symm)
       have HL9 := hide (HL.out.below HBV.out)
       have HM9 := hide (HM.out.below HBV.out)
       have HOL9 := hide (own_blw HOL.out HBV.out)
       have hOz9 : O < wr.heap.size := by omega
       have hlb9 : lb < wr.heap.size := by omega
       have HD9 := hide (keep_cell HBV.out HD0.out hlb)
       have HZ9 := hide (HZR.out.of_block (HBV.out.block g0 hg0z))
       obtain ⟨W9, hW9⟩ : ∃ z, z = wr := ⟨_, rfl⟩
       rw [← hW9] at HRU HL9 HM9 HOL9 hOz9 HBT hlb9 HD9 HZ9 hgz ⊢
       clear hW9 HRW HBW HBV HL HM HOL HB hOz HSV2 HD0 HZR hg0z
       cases sv
       ·
        have HSX := hide (show stpX K.arcs ls Z' (j + 1) = stpX K.arcs ls Z' j by rw [HXS.out, HSA.out]; simp)
        have HBR := hide (show bfsRow k (stpX K.arcs ls Z' (j + 1)) (StD K k).1 = ST by rw [HSX.out, HST.out])
        go_wp2
        go_roundw
        case rel => exact ⟨j + 1, p', q1, gs', by omega, hkp', by go_num, by omega, hp', hide (by rw [HBR.out]; exact HL9.out), hide (by rw [HBR.out]; exact HM9.out), HOL9, HBT, hOz9⟩
        case measure => simp [intOf]; omega
       ·
        obtain ⟨U, hU⟩ : ∃ z, z = setT K.arcs Z' x := ⟨_, rfl⟩
        have HUK := hide (show okSet S U by rw [hU]; exact okSet_T HOK.out.rng _ _)
        have HSN := hide (show bfsRow k (stpX K.arcs ls Z' (j + 1)) (StD K k).1 = (addL ST.1 U, ST.2 ++ [⟨(k : Int), ((ixG (addL ST.1 U) U : Nat) : Int), x, x, 0⟩]) by
         rw [HXS.out, HSA.out, if_pos rfl, ← hU, bfsRow_append, ← HST.out, bfsRow_ix])
        rw [← hU] at HRU
        clear hU HXS HSA
        go_upto_region 26 with fail
        go_loopw [14, 81] (fun tv iv wr => ∃ t : Nat, t ≤ p' ∧ tv = .int .i64 (atG ST.1 U t) ∧ iv = .int .i64 (t : Int) ∧ Hid (Below W9.heap.size W9 wr)) (fun _ iv _ => p' - (intOf iv).toNat)
        case atStart => exact ⟨0, by omega, by rw [atG_zero], rfl, hide (Below.refl _ _)⟩
        case round =>
         obtain ⟨t, ht, rfl, rfl, HB10⟩ := hrel
         by_cases htn : t < p'
         ·
          obtain ⟨lb', lc', g1, Y, e, hpc', hGl', hlb', d1, hg1, hY, hYR⟩ := (HL9.out.below HB10.out).at_ htn
          simp only [Value.slice.injEq, Option.some.injEq, Addr.mk.injEq, true_and, and_true] at e
          obtain ⟨rfl, rfl⟩ := e
          have HYK := hide (HSR.out Y (List.mem_of_getElem? hY))
          have HAN := hide (atG_next HND.out (u := U) hY)
          have HG1 := hide (show W9.rowIs g1 4 S (fun j => .bool (decide ((j : Int) ∈ Y))) from HL9.out.row t g1 Y hg1 hY)
          have hg1z : g1 < W9.heap.size := HG1.out.lt
          clear hg1 hY hYR
          go_upto_region 30 with fail
          go_loopw [17, 88] (fun sv kv wr => ∃ s : Nat, s ≤ S ∧ sv = .bool (samS Y U s) ∧ kv = .int .i64 (s : Int) ∧ Hid (Below W9.heap.size W9 wr)) (fun _ kv _ => S - (intOf kv).toNat)
          case atStart => exact ⟨0, by omega, by rw [samS_zero], rfl, HB10⟩
          case round =>
           clear HB10 d1
           obtain ⟨s, hs, rfl, rfl, HB11⟩ := hrel
           obtain ⟨sv, hsv⟩ : ∃ z, z = samS Y U s := ⟨_, rfl⟩
           rw [← hsv]
           by_cases hsS : s < S
           ·
            have hY11 := HG1.out.of_block (HB11.out.block g1 hg1z)
            have hU11 := HRU.out.of_block (HB11.out.block g hgz)
            have cY := hY11.cell hsS
            have cU := hU11.cell hsS
            have lY := hY11.lt
            have lU := hU11.lt
            have HSS := hide (samS_next Y U s)
            rw [← hsv] at HSS
            obtain ⟨dy, hdy⟩ : ∃ z, z = decide ((s : Int) ∈ Y) := ⟨_, rfl⟩
            obtain ⟨du, hdu⟩ : ∃ z, z = decide ((s : Int) ∈ U) := ⟨_, rfl⟩
            rw [← hdy] at cY HSS
            rw [← hdu] at cU HSS
            have HBq := hide (fun (W : World) (h : Below W9.heap.size W9 W) (q : Nat) => below_drewN h q)
            clear hsv hdy hdu hY11 hU11
            cases sv <;> cases dy <;> cases du
            all_goals
             go_wp2
             go_quiet (fail)
             go_wp2
             go_roundw
             case rel => exact ⟨s + 1, by omega, by rw [HSS.out]; rfl, by go_num, hide (below_drewN HB11.out _)⟩
             case measure => simp [intOf]; omega
           ·
            obtain rfl : S = s := by omega
            have HSA := hide (show sv = true ↔ Y = U by rw [hsv]; exact samS_all HYK.out HUK.out)
            clear hsv
            cases sv
            ·
             have HAE := hide (show atG ST.1 U (t + 1) = atG ST.1 U t by rw [HAN.out, if_neg (fun h => by have := HSA.out.2 h; cases this)])
             go_wp2
             go_roundw
             case rel => exact ⟨t + 1, by omega, by rw [HAE.out], by go_num, HB11⟩
             case measure => simp [intOf]; omega
            ·
             have HAE := hide (show atG ST.1 U (t + 1) = (t : Int) by rw [HAN.out, if_pos (HSA.out.1 rfl)])
             go_wp2
             go_roundw
             case rel => exact ⟨t + 1, by omega, by rw [HAE.out], by go_num, HB11⟩
             case measure => simp [intOf]; omega
         ·
          obtain rfl : p' = t := by omega
          have HAT := hide (show atG ST.1 U p' = plG ST.1 U from atG_end (by rw [HL9.out.len]; exact Nat.le_refl _))
          rw [HAT.out]
          clear HAT
          obtain ⟨pv, hpv⟩ : ∃ z, z = plG ST.1 U := ⟨_, rfl⟩
          rw [← hpv]
          have HPV := hide hpv
          have hrng0 := plG_rng ST.1 U
          rw [← hpv] at hrng0
          obtain ⟨ix, hix⟩ : ∃ z, z = ixG (addL ST.1 U) U := ⟨_, rfl⟩
          rw [← hix] at HSN
          have HIX := hide hix
          clear hpv hix
          have HL10 := hide (HL9.out.below HB10.out)
          have HM10 := hide (HM9.out.below HB10.out)
          have HOL10 := hide (own_blw HOL9.out HB10.out)
          have HBG := hide (HBT.out.trans (HB10.out.mono (by omega)))
          have HRU10 := hide (HRU.out.of_block (HB10.out.block g hgz))
          have hOz10 : O < wr.heap.size := by have := HB10.out.size; omega
          obtain ⟨W10, hW10⟩ : ∃ z, z = wr := ⟨_, rfl⟩
          rw [← hW10] at HL10 HM10 HOL10 HBG HRU10 hOz10 ⊢
          clear hW10 HL9 HM9 HOL9 HBT HRU hOz9 HB10 HD9 HZ9
          by_cases hlim : pv < 0 ∧ p' = 60
          ·
           obtain ⟨h0, h60⟩ := hlim
           have t2 : decide (pv < 0) = true := decide_eq_true h0
           have t3 : ((p' : Int) == 60) = true := by simp [h60]
           have bX9 := bX4.out.below HBG.out hXG
           have bR9 := bR4.out.below HBG.out hRG
           have x0 := bX9.cell 0
           have x1 := bX9.cell 1
           have x2 := bX9.cell 2
           have lX := bX9.lt
           have q0 := bR9.cell 0
           have q1' := bR9.cell 1
           have q2 := bR9.cell 2
           have qf := bR9.frozen 0
           have qf1 := bR9.frozen 1
           have qf2 := bR9.frozen 2
           have lR := bR9.lt
           simp at x0 x1 x2 q0 q1' q2
           have HK9 := hide (HK4.out.below HBG.out (by rw [HGE.out]; exact Nat.le_refl _))
           have hRW : R < W2.heap.size := by omega
           have hwW : w.heap.size ≤ W2.heap.size := by omega
           have HNW := hide (((HK9.out.set (p := ⟨R, 0, none⟩) hRW (.int .i64 (S : Int))).set (p := ⟨R, 1, none⟩) hRW (.slice AK nK cK)).set (p := ⟨R, 2, none⟩) hRW (.slice AFK nfK cfK))
           have HBE := hide ((((HB4.out.trans (HBG.out.mono (by omega))).setCell (p := ⟨R, 0, none⟩) hwR (.int .i64 (S : Int))).setCell (p := ⟨R, 1, none⟩) hwR (.slice AK nK cK)).setCell (p := ⟨R, 2, none⟩) hwR (.slice AFK nfK cfK))
           clear bX9 bR9 h0 h60
           go_wp21
           exact bodyPost_ret (v := .tuple #[.agg #[.int .i64 (S : Int), .slice AK nK cK, .slice AFK nfK cfK], .bool false]) (by simp [results, Try.results34, go_sem, lR, q0, q1', q2, qf, qf1, qf2]) rfl ⟨_, false, rfl, HBE.out, fun _ => by have h := HNW.out.mono hwW; rw [HOK.out.n] at h; exact h, fun h => (by cases h)⟩
          ·
           obtain ⟨bb, hbb⟩ : ∃ b : Bool, decide (pv < 0) = b := ⟨_, rfl⟩
           have HBB := hide hbb
           have HLIM := hide hlim
           clear hlim
           go_upto_if 108 with fail
           clear hbb
           go_cut [5, 14] from 109 to 118 (fun s5 s14 wx => s14 = .int .i64 (ix : Int) ∧ ∃ (p2 : Nat) (gs2 : List Nat), p2 ≤ 60 ∧ k < p2 ∧ Hid (BL wx G 24 4 S s5 p2 gs2 (addL ST.1 U)) ∧ Hid (Mg 28 61 63 wx O G 0 q1 ST.2 r (StD K k).2) ∧ Hid (wx.ownsRow G 3 1 (.slice (some ⟨bL, 0, none⟩) nl cL) nl (intRow ls)) ∧ Hid (Below G W10 wx) ∧ O < wx.heap.size)
           case first =>
            cases bb
            ·
             have hm : U ∈ ST.1 := Classical.byContradiction fun h => by
              have h2 := of_decide_eq_false HBB.out
              rw [HPV.out, plG_neg] at h2
              exact h2 h
             have HOD := hide (plG_old hm)
             have HPI := hide (show pv = (ix : Int) by rw [HPV.out, HIX.out, ← plG_at, HOD.out])
             clear hm
             go_wp2
             go_meet
             exact ⟨by rw [HPI.out], p', gs', hp', hkp', hide (by rw [HOD.out]; exact HL10.out), HM10, HOL10, hide (Below.refl _ _), hOz10⟩
            ·
             have hm : U ∉ ST.1 := by
              have h := of_decide_eq_true HBB.out
              rw [HPV.out, plG_neg] at h
              exact h
             have h60 : p' ≠ 60 := fun e => HLIM.out ⟨of_decide_eq_true HBB.out, e⟩
             have t3 : ((p' : Int) == 60) = false := by simp; omega
             have HAP := hide (plG_new hm)
             have HPI := hide (show (p' : Int) = (ix : Int) by rw [HIX.out, HAP.out.2, HL10.out.len])
             clear hm
             go_wp2_with (at_builtin; refine wpList_append_own_at _ rfl (.tmp 115) (.tmp 117) 96 rfl G 24 i2 _ 1 24 Try.underlying96 hi2 kz0 kz1 kz2 rfl (by omega) (.slice (some ⟨lb, 0, none⟩) p' lc) p' _ rfl (HL10.out.out.alloc _) ⟨W10.heap.size, 0, none⟩ 1 1 [.slice (some ⟨g, 0, none⟩) S S] rfl (by rfl) (World.news_of_block (cs := #[.slice (some ⟨g, 0, none⟩) S S]) (t := 24) (fr := (0, 0)) (Blk.at_ rfl)) (by simp [Value.oneCell']) (by simp only [maxLen]; omega) (by omega) (by simp <;> omega) ?_; intro v' w6 hown2 hg2 _ hat2)
             have hs6 := hg2.size
             simp at hs6
             have HA1 := hide (HL10.out.out.alloc (.cells #[.slice (some ⟨g, 0, none⟩) S S] 24))
             have HA2 := hide (HOL10.out.alloc (.cells #[.slice (some ⟨g, 0, none⟩) S S] 24))
             have HA3 := hide (HM10.out.alloc (.cells #[.slice (some ⟨g, 0, none⟩) S S] 24))
             have HA4 := hide ((Below.refl G W10).alloc (by omega) (.cells #[.slice (some ⟨g, 0, none⟩) S S] 24))
             have HA5 := hide (HRU10.out.alloc (.cells #[.slice (some ⟨g, 0, none⟩) S S] 24))
             have H1 := hide ((HL10.out.alloc (.cells #[.slice (some ⟨g, 0, none⟩) S S] 24)).push (by decide) HA5.out hg2 hown2)
             have H2 := hide (HA3.out.own HA1.out (by decide) (by decide) (by decide) hg2)
             have H3 := hide (HA2.out.kept hg2 (own_ne HA2.out HA1.out (by decide)))
             have H4 := hide (HA4.out.grown hg2 (by simp; omega) (fun z hz => (HA1.out.lt z hz).1))
             clear hown2 hg2 hat2
             go_meet
             exact ⟨by rw [HPI.out], p' + 1, gs' ++ [g], by omega, by omega, hide (by rw [HAP.out.1]; exact H1.out), H2, H3, H4, by omega⟩
           case rest =>
            obtain ⟨rfl, p2, gs2, hp2, hkp2, HL11, HM11, HOL11, HB11, hOz11⟩ := hcut
            have HBG2 := hide (HBG.out.trans HB11.out)
            obtain ⟨W11, hW11⟩ : ∃ z, z = wc := ⟨_, rfl⟩
            rw [← hW11] at HL11 HM11 HOL11 HBG2 hOz11 ⊢
            clear hW11 HL10 HM10 HOL10 HBG HRU10 hOz10 HB11 HBB HLIM HPV HIX
            obtain ⟨A5, c5, AF5, cf5, bO7, hoA, hoF⟩ := HM11.out
            have e1 := bO7.cell 1
            have lO7 := bO7.lt
            simp at e1
            have P0 := hide bO7
            have P1 := hide (bO7.alloc (.cells #[.int .i64 (k : Int), .int .i64 (ix : Int), .int .i64 x, .int .i64 x, .int .i64 0] 61))
            have P2 := hide (hoA.alloc (.cells #[.int .i64 (k : Int), .int .i64 (ix : Int), .int .i64 x, .int .i64 x, .int .i64 0] 61))
            have P3 := hide (hoF.alloc (.cells #[.int .i64 (k : Int), .int .i64 (ix : Int), .int .i64 x, .int .i64 x, .int .i64 0] 61))
            have P4 := hide (HL11.out.alloc (.cells #[.int .i64 (k : Int), .int .i64 (ix : Int), .int .i64 x, .int .i64 x, .int .i64 0] 61))
            have P5 := hide (HBG2.out.alloc (by omega) (.cells #[.int .i64 (k : Int), .int .i64 (ix : Int), .int .i64 x, .int .i64 x, .int .i64 0] 61))
            have P6 := hide (HOL11.out.alloc (.cells #[.int .i64 (k : Int), .int .i64 (ix : Int), .int .i64 x, .int .i64 x, .int .i64 0] 61))
            have HNF := hide (show (Value.slice A5 q1 c5).ownBlock ≠ some O from own_bne hoA bO7 (by decide))
            have hq9 : q1 ≤ 802000 := by have : 2000 * k ≤ 2000 * 60 := Nat.mul_le_mul_left _ (by omega); omega
            clear bO7 hoA hoF HL11 HM11 HOL11 HBG2
            go_wp2_with (at_builtin; go_loud (refine wpList_append_own_at _ rfl (.tmp 120) (.tmp 126) 25 rfl G 61 i0 _ 5 40 Try.underlying25 hi0 iz0 iz1 iz2 rfl (by omega) (.slice A5 q1 c5) q1 _ rfl P2.out ⟨W11.heap.size, 0, none⟩ 1 1 (arcRow [⟨(k : Int), (ix : Int), x, x, 0⟩]) rfl (by rfl) (World.news_of_block (cs := (arcRow [⟨(k : Int), (ix : Int), x, x, 0⟩]).toArray) (t := 61) (fr := (0, 0)) (Blk.at_ rfl)) (arcRow_one _) (by simp only [maxLen]; omega) (by omega) (by simp <;> omega) ?_; intro v' w6 hown6 hg6 _ hat6; obtain ⟨A6, cf6, rfl, hkcv, _⟩ := own_value hown6; have HOWN6 := hide hown6; have HG6 := hide hg6; have df6 : w6.frozen? ⟨O, 1, none⟩ = false := far_free hg6 HNF.out P1.out.lt (P1.out.frozen 1); have d6 : w6.cell? ⟨O, 1, none⟩ = some (.slice A5 q1 c5) := far_cell hg6 HNF.out (P1.out.cell 1); have lD6 : O < w6.heap.size := (by have := hg6.size; have := P1.out.lt; omega); clear hown6 hg6 hat6))
            have HMN := hide (mg_pushA P1.out P2.out P3.out (by decide) (by decide) (by decide) HG6.out HOWN6.out)
            have bO9 := P1.out.grown HG6.out (Ne.symm HNF.out)
            have HLN := hide ((P4.out.own P2.out (by decide) (by decide) HG6.out).mach (p := ⟨O, 1, none⟩) bO9 (by decide) (by decide) (.slice A6 (q1 + 1) cf6))
            have hoL := P6.out.kept HG6.out (own_ne P6.out P2.out (by decide))
            have HON := hide (ownsRow_setCell_other hoL (a := ⟨O, 1, none⟩) (own_bne hoL bO9 (by decide)) (.slice A6 (q1 + 1) cf6))
            have HBN := hide ((P5.out.grown HG6.out (by simp; omega) (fun z hz => (P2.out.lt z hz).1)).setCell (p := ⟨O, 1, none⟩) (by show G ≤ O; omega) (.slice A6 (q1 + 1) cf6))
            have hs6 := HG6.out.size
            simp at hs6
            clear bO9 hoL P0 P1 P2 P3 P4 P5 P6 HG6 HOWN6
            go_roundw
            case rel => exact ⟨j + 1, p2, q1 + 1, gs2, by omega, hkp2, by go_num, by omega, hp2, hide (by rw [HSN.out]; exact HLN.out), hide (by rw [HSN.out]; exact HMN.out), HON, HBN, by simp [World.setCell]; omega⟩
            case measure => simp [intOf]; omega
    ·
     obtain rfl : nl = j := by omega
     have HBR := hide (show ST = bfsRow k (stpD K.arcs Z') (StD K k).1 by rw [HST.out, stpX_all HLS.out HLM.out (by rw [← HNL.out]; exact Nat.le_refl _)])
     obtain ⟨SF, hSF⟩ : ∃ z, z = if finD K.fins Z' = true then (StD K k).2 ++ [⟨(k : Int), 0⟩] else (StD K k).2 := ⟨_, rfl⟩
     have HSF := hide hSF
     have HST1 := hide (show StD K (k + 1) = (ST, SF) by
      have h := HNX.out
      rw [← HBR.out, ← hSF] at h
      exact h)
     obtain ⟨W9, hW9⟩ : ∃ z, z = wr := ⟨_, rfl⟩
     rw [← hW9] at HL HM HB hOz x0 x1 x2 lX hlb d0 HZR hg0z ⊢
     have HD0 := hide d0
     clear hW9 HOL bX6 hSF hj hjn HST HNX d0
     go_upto_region 46 with fail
     go_loopw [19, 133] (fun ev kv wr => ∃ t : Nat, t ≤ nfK ∧ ev = .bool (endX K.fins Z' t) ∧ kv = .int .i64 (t : Int) ∧ Hid (Below W9.heap.size W9 wr)) (fun _ kv _ => nfK - (intOf kv).toNat)
     case atStart => exact ⟨0, by omega, by rw [endX_zero], rfl, hide (Below.refl _ _)⟩
     case round =>
      clear x0 x1 x2 lX
      obtain ⟨t, ht, rfl, rfl, HB10⟩ := hrel
      have HBG := hide (HB.out.trans (HB10.out.mono (by have := HB.out.size; omega)))
      obtain ⟨ev, hev⟩ : ∃ z, z = endX K.fins Z' t := ⟨_, rfl⟩
      rw [← hev]
      by_cases htn : t < nfK
      ·
       obtain ⟨bb, off, y, hAe, hbB, e0, e1, HX⟩ := fins_at (HRF.out.below HBG.out (Nat.le_refl _)) htn
       subst hAe
       have hbw : bb < wr.heap.size := by have := HB10.out.size; omega
       have hkl : t < K.fins.length := by rw [HF.out]; exact htn
       have hyk : K.fins[t]? = some y := by rw [← HX.out, List.getElem?_eq_getElem hkl]; simp [hkl]
       obtain ⟨r0, r1⟩ := HOK.out.frng y (List.mem_of_getElem? hyk)
       have HEN := hide (endX_next (X := Z') hyk)
       rw [← hev] at HEN
       have d0 := keep_cell HB10.out HD0.out hlb
       have hZR := HZR.out.of_block (HB10.out.block g0 hg0z)
       have cz := hZR.cell (show y.s.toNat < S by omega)
       have lz : g0 < wr.heap.size := hZR.lt
       have llb : lb < wr.heap.size := by have := HB10.out.size; omega
       rw [show ((y.s.toNat : Nat) : Int) = y.s by omega] at cz
       obtain ⟨dz, hdz⟩ : ∃ z, z = decide (y.s ∈ Z') := ⟨_, rfl⟩
       rw [← hdz] at cz HEN
       clear hev hdz hkl hyk HX hZR
       cases ev <;> cases dz
       all_goals
        go_wp2
        go_quiet (fail)
        go_wp2
        go_roundw
        case rel => exact ⟨t + 1, by omega, by rw [HEN.out]; rfl, by go_num, hide (below_drewN (HB10.out.alloc HB10.out.size _) _)⟩
        case measure => simp [intOf]; omega
      ·
       obtain rfl : nfK = t := by omega
       have HEA := hide (show finD K.fins Z' = ev by rw [hev]; exact (endX_all K.fins Z' (by rw [HF.out]; exact Nat.le_refl _)).symm)
       have HL10 := hide (HL.out.below HB10.out)
       have HM10 := hide (HM.out.below HB10.out)
       have hOz10 : O < wr.heap.size := by have := HB10.out.size; omega
       obtain ⟨W10, hW10⟩ : ∃ z, z = wr := ⟨_, rfl⟩
       rw [← hW10] at HL10 HM10 HBG hOz10 ⊢
       clear hW10 hev HL HM HB HB10 hOz HD0 HZR hg0z hlb
       cases ev
       ·
        have HE := hide (show SF = (StD K k).2 by rw [HSF.out, HEA.out]; simp)
        go_wp2
        go_roundw
        case rel => exact ⟨k + 1, p', q1, r, gs', by omega, by go_num, by omega, by omega, hp', hide (by rw [HST1.out]; exact HL10.out), hide (by rw [HST1.out, HE.out]; exact HM10.out), HBG, hOz10⟩
        case measure => simp [intOf]; omega
       ·
        have HE := hide (show SF = (StD K k).2 ++ [⟨(k : Int), 0⟩] by rw [HSF.out, HEA.out]; simp)
        obtain ⟨A5, c5, AF5, cf5, bO7, hoA, hoF⟩ := HM10.out
        have e2 := bO7.cell 2
        have lO7 := bO7.lt
        simp at e2
        have P1 := hide (bO7.alloc (.cells #[.int .i64 (k : Int), .int .i64 0] 63))
        have P2 := hide (hoA.alloc (.cells #[.int .i64 (k : Int), .int .i64 0] 63))
        have P3 := hide (hoF.alloc (.cells #[.int .i64 (k : Int), .int .i64 0] 63))
        have P4 := hide (HL10.out.alloc (.cells #[.int .i64 (k : Int), .int .i64 0] 63))
        have P5 := hide (HBG.out.alloc (by omega) (.cells #[.int .i64 (k : Int), .int .i64 0] 63))
        have HNF := hide (show (Value.slice AF5 r cf5).ownBlock ≠ some O from own_bne hoF bO7 (by decide))
        clear bO7 hoA hoF HL10 HM10 HBG
        go_wp2_with (at_builtin; go_loud (refine wpList_append_own_at _ rfl (.tmp 151) (.tmp 154) 26 rfl G 63 i1 _ 2 16 Try.underlying26 hi1 jz0 jz1 jz2 rfl (by omega) (.slice AF5 r cf5) r _ rfl P3.out ⟨W10.heap.size, 0, none⟩ 1 1 (finRow [⟨(k : Int), 0⟩]) rfl (by rfl) (World.news_of_block (cs := (finRow [⟨(k : Int), 0⟩]).toArray) (t := 63) (fr := (0, 0)) (Blk.at_ rfl)) (finRow_one _) (by simp only [maxLen]; omega) (by omega) (by simp <;> omega) ?_; intro v' w6 hown6 hg6 _ hat6; obtain ⟨A6, cf6, rfl, hkcv, _⟩ := own_value hown6; have HOWN6 := hide hown6; have HG6 := hide hg6; have df6 : w6.frozen? ⟨O, 2, none⟩ = false := far_free hg6 HNF.out P1.out.lt (P1.out.frozen 2); have d6 : w6.cell? ⟨O, 2, none⟩ = some (.slice AF5 r cf5) := far_cell hg6 HNF.out (P1.out.cell 2); have lD6 : O < w6.heap.size := (by have := hg6.size; have := P1.out.lt; omega); clear hown6 hg6 hat6))
        have HMN := hide (mg_pushF P1.out P2.out P3.out (by decide) (by decide) (by decide) HG6.out HOWN6.out)
        have bO9 := P1.out.grown HG6.out (Ne.symm HNF.out)
        have HLN := hide ((P4.out.own P3.out (by decide) (by decide) HG6.out).mach (p := ⟨O, 2, none⟩) bO9 (by decide) (by decide) (.slice A6 (r + 1) cf6))
        have HBN := hide ((P5.out.grown HG6.out (by simp; omega) (fun z hz => (P3.out.lt z hz).1)).setCell (p := ⟨O, 2, none⟩) (by show G ≤ O; omega) (.slice A6 (r + 1) cf6))
        have hs6 := HG6.out.size
        simp at hs6
        clear bO9 P1 P2 P3 P4 P5 HG6 HOWN6
        go_roundw
        case rel => exact ⟨k + 1, p', q1, r + 1, gs', by omega, by go_num, by omega, by omega, hp', hide (by rw [HST1.out]; exact HLN.out), hide (by rw [HST1.out, HE.out]; exact HMN.out), HBN, by simp [World.setCell]; omega⟩
        case measure => simp [intOf]; omega
  ·
   obtain rfl : p = k := by omega
   have HEND := hide (show setM K = ⟨(p : Int), (StD K p).1.2, (StD K p).2⟩ by
    have h := stD_end (m := K) (i := p) (by rw [HL.out.len]; exact Nat.le_refl _) (by omega)
    rw [HL.out.len] at h
    exact h)
   obtain ⟨lA, lc, hle, _, _⟩ := own_value HL.out.out
   subst hle
   obtain ⟨A5, c5, AF5, cf5, bO5, hown5, hfin5⟩ := HM.out
   have bR9 := bR4.out.below HB.out hRG
   have HBW9 := hide (HB4.out.trans (HB.out.mono hwG))
   have HNO := hide (own_bne hown5 bO5 (by decide))
   have HNF := hide (own_bne hfin5 bO5 (by decide))
   have o0 := bO5.cell 0
   have o1 := bO5.cell 1
   have o2 := bO5.cell 2
   have of0 := bO5.frozen 0
   have q0 := bR9.cell 0
   have q1' := bR9.cell 1
   have q2 := bR9.cell 2
   have qf := bR9.frozen 0
   have qf1 := bR9.frozen 1
   have qf2 := bR9.frozen 2
   simp at o0 o1 o2 q0 q1' q2
   have lR := bR9.lt
   have lO := bO5.lt
   have hOw2 : R ≠ O := by omega
   have hOw4 : O ≠ R := by omega
   have hRG' : R < G := hRG
   have HA9 := hide (ownsRow_setCell_below (ownsRow_setCell_below (ownsRow_setCell_below (ownsRow_setCell_other hown5 (a := ⟨O, 0, none⟩) HNO.out (.int .i64 (p : Int))) (a := ⟨R, 0, none⟩) hRG' (.int .i64 (p : Int))) (a := ⟨R, 1, none⟩) hRG' (.slice A5 q c5)) (a := ⟨R, 2, none⟩) hRG' (.slice AF5 r cf5))
   have HF9 := hide (ownsRow_setCell_below (ownsRow_setCell_below (ownsRow_setCell_below (ownsRow_setCell_other hfin5 (a := ⟨O, 0, none⟩) HNF.out (.int .i64 (p : Int))) (a := ⟨R, 0, none⟩) hRG' (.int .i64 (p : Int))) (a := ⟨R, 1, none⟩) hRG' (.slice A5 q c5)) (a := ⟨R, 2, none⟩) hRG' (.slice AF5 r cf5))
   have HBF := hide ((((HBW9.out.setCell (p := ⟨O, 0, none⟩) (by show w.heap.size ≤ O; omega) (.int .i64 (p : Int))).setCell (p := ⟨R, 0, none⟩) hwR (.int .i64 (p : Int))).setCell (p := ⟨R, 1, none⟩) hwR (.slice A5 q c5)).setCell (p := ⟨R, 2, none⟩) hwR (.slice AF5 r cf5))
   obtain ⟨LA, hLA⟩ : ∃ z, z = (StD K p).1.2 := ⟨_, rfl⟩
   obtain ⟨LF, hLF⟩ : ∃ z, z = (StD K p).2 := ⟨_, rfl⟩
   have hqL := own_lenA hown5
   have hrL := own_lenF hfin5
   rw [← hLA] at hqL HA9 HEND
   rw [← hLF] at hrL HF9 HEND
   have HQL := hide hqL
   have HRL9 := hide hrL
   have hqb5 : q ≤ 800000 := by
    have h : 2000 * p ≤ 2000 * 60 := Nat.mul_le_mul_left _ (by omega)
    omega
   clear bR9 bO5 hown5 hfin5 HM HL hqL hrL hLA hLF bX6
   go_wp21
   refine bodyPost_ret (v := .tuple #[.agg #[.int .i64 (p : Int), .slice A5 q c5, .slice AF5 r cf5], .bool true]) (by simp [results, Try.results34, go_sem, lR, hOw2, hOw4, q0, q1', q2, qf, qf1, qf2]) rfl ⟨_, true, rfl, HBF.out, fun h => (by cases h), fun _ => ?_⟩
   rw [HSZ.out, HEND.out]
   refine ⟨?_, by show ((p : Nat) : Int) ≤ 60; omega⟩
   have hbq : q ≤ big := by unfold big; omega
   have hbr : r ≤ big := by unfold big; omega
   have hwl : w.heap.size ≤ G := hwG
   have HA8 := HA9.out
   have HF8 := HF9.out
   obtain ⟨_, _, e1, k1, _⟩ := own_value HA8
   obtain ⟨_, _, e2, k2, _⟩ := own_value HF8
   injection e1 with _ _ e1
   injection e2 with _ _ e2
   subst e1 e2
   have hq9 := HQL.out
   have hr9 := HRL9.out
   subst hq9 hr9
   exact MachNew.of_own (m := ⟨(p : Int), LA, LF⟩) (base := G) (b2 := G) HA8 HF8 hwl hwl k1 k2 hbq hbr
end Go.Proofs.Ytopakcbhodnipaa
