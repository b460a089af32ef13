/- The texts BwL of this proof. No conditions. -/
import Derived.Test.YtopakcbhodnipaaCa33
import Derived.Test.YtopakcbhodnipaaCa11
import Derived.Test.YtopakcbhodnipaaCa27
/- Text BwL. -/
namespace Go.Proofs.Ytopakcbhodnipaa
open Go.RowKit Gm
set_option linter.unusedSimpArgs false
set_option linter.unusedVariables false
theorem accb_any (va vw : Value) (t : Mach) (S : Nat) (lw : List Int) (w : World) (ht : AcOk t S) (ha : MachAt w w.heap.size va t) (hw : Nums w w.heap.size vw lw) :
    Calls Try.prog 28 #[va, vw] w fun e w' => e = .returned (.bool (bA t lw)) ∧ Below w.heap.size w w' := by
  refine (accepts_any va vw t lw w w.heap.size (Nat.le_refl _) ha hw S ht.n ht.n4 ht.rng ht.frng ht.lab).mono ?_
  rintro e w' ⟨b, rfl, hb, hB⟩
  have : b = bA t lw := by rw [Bool.eq_iff_iff, hb, bA_iff]
  rw [this]
  exact ⟨rfl, hB⟩
def ovB (lw al : List Int) (k : Nat) : Bool := (lw.take k).all fun x => decide (x ∈ al)
def smB (al : List Int) (x : Int) (j : Nat) : Bool := decide (x ∈ al.take j)
theorem ovB_next {lw al : List Int} {k : Nat} {x : Int} (h : lw[k]? = some x) : ovB lw al (k + 1) = (ovB lw al k && decide (x ∈ al)) := by
  unfold ovB
  rw [List.take_add_one, h, List.all_append]
  simp
theorem smB_next {al : List Int} {x y : Int} {j : Nat} (h : al[j]? = some y) : smB al x (j + 1) = (smB al x j || decide (y = x)) := by
  unfold smB
  rw [List.take_add_one, h]
  simp only [Option.toList_some, List.mem_append, List.mem_singleton, Bool.decide_or]
  congr 1
  rw [decide_eq_decide]
  exact eq_comm
theorem smB_all {al : List Int} {x : Int} {j : Nat} (h : al.length ≤ j) : smB al x j = decide (x ∈ al) := by
  unfold smB; rw [List.take_of_length_le h]
theorem ovB_all {lw al : List Int} {k : Nat} (h : lw.length ≤ k) : ovB lw al k = true ↔ ∀ x ∈ lw, x ∈ al := by
  unfold ovB; rw [List.take_of_length_le h, List.all_eq_true]; simp
theorem smB_zero {al : List Int} {x : Int} : smB al x 0 = false := by simp [smB]
theorem ovB_zero {lw al : List Int} : ovB lw al 0 = true := by simp [ovB]
set_option maxRecDepth 100000 in
set_option maxHeartbeats 32000000 in
theorem bwlaw_any (v0 v1 v2 v3 : Value) (a b : Mach) (al lw : List Int) (w : World) (hm : MachAt w w.heap.size v0 a) (hm' : MachAt w w.heap.size v1 b) (hl : Nums w w.heap.size v2 al) (hw : Nums w w.heap.size v3 lw) :
    Calls Try.prog 12 #[v0, v1, v2, v3] w fun e w' => e = .returned (.bool true) ∧ Below w.heap.size w w' := by
  have HMA := hide hm
  have HMB := hide hm'
  have HAL := hide hl
  have HLW := hide hw
  obtain ⟨A1, AF1, n1, c1, nf1, cf1, rfl, _, _, _, _, _, _, _, _⟩ := hm
  obtain ⟨A2, AF2, n2, c2, nf2, cf2, rfl, _, _, _, _, _, _, _, _⟩ := hm'
  obtain ⟨AL, nl, cl, rfl, HN, hnc, hnb, _⟩ := hl
  obtain ⟨AW, nw, cw, rfl, HNW, hwc, hwb, _⟩ := hw
  unfold big at hnb hwb
  obtain ⟨sa, hsa⟩ : ∃ z, z = a.n := ⟨_, rfl⟩
  obtain ⟨sb, hsb⟩ : ∃ z, z = b.n := ⟨_, rfl⟩
  rw [← hsa] at HMA ⊢
  rw [← hsb] at HMB ⊢
  clear hsa hsb
  have he := fun a b c d W => run_neq_fault a b c d W
  go_enter Try.func12, Try.ntmps12
  go_upto_region 3 with (go_at_call 37; refine (combined_any _).mono ?_; rintro e w2 ⟨rfl, hb2⟩; have HB2 := hide hb2; clear hb2)
  obtain ⟨X, hX⟩ : ∃ z, z = w.heap.size := ⟨_, rfl⟩
  obtain ⟨Y, hY⟩ : ∃ z, z = w.heap.size + 1 := ⟨_, rfl⟩
  have bX := hide (((Blk.at_ (w := w) (g := X) (t := 28) (cs := #[.int .i64 sa, .slice A1 n1 c1, .slice AF1 nf1 cf1]) hX).alloc (.cells #[.int .i64 sb, .slice A2 n2 c2, .slice AF2 nf2 cf2] 28)).below HB2.out (by simp [hX] <;> omega))
  have bY := hide ((Blk.at_ (w := w.alloc (.cells #[.int .i64 sa, .slice A1 n1 c1, .slice AF1 nf1 cf1] 28)) (g := Y) (t := 28) (cs := #[.int .i64 sb, .slice A2 n2 c2, .slice AF2 nf2 cf2]) (by simp [hY])).below HB2.out (by simp [hY]))
  have HBW := hide (show Below w.heap.size w w2 from (((Below.refl _ _).alloc (Nat.le_refl _) _).alloc (by simp) _).trans (HB2.out.mono (by simp <;> omega)))
  replace HMA := hide ((HMA.out.below HBW.out (Nat.le_refl _)).mono HBW.out.size)
  replace HMB := hide ((HMB.out.below HBW.out (Nat.le_refl _)).mono HBW.out.size)
  replace HAL := hide ((HAL.out.below HBW.out (Nat.le_refl _)).mono HBW.out.size)
  replace HLW := hide ((HLW.out.below HBW.out (Nat.le_refl _)).mono HBW.out.size)
  simp only [← hY]
  try simp only [← hX]
  clear HB2 hX hY
  have x0 := bX.out.cell 0
  have x1 := bX.out.cell 1
  have x2 := bX.out.cell 2
  simp at x0 x1 x2
  have lX := bX.out.lt
  have y0 := bY.out.cell 0
  have y1 := bY.out.cell 1
  have y2 := bY.out.cell 2
  simp at y0 y1 y2
  have lY := bY.out.lt
  go_upto_region 4 with (go_at_call 38; refine (inter_any _ _ a b w2 _ (Nat.le_refl _) HMA.out HMB.out).mono ?_; rintro e w3 ⟨r3, v3, rfl, hr3, hm3, hb3⟩; obtain ⟨A3, n3, c3, AF3, nf3, cf3, rfl⟩ := agg_of hm3; have HR3 := hide hr3; have HN3 := hide hm3; have HB3 := hide hb3; clear hr3 hm3 hb3)
  clear x0 x1 x2 lX
  clear y0 y1 y2 lY
  generalize hW3 : World.alloc _ _ = W3
  obtain ⟨S, hS⟩ : ∃ z, z = w3.heap.size := ⟨_, rfl⟩
  obtain ⟨F, hF⟩ : ∃ z, z = w3.heap.size + 1 := ⟨_, rfl⟩
  have bS := hide (show Blk W3 S 28 #[.int .i64 r3.1.n, .slice A3 n3 c3, .slice AF3 nf3 cf3] by rw [← hW3]; exact (Blk.at_ hS).alloc _)
  have bF := hide (show Blk W3 F 30 #[.int .i64 r3.2.1, .int .i64 r3.2.2] by rw [← hW3]; exact Blk.at_ (by simp [hF]))
  have q3 := hide (show Below w3.heap.size w3 W3 by rw [← hW3]; go_grown)
  simp only [← hF]
  try simp only [← hS]
  have t3 := hide (HB3.out.trans (q3.out.mono HB3.out.size))
  replace bX := hide (bX.out.below t3.out bX.out.lt)
  replace bY := hide (bY.out.below t3.out bY.out.lt)
  replace HMA := hide ((HMA.out.below t3.out (Nat.le_refl _)).mono t3.out.size)
  replace HMB := hide ((HMB.out.below t3.out (Nat.le_refl _)).mono t3.out.size)
  replace HAL := hide ((HAL.out.below t3.out (Nat.le_refl _)).mono t3.out.size)
  replace HLW := hide ((HLW.out.below t3.out (Nat.le_refl _)).mono t3.out.size)
  replace HBW := hide (HBW.out.trans (t3.out.mono HBW.out.size))
  have MS := hide ((HN3.out.at_.below q3.out (Nat.le_refl _)).mono q3.out.size)
  clear HN3 HB3 q3 t3 hW3 hS hF
  have x0 := bX.out.cell 0
  have x1 := bX.out.cell 1
  have x2 := bX.out.cell 2
  simp at x0 x1 x2
  have lX := bX.out.lt
  have y0 := bY.out.cell 0
  have y1 := bY.out.cell 1
  have y2 := bY.out.cell 2
  simp at y0 y1 y2
  have lY := bY.out.lt
  go_upto_region 5 with (go_at_call 39; refine (subtr_any _ _ a b W3 _ (Nat.le_refl _) HMA.out HMB.out).mono ?_; rintro e w4 ⟨r4, v4, rfl, hr4, hm4, hb4⟩; obtain ⟨A4, n4, c4, AF4, nf4, cf4, rfl⟩ := agg_of hm4; have HR4 := hide hr4; have HN4 := hide hm4; have HB4 := hide hb4; clear hr4 hm4 hb4)
  clear x0 x1 x2 lX
  clear y0 y1 y2 lY
  generalize hW4 : World.alloc _ _ = W4
  obtain ⟨T, hT⟩ : ∃ z, z = w4.heap.size := ⟨_, rfl⟩
  obtain ⟨G, hG⟩ : ∃ z, z = w4.heap.size + 1 := ⟨_, rfl⟩
  have bT := hide (show Blk W4 T 28 #[.int .i64 r4.1.n, .slice A4 n4 c4, .slice AF4 nf4 cf4] by rw [← hW4]; exact (Blk.at_ hT).alloc _)
  have bG := hide (show Blk W4 G 30 #[.int .i64 r4.2.1, .int .i64 r4.2.2] by rw [← hW4]; exact Blk.at_ (by simp [hG]))
  have q4 := hide (show Below w4.heap.size w4 W4 by rw [← hW4]; go_grown)
  simp only [← hG]
  try simp only [← hT]
  have t4 := hide (HB4.out.trans (q4.out.mono HB4.out.size))
  replace bX := hide (bX.out.below t4.out bX.out.lt)
  replace bY := hide (bY.out.below t4.out bY.out.lt)
  replace bS := hide (bS.out.below t4.out bS.out.lt)
  replace bF := hide (bF.out.below t4.out bF.out.lt)
  replace MS := hide ((MS.out.below t4.out (Nat.le_refl _)).mono t4.out.size)
  replace HMA := hide ((HMA.out.below t4.out (Nat.le_refl _)).mono t4.out.size)
  replace HMB := hide ((HMB.out.below t4.out (Nat.le_refl _)).mono t4.out.size)
  replace HAL := hide ((HAL.out.below t4.out (Nat.le_refl _)).mono t4.out.size)
  replace HLW := hide ((HLW.out.below t4.out (Nat.le_refl _)).mono t4.out.size)
  replace HBW := hide (HBW.out.trans (t4.out.mono HBW.out.size))
  have MT := hide ((HN4.out.at_.below q4.out (Nat.le_refl _)).mono q4.out.size)
  clear HN4 HB4 q4 t4 hW4 hT hG
  have x0 := bX.out.cell 0
  have x1 := bX.out.cell 1
  have x2 := bX.out.cell 2
  simp at x0 x1 x2
  have lX := bX.out.lt
  go_upto_region 6 with (go_at_call 42; refine (compl_any _ _ a al W4 _ (Nat.le_refl _) HMA.out HAL.out).mono ?_; rintro e w5 ⟨r5, v5, rfl, hr5, hm5, hb5⟩; obtain ⟨A5, n5, c5, AF5, nf5, cf5, rfl⟩ := agg_of hm5; have HR5 := hide hr5; have HN5 := hide hm5; have HB5 := hide hb5; clear hr5 hm5 hb5)
  clear x0 x1 x2 lX
  generalize hW5 : World.alloc _ _ = W5
  obtain ⟨U, hU⟩ : ∃ z, z = w5.heap.size := ⟨_, rfl⟩
  obtain ⟨H, hH⟩ : ∃ z, z = w5.heap.size + 1 := ⟨_, rfl⟩
  have bU := hide (show Blk W5 U 28 #[.int .i64 r5.1.n, .slice A5 n5 c5, .slice AF5 nf5 cf5] by rw [← hW5]; exact (Blk.at_ hU).alloc _)
  have bH := hide (show Blk W5 H 30 #[.int .i64 r5.2.1, .int .i64 r5.2.2] by rw [← hW5]; exact Blk.at_ (by simp [hH]))
  have q5 := hide (show Below w5.heap.size w5 W5 by rw [← hW5]; go_grown)
  simp only [← hH]
  try simp only [← hU]
  have t5 := hide (HB5.out.trans (q5.out.mono HB5.out.size))
  replace bX := hide (bX.out.below t5.out bX.out.lt)
  replace bY := hide (bY.out.below t5.out bY.out.lt)
  replace bS := hide (bS.out.below t5.out bS.out.lt)
  replace bF := hide (bF.out.below t5.out bF.out.lt)
  replace bT := hide (bT.out.below t5.out bT.out.lt)
  replace bG := hide (bG.out.below t5.out bG.out.lt)
  replace MS := hide ((MS.out.below t5.out (Nat.le_refl _)).mono t5.out.size)
  replace MT := hide ((MT.out.below t5.out (Nat.le_refl _)).mono t5.out.size)
  replace HMA := hide ((HMA.out.below t5.out (Nat.le_refl _)).mono t5.out.size)
  replace HMB := hide ((HMB.out.below t5.out (Nat.le_refl _)).mono t5.out.size)
  replace HAL := hide ((HAL.out.below t5.out (Nat.le_refl _)).mono t5.out.size)
  replace HLW := hide ((HLW.out.below t5.out (Nat.le_refl _)).mono t5.out.size)
  replace HBW := hide (HBW.out.trans (t5.out.mono HBW.out.size))
  have MU := hide ((HN5.out.at_.below q5.out (Nat.le_refl _)).mono q5.out.size)
  clear HN5 HB5 q5 t5 hW5 hU hH
  obtain ⟨f3, hf3⟩ : ∃ z, z = r3.2.1 := ⟨_, rfl⟩
  obtain ⟨g3, hg3⟩ : ∃ z, z = r3.2.2 := ⟨_, rfl⟩
  have HE3 := hide (show r3.2 = (f3, g3) by rw [hf3, hg3])
  simp only [← hf3, ← hg3]
  rw [← hf3, ← hg3] at bF
  clear hf3 hg3
  obtain ⟨t3, ht3⟩ : ∃ z, z = r3.1.n := ⟨_, rfl⟩
  simp only [← ht3]
  rw [← ht3] at bS MS
  clear ht3
  obtain ⟨f4, hf4⟩ : ∃ z, z = r4.2.1 := ⟨_, rfl⟩
  obtain ⟨g4, hg4⟩ : ∃ z, z = r4.2.2 := ⟨_, rfl⟩
  have HE4 := hide (show r4.2 = (f4, g4) by rw [hf4, hg4])
  simp only [← hf4, ← hg4]
  rw [← hf4, ← hg4] at bG
  clear hf4 hg4
  obtain ⟨t4, ht4⟩ : ∃ z, z = r4.1.n := ⟨_, rfl⟩
  simp only [← ht4]
  rw [← ht4] at bT MT
  clear ht4
  obtain ⟨f5, hf5⟩ : ∃ z, z = r5.2.1 := ⟨_, rfl⟩
  obtain ⟨g5, hg5⟩ : ∃ z, z = r5.2.2 := ⟨_, rfl⟩
  have HE5 := hide (show r5.2 = (f5, g5) by rw [hf5, hg5])
  simp only [← hf5, ← hg5]
  rw [← hf5, ← hg5] at bH
  clear hf5 hg5
  obtain ⟨t5, ht5⟩ : ∃ z, z = r5.1.n := ⟨_, rfl⟩
  simp only [← ht5]
  rw [← ht5] at bU MU
  clear ht5
  have yF0 := bF.out.cell 0
  have yF1 := bF.out.cell 1
  simp at yF0 yF1
  have lF := bF.out.lt
  have yG0 := bG.out.cell 0
  have yG1 := bG.out.cell 1
  simp at yG0 yG1
  have lG := bG.out.lt
  have yH0 := bH.out.cell 0
  have yH1 := bH.out.cell 1
  simp at yH0 yH1
  have lH := bH.out.lt
  obtain ⟨q3, hq3⟩ : ∃ q, q = fEq f3 g3 0 0 := ⟨_, rfl⟩
  cases q3
  · have e3 : fEq f3 g3 0 0 = false := hq3.symm
    clear hq3
    clear HR3 HR4 HR5
    go_wp2
    exact bodyPost_ret (v := .bool true) (by simp [results, Try.results12, go_sem]) rfl ⟨rfl, HBW.out⟩
  · have e3 : fEq f3 g3 0 0 = true := hq3.symm
    clear hq3
    obtain ⟨q4, hq4⟩ : ∃ q, q = fEq f4 g4 0 0 := ⟨_, rfl⟩
    cases q4
    · have e4 : fEq f4 g4 0 0 = false := hq4.symm
      clear hq4
      clear HR3 HR4 HR5
      go_wp2
      exact bodyPost_ret (v := .bool true) (by simp [results, Try.results12, go_sem]) rfl ⟨rfl, HBW.out⟩
    · have e4 : fEq f4 g4 0 0 = true := hq4.symm
      clear hq4
      obtain ⟨q5, hq5⟩ : ∃ q, q = fEq f5 g5 0 0 := ⟨_, rfl⟩
      cases q5
      · have e5 : fEq f5 g5 0 0 = false := hq5.symm
        clear hq5
        clear HR3 HR4 HR5
        go_wp2
        exact bodyPost_ret (v := .bool true) (by simp [results, Try.results12, go_sem]) rfl ⟨rfl, HBW.out⟩
      · have e5 : fEq f5 g5 0 0 = true := hq5.symm
        clear hq5
        have Z3 := hide (show r3.2 = (0, 0) by rw [HE3.out]; exact fEq0A.1 e3)
        have Z4 := hide (show r4.2 = (0, 0) by rw [HE4.out]; exact fEq0A.1 e4)
        have Z5 := hide (show r5.2 = (0, 0) by rw [HE5.out]; exact fEq0A.1 e5)
        have RS := hide (intR_res HR3.out Z3.out (fun q => rfl))
        have RT := hide (intR_res HR4.out Z4.out (fun q => rfl)).2
        have RU := hide (cmpR_res HR5.out Z5.out).2.2.2.2
        have OA := hide (acOk_m (bothF_zero RS.out.1).1)
        have OB := hide (acOk_m (bothF_zero RS.out.1).2.1)
        obtain ⟨NS, hNS⟩ := RS.out.2.ok
        obtain ⟨NT, hNT⟩ := RT.out.ok
        obtain ⟨NU, hNU⟩ := RU.out.ok
        have OS := hide hNS
        have OT := hide hNT
        have OU := hide hNU
        have ES := hide (RS.out.2.acc lw)
        have ET := hide (RT.out.acc lw)
        have EU := hide (RU.out.acc lw)
        clear hNS hNT hNU RS RT RU Z3 Z4 Z5 HR3 HR4 HR5 HE3 HE4 HE5
        obtain ⟨pa, hpa⟩ : ∃ z, z = bA a lw := ⟨_, rfl⟩
        obtain ⟨pb, hpb⟩ : ∃ z, z = bA b lw := ⟨_, rfl⟩
        have HPA := hide hpa
        have HPB := hide hpb
        rw [← hpa] at ES ET EU
        rw [← hpb] at ES ET
        clear hpa hpb
        go_upto_region 8 with fail
        clear yF0 yF1 lF yG0 yG1 lG yH0 yH1 lH e3 e4 e5 he bF bG bH
        go_cut [15, 16] from 56 (fun s15 s16 wx => s15 = .bool pa ∧ s16 = .bool pb ∧ Hid (Below W5.heap.size W5 wx))
        case first =>
          obtain ⟨F, hF⟩ : ∃ F : (Nat → Bool) → (Nat → Value) → World → Prop, F = fun l v wr =>
            Hid ((l 0 = true → v 0 = (.agg #[.int .i64 sa, .slice A1 n1 c1, .slice AF1 nf1 cf1]))) ∧
            Hid ((l 1 = true → v 1 = (.slice AW nw cw))) ∧
            Hid ((l 2 = true → v 2 = (.bool pa))) ∧
            Hid ((l 3 = true → v 3 = (.agg #[.int .i64 sb, .slice A2 n2 c2, .slice AF2 nf2 cf2]))) ∧
            Hid ((l 4 = true → v 4 = (.slice AW nw cw))) ∧
            Hid ((l 5 = true → v 5 = (.bool pb))) ∧
            Hid ((l 6 = true → v 6 = (.bool pa))) ∧
            Hid ((l 7 = true → v 7 = (.bool pb))) ∧
            Hid (Below W5.heap.size W5 wr) := ⟨_, rfl⟩
          have HFD := hide hF
          clear hF
          refine wp_region_inv F (A := ?AR1) ?hA (by kernel_rfl) (by kernel_rfl) (by kernel_rfl) ?h0 ?hend ?hsteps
          case hA => intro v; simp only [putR, Act.put, List.setIfInBounds_toArray, List.set_cons_zero, List.set_cons_succ, Nat.reduceAdd, Nat.zero_add]; exact rfl
          case h0 =>
            intro v
            rw [HFD.out]
            exact ⟨hide (fun h => by exfalso; simp at h), hide (fun h => by exfalso; simp at h), hide (fun h => by exfalso; simp at h), hide (fun h => by exfalso; simp at h), hide (fun h => by exfalso; simp at h), hide (fun h => by exfalso; simp at h), hide (fun h => by exfalso; simp at h), hide (fun h => by exfalso; simp at h), hide ((Below.refl _ _).drew)⟩
          case hend =>
            intro l v wr hall hF
            rw [HFD.out] at hF
            obtain ⟨H0, H1, H2, H3, H4, H5, H6, H7, H8⟩ := hF
            have f0 := H0.out
            have f1 := H1.out
            have f2 := H2.out
            have f3 := H3.out
            have f4 := H4.out
            have f5 := H5.out
            have f6 := H6.out
            have f7 := H7.out
            have f8 := H8.out
            clear H0 H1 H2 H3 H4 H5 H6 H7 H8
            have e6 := hide (f6 (hall 6 (by simp)))
            have e7 := hide (f7 (hall 7 (by simp)))
            have HB9 := hide f8
            clear f0 f1 f2 f3 f4 f5 f6 f7 f8 hall
            go_wp2
            go_meet
            exact ⟨e6.out, e7.out, HB9⟩
          case hsteps =>
            refine StepsR.cons (n := 0) ?_ (StepsR.cons (n := 1) ?_ (StepsR.cons (n := 2) ?_ (StepsR.cons (n := 3) ?_ (StepsR.cons (n := 4) ?_ (StepsR.cons (n := 5) ?_ (StepsR.cons (n := 6) ?_ (StepsR.cons (n := 7) ?_ (trivial))))))))
            · intro l v wr hn hdep hcl hF K hK
              rw [HFD.out] at hF
              obtain ⟨H0, H1, H2, H3, H4, H5, H6, H7, H8⟩ := hF
              simp [Region.binds] at hdep
              have HCL := hide hcl
              have HN := hide hn
              clear hcl hn
              have bq := hide (bX.out.below H8.out bX.out.lt)
              have x0 := bq.out.cell 0
              have x1 := bq.out.cell 1
              have x2 := bq.out.cell 2
              simp at x0 x1 x2
              go_simp
              have hk := hK.out (.agg #[.int .i64 sa, .slice A1 n1 c1, .slice AF1 nf1 cf1]) wr (by
                rw [HFD.out]
                exact ⟨hide ((fun _ => rfl)), H1, H2, H3, H4, H5, H6, H7, H8⟩)
              simp only [Act.put, List.setIfInBounds_toArray, List.set_cons_zero, List.set_cons_succ] at hk
              exact hk
            · intro l v wr hn hdep hcl hF K hK
              rw [HFD.out] at hF
              obtain ⟨H0, H1, H2, H3, H4, H5, H6, H7, H8⟩ := hF
              simp [Region.binds] at hdep
              have HCL := hide hcl
              have HN := hide hn
              clear hcl hn
              go_simp
              have hk := hK.out (.slice AW nw cw) wr (by
                rw [HFD.out]
                exact ⟨H0, hide ((fun _ => rfl)), H2, H3, H4, H5, H6, H7, H8⟩)
              simp only [Act.put, List.setIfInBounds_toArray, List.set_cons_zero, List.set_cons_succ] at hk
              exact hk
            · intro l v wr hn hdep hcl hF K hK
              rw [HFD.out] at hF
              obtain ⟨H0, H1, H2, H3, H4, H5, H6, H7, H8⟩ := hF
              simp [Region.binds] at hdep
              have HCL := hide hcl
              have HN := hide hn
              clear hcl hn
              have e0 := H0.out (by simp [hdep])
              have e1 := H1.out (by simp [hdep])
              go_simp
              refine (accb_any _ _ a _ lw wr OA.out ((HMA.out.below H8.out (Nat.le_refl _)).mono H8.out.size) ((HLW.out.below H8.out (Nat.le_refl _)).mono H8.out.size)).mono ?_
              rintro e w9 ⟨rfl, hb9⟩
              rw [← HPA.out]
              have hk := hK.out (.bool pa) w9 (by
                rw [HFD.out]
                exact ⟨H0, H1, hide ((fun _ => rfl)), H3, H4, H5, H6, H7, hide (H8.out.trans (hb9.mono H8.out.size))⟩)
              simp only [Act.put, List.setIfInBounds_toArray, List.set_cons_zero, List.set_cons_succ] at hk
              simp only [e0, e1] at hk
              exact hk
            · intro l v wr hn hdep hcl hF K hK
              rw [HFD.out] at hF
              obtain ⟨H0, H1, H2, H3, H4, H5, H6, H7, H8⟩ := hF
              simp [Region.binds] at hdep
              have HCL := hide hcl
              have HN := hide hn
              clear hcl hn
              have bq := hide (bY.out.below H8.out bY.out.lt)
              have x0 := bq.out.cell 0
              have x1 := bq.out.cell 1
              have x2 := bq.out.cell 2
              simp at x0 x1 x2
              go_simp
              have hk := hK.out (.agg #[.int .i64 sb, .slice A2 n2 c2, .slice AF2 nf2 cf2]) wr (by
                rw [HFD.out]
                exact ⟨H0, H1, H2, hide ((fun _ => rfl)), H4, H5, H6, H7, H8⟩)
              simp only [Act.put, List.setIfInBounds_toArray, List.set_cons_zero, List.set_cons_succ] at hk
              exact hk
            · intro l v wr hn hdep hcl hF K hK
              rw [HFD.out] at hF
              obtain ⟨H0, H1, H2, H3, H4, H5, H6, H7, H8⟩ := hF
              simp [Region.binds] at hdep
              have HCL := hide hcl
              have HN := hide hn
              clear hcl hn
              go_simp
              have hk := hK.out (.slice AW nw cw) wr (by
                rw [HFD.out]
                exact ⟨H0, H1, H2, H3, hide ((fun _ => rfl)), H5, H6, H7, H8⟩)
              simp only [Act.put, List.setIfInBounds_toArray, List.set_cons_zero, List.set_cons_succ] at hk
              exact hk
            · intro l v wr hn hdep hcl hF K hK
              rw [HFD.out] at hF
              obtain ⟨H0, H1, H2, H3, H4, H5, H6, H7, H8⟩ := hF
              simp [Region.binds] at hdep
              have HCL := hide hcl
              have HN := hide hn
              clear hcl hn
              have e3 := H3.out (by simp [hdep])
              have e4 := H4.out (by simp [hdep])
              go_simp
              refine (accb_any _ _ b _ lw wr OB.out ((HMB.out.below H8.out (Nat.le_refl _)).mono H8.out.size) ((HLW.out.below H8.out (Nat.le_refl _)).mono H8.out.size)).mono ?_
              rintro e w9 ⟨rfl, hb9⟩
              rw [← HPB.out]
              have hk := hK.out (.bool pb) w9 (by
                rw [HFD.out]
                exact ⟨H0, H1, H2, H3, H4, hide ((fun _ => rfl)), H6, H7, hide (H8.out.trans (hb9.mono H8.out.size))⟩)
              simp only [Act.put, List.setIfInBounds_toArray, List.set_cons_zero, List.set_cons_succ] at hk
              simp only [e3, e4] at hk
              exact hk
            · intro l v wr hn hdep hcl hF K hK
              rw [HFD.out] at hF
              obtain ⟨H0, H1, H2, H3, H4, H5, H6, H7, H8⟩ := hF
              simp [Region.binds] at hdep
              have HCL := hide hcl
              have HN := hide hn
              clear hcl hn
              have e2 := H2.out (by simp [hdep])
              go_simp
              have hk := hK.out (.bool pa) wr (by
                rw [HFD.out]
                exact ⟨H0, H1, H2, H3, H4, H5, hide ((fun _ => rfl)), H7, H8⟩)
              simp only [Act.put, List.setIfInBounds_toArray, List.set_cons_zero, List.set_cons_succ] at hk
              simp only [e2] at hk
              exact hk
            · intro l v wr hn hdep hcl hF K hK
              rw [HFD.out] at hF
              obtain ⟨H0, H1, H2, H3, H4, H5, H6, H7, H8⟩ := hF
              simp [Region.binds] at hdep
              have HCL := hide hcl
              have HN := hide hn
              clear hcl hn
              have e5 := H5.out (by simp [hdep])
              go_simp
              have hk := hK.out (.bool pb) wr (by
                rw [HFD.out]
                exact ⟨H0, H1, H2, H3, H4, H5, H6, hide ((fun _ => rfl)), H8⟩)
              simp only [Act.put, List.setIfInBounds_toArray, List.set_cons_zero, List.set_cons_succ] at hk
              simp only [e5] at hk
              exact hk
        case rest =>
          obtain ⟨rfl, rfl, HB6⟩ := hcut
          obtain ⟨W6, hW6⟩ : ∃ z, z = wc := ⟨_, rfl⟩
          rw [← hW6] at HB6 ⊢
          clear hW6
          replace bS := hide (bS.out.below HB6.out bS.out.lt)
          replace bT := hide (bT.out.below HB6.out bT.out.lt)
          replace bU := hide (bU.out.below HB6.out bU.out.lt)
          replace MS := hide ((MS.out.below HB6.out (Nat.le_refl _)).mono HB6.out.size)
          replace MT := hide ((MT.out.below HB6.out (Nat.le_refl _)).mono HB6.out.size)
          replace MU := hide ((MU.out.below HB6.out (Nat.le_refl _)).mono HB6.out.size)
          replace HAL := hide ((HAL.out.below HB6.out (Nat.le_refl _)).mono HB6.out.size)
          replace HLW := hide ((HLW.out.below HB6.out (Nat.le_refl _)).mono HB6.out.size)
          replace HBW := hide (HBW.out.trans (HB6.out.mono HBW.out.size))
          clear HMA HMB HB6 bX bY OA OB HPA HPB
          have HRA := hide (nums_rdJ HAL.out)
          have HRW := hide (nums_rdJ HLW.out)
          go_upto_region 11 with fail
          go_loopw [17, 64] (fun ov kv wr => ∃ k : Nat, k ≤ nw ∧ kv = .int .i64 (k : Int) ∧ ov = .bool (ovB lw al k) ∧ wr = W6) (fun _ kv _ => nw - (intOf kv).toNat)
          case atStart => exact ⟨0, by omega, rfl, by rw [ovB_zero], rfl⟩
          case round =>
            obtain ⟨k, hk, rfl, rfl, hwr⟩ := hrel
            have HWW := hide hwr
            rw [← hwr] at HBW HRA HRW bS bT bU MS MT MU HLW
            clear hwr
            by_cases hkw : k < nw
            · obtain ⟨bb, off, x, hAW, hbB, d0, HX⟩ := num_at HRW.out hkw
              subst hAW
              have hkl : k < lw.length := by rw [HNW.out]; exact hkw
              have hx0 : lw[k]? = some x := by rw [← HX.out, List.getElem?_eq_getElem hkl]; simp [List.getD, hkl]
              have HOV := hide (ovB_next (al := al) hx0)
              have lb : bb < wr.heap.size := by omega
              clear HX hkl hx0
              go_upto_region 15 with fail
              go_loopw [20, 70] (fun sv jv wq => ∃ j : Nat, j ≤ nl ∧ jv = .int .i64 (j : Int) ∧ sv = .bool (smB al x j) ∧ wq = wr) (fun _ jv _ => nl - (intOf jv).toNat)
              case atStart => exact ⟨0, by omega, rfl, by rw [smB_zero], rfl⟩
              case round =>
                obtain ⟨j, hj, rfl, rfl, hwq⟩ := hrel
                have HWQ := hide hwq
                rw [← hwq] at HRA
                clear hwq
                by_cases hjl : j < nl
                · obtain ⟨ab, ao, y, hAL, hab, d1, HY⟩ := num_at HRA.out hjl
                  subst hAL
                  have hjll : j < al.length := by rw [HN.out]; exact hjl
                  have hy0 : al[j]? = some y := by rw [← HY.out, List.getElem?_eq_getElem hjll]; simp [List.getD, hjll]
                  have HSM := hide (smB_next (x := x) hy0)
                  have lab := hab
                  clear HY hjll hy0
                  obtain ⟨sj, hsj⟩ : ∃ z, z = smB al x j := ⟨_, rfl⟩
                  rw [← hsj] at HSM ⊢
                  clear hsj
                  cases sj
                  · by_cases hyx : y = x
                    · have s1 : decide (y = x) = true := decide_eq_true hyx
                      have s2 : (y == x) = true := by simp [hyx]
                      have HSN := hide (show smB al x (j + 1) = true by rw [HSM.out, s1]; rfl)
                      clear hyx HSM
                      go_wp2
                      go_roundw
                      case rel => exact ⟨j + 1, by omega, by go_num, by rw [HSN.out], HWQ.out⟩
                      case measure => simp [intOf]; omega
                    · have s1 : decide (y = x) = false := decide_eq_false hyx
                      have s2 : (y == x) = false := by simp [hyx]
                      have HSN := hide (show smB al x (j + 1) = false by rw [HSM.out, s1]; rfl)
                      clear hyx HSM
                      go_wp2
                      go_roundw
                      case rel => exact ⟨j + 1, by omega, by go_num, by rw [HSN.out], HWQ.out⟩
                      case measure => simp [intOf]; omega
                  · have HSN := hide (show smB al x (j + 1) = true by rw [HSM.out]; rfl)
                    clear HSM
                    go_wp2
                    go_roundw
                    case rel => exact ⟨j + 1, by omega, by go_num, by rw [HSN.out], HWQ.out⟩
                    case measure => simp [intOf]; omega
                · obtain rfl : nl = j := by omega
                  have HSA := hide (smB_all (x := x) (show al.length ≤ nl by rw [HN.out]; exact Nat.le_refl _))
                  obtain ⟨sj, hsj⟩ : ∃ z, z = smB al x nl := ⟨_, rfl⟩
                  rw [← hsj] at HSA ⊢
                  clear hsj
                  obtain ⟨ok, hok⟩ : ∃ z, z = ovB lw al k := ⟨_, rfl⟩
                  rw [← hok] at HOV ⊢
                  clear hok
                  have HON := hide (show ovB lw al (k + 1) = (ok && sj) by rw [HOV.out, HSA.out])
                  clear HOV HSA
                  cases ok
                  · go_wp2
                    go_roundw
                    case rel => exact ⟨k + 1, by omega, by go_num, by rw [HON.out]; rfl, HWQ.out.trans HWW.out⟩
                    case measure => simp [intOf]; omega
                  · cases sj
                    · go_wp2
                      go_roundw
                      case rel => exact ⟨k + 1, by omega, by go_num, by rw [HON.out]; rfl, HWQ.out.trans HWW.out⟩
                      case measure => simp [intOf]; omega
                    · go_wp2
                      go_roundw
                      case rel => exact ⟨k + 1, by omega, by go_num, by rw [HON.out]; rfl, HWQ.out.trans HWW.out⟩
                      case measure => simp [intOf]; omega
            · obtain rfl : nw = k := by omega
              have HOA := hide (ovB_all (al := al) (show lw.length ≤ nw by rw [HNW.out]; exact Nat.le_refl _))
              obtain ⟨po, hpo⟩ : ∃ z, z = ovB lw al nw := ⟨_, rfl⟩
              rw [← hpo] at HOA ⊢
              clear hpo
              have HS := hide (show bA r3.1 lw = (pa && pb) by rw [Bool.eq_iff_iff]; exact ES.out)
              have HT := hide (show bA r4.1 lw = (pa && !pb) by rw [Bool.eq_iff_iff]; exact ET.out)
              have HU := hide (show bA r5.1 lw = (!pa && po) by
                rw [Bool.eq_iff_iff, EU.out, ← HOA.out, Bool.and_eq_true, Bool.not_eq_true']
                exact and_comm)
              clear ES ET EU HOA HRA HRW HAL HWW
              cases pa
              · cases pb
                · cases po
                  · have HS2 := hide (show bA r3.1 lw = false from HS.out)
                    have HT2 := hide (show bA r4.1 lw = false from HT.out)
                    have HU2 := hide (show bA r5.1 lw = false from HU.out)
                    clear HS HT HU
                    have y0 := bS.out.cell 0
                    have y1 := bS.out.cell 1
                    have y2 := bS.out.cell 2
                    simp at y0 y1 y2
                    have lS := bS.out.lt
                    go_wp2_with (first
                      | (go_at_call 28; with_reducible refine (accb_any (.agg #[.int .i64 t3, .slice A3 n3 c3, .slice AF3 nf3 cf3]) _ r3.1 NS lw wr OS.out MS.out HLW.out).mono ?_; rintro e w7 ⟨rfl, hb7⟩; rw [HS2.out]; have HB7 := hide hb7; have bT7 := hide (bT.out.below hb7 bT.out.lt); have z0 := bT7.out.cell 0; have z1 := bT7.out.cell 1; have z2 := bT7.out.cell 2; simp at z0 z1 z2; have lT7 := bT7.out.lt; have MT7 := hide ((MT.out.below hb7 (Nat.le_refl _)).mono hb7.size); have LW7 := hide ((HLW.out.below hb7 (Nat.le_refl _)).mono hb7.size); clear hb7)
                      | (go_at_call 28; with_reducible refine (accb_any (.agg #[.int .i64 t4, .slice A4 n4 c4, .slice AF4 nf4 cf4]) _ r4.1 NT lw w7 OT.out MT7.out LW7.out).mono ?_; rintro e w8 ⟨rfl, hb8⟩; rw [HT2.out]; have HB8 := hide (HB7.out.trans (hb8.mono HB7.out.size)); have bU8 := hide ((bU.out.below HB7.out bU.out.lt).below hb8 (by have := HB7.out.size; have := bU.out.lt; omega)); have u0 := bU8.out.cell 0; have u1 := bU8.out.cell 1; have u2 := bU8.out.cell 2; simp at u0 u1 u2; have lU8 := bU8.out.lt; have MU8 := hide ((MU.out.below HB8.out (Nat.le_refl _)).mono HB8.out.size); have LW8 := hide ((LW7.out.below hb8 (Nat.le_refl _)).mono hb8.size); clear hb8)
                      | (go_at_call 28; with_reducible refine (accb_any (.agg #[.int .i64 t5, .slice A5 n5 c5, .slice AF5 nf5 cf5]) _ r5.1 NU lw w8 OU.out MU8.out LW8.out).mono ?_; rintro e w9 ⟨rfl, hb9⟩; rw [HU2.out]; have HB9 := hide (HB8.out.trans (hb9.mono HB8.out.size)); clear hb9))
                    exact bodyPost_ret (v := .bool true) (by simp [results, Try.results12, go_sem]) rfl ⟨rfl, HBW.out.trans (HB9.out.mono HBW.out.size)⟩
                  · have HS2 := hide (show bA r3.1 lw = false from HS.out)
                    have HT2 := hide (show bA r4.1 lw = false from HT.out)
                    have HU2 := hide (show bA r5.1 lw = true from HU.out)
                    clear HS HT HU
                    have y0 := bS.out.cell 0
                    have y1 := bS.out.cell 1
                    have y2 := bS.out.cell 2
                    simp at y0 y1 y2
                    have lS := bS.out.lt
                    go_wp2_with (first
                      | (go_at_call 28; with_reducible refine (accb_any (.agg #[.int .i64 t3, .slice A3 n3 c3, .slice AF3 nf3 cf3]) _ r3.1 NS lw wr OS.out MS.out HLW.out).mono ?_; rintro e w7 ⟨rfl, hb7⟩; rw [HS2.out]; have HB7 := hide hb7; have bT7 := hide (bT.out.below hb7 bT.out.lt); have z0 := bT7.out.cell 0; have z1 := bT7.out.cell 1; have z2 := bT7.out.cell 2; simp at z0 z1 z2; have lT7 := bT7.out.lt; have MT7 := hide ((MT.out.below hb7 (Nat.le_refl _)).mono hb7.size); have LW7 := hide ((HLW.out.below hb7 (Nat.le_refl _)).mono hb7.size); clear hb7)
                      | (go_at_call 28; with_reducible refine (accb_any (.agg #[.int .i64 t4, .slice A4 n4 c4, .slice AF4 nf4 cf4]) _ r4.1 NT lw w7 OT.out MT7.out LW7.out).mono ?_; rintro e w8 ⟨rfl, hb8⟩; rw [HT2.out]; have HB8 := hide (HB7.out.trans (hb8.mono HB7.out.size)); have bU8 := hide ((bU.out.below HB7.out bU.out.lt).below hb8 (by have := HB7.out.size; have := bU.out.lt; omega)); have u0 := bU8.out.cell 0; have u1 := bU8.out.cell 1; have u2 := bU8.out.cell 2; simp at u0 u1 u2; have lU8 := bU8.out.lt; have MU8 := hide ((MU.out.below HB8.out (Nat.le_refl _)).mono HB8.out.size); have LW8 := hide ((LW7.out.below hb8 (Nat.le_refl _)).mono hb8.size); clear hb8)
                      | (go_at_call 28; with_reducible refine (accb_any (.agg #[.int .i64 t5, .slice A5 n5 c5, .slice AF5 nf5 cf5]) _ r5.1 NU lw w8 OU.out MU8.out LW8.out).mono ?_; rintro e w9 ⟨rfl, hb9⟩; rw [HU2.out]; have HB9 := hide (HB8.out.trans (hb9.mono HB8.out.size)); clear hb9))
                    exact bodyPost_ret (v := .bool true) (by simp [results, Try.results12, go_sem]) rfl ⟨rfl, HBW.out.trans (HB9.out.mono HBW.out.size)⟩
                · cases po
                  · have HS2 := hide (show bA r3.1 lw = false from HS.out)
                    have HT2 := hide (show bA r4.1 lw = false from HT.out)
                    have HU2 := hide (show bA r5.1 lw = false from HU.out)
                    clear HS HT HU
                    have y0 := bS.out.cell 0
                    have y1 := bS.out.cell 1
                    have y2 := bS.out.cell 2
                    simp at y0 y1 y2
                    have lS := bS.out.lt
                    go_wp2_with (first
                      | (go_at_call 28; with_reducible refine (accb_any (.agg #[.int .i64 t3, .slice A3 n3 c3, .slice AF3 nf3 cf3]) _ r3.1 NS lw wr OS.out MS.out HLW.out).mono ?_; rintro e w7 ⟨rfl, hb7⟩; rw [HS2.out]; have HB7 := hide hb7; have bT7 := hide (bT.out.below hb7 bT.out.lt); have z0 := bT7.out.cell 0; have z1 := bT7.out.cell 1; have z2 := bT7.out.cell 2; simp at z0 z1 z2; have lT7 := bT7.out.lt; have MT7 := hide ((MT.out.below hb7 (Nat.le_refl _)).mono hb7.size); have LW7 := hide ((HLW.out.below hb7 (Nat.le_refl _)).mono hb7.size); clear hb7)
                      | (go_at_call 28; with_reducible refine (accb_any (.agg #[.int .i64 t4, .slice A4 n4 c4, .slice AF4 nf4 cf4]) _ r4.1 NT lw w7 OT.out MT7.out LW7.out).mono ?_; rintro e w8 ⟨rfl, hb8⟩; rw [HT2.out]; have HB8 := hide (HB7.out.trans (hb8.mono HB7.out.size)); have bU8 := hide ((bU.out.below HB7.out bU.out.lt).below hb8 (by have := HB7.out.size; have := bU.out.lt; omega)); have u0 := bU8.out.cell 0; have u1 := bU8.out.cell 1; have u2 := bU8.out.cell 2; simp at u0 u1 u2; have lU8 := bU8.out.lt; have MU8 := hide ((MU.out.below HB8.out (Nat.le_refl _)).mono HB8.out.size); have LW8 := hide ((LW7.out.below hb8 (Nat.le_refl _)).mono hb8.size); clear hb8)
                      | (go_at_call 28; with_reducible refine (accb_any (.agg #[.int .i64 t5, .slice A5 n5 c5, .slice AF5 nf5 cf5]) _ r5.1 NU lw w8 OU.out MU8.out LW8.out).mono ?_; rintro e w9 ⟨rfl, hb9⟩; rw [HU2.out]; have HB9 := hide (HB8.out.trans (hb9.mono HB8.out.size)); clear hb9))
                    exact bodyPost_ret (v := .bool true) (by simp [results, Try.results12, go_sem]) rfl ⟨rfl, HBW.out.trans (HB9.out.mono HBW.out.size)⟩
                  · have HS2 := hide (show bA r3.1 lw = false from HS.out)
                    have HT2 := hide (show bA r4.1 lw = false from HT.out)
                    have HU2 := hide (show bA r5.1 lw = true from HU.out)
                    clear HS HT HU
                    have y0 := bS.out.cell 0
                    have y1 := bS.out.cell 1
                    have y2 := bS.out.cell 2
                    simp at y0 y1 y2
                    have lS := bS.out.lt
                    go_wp2_with (first
                      | (go_at_call 28; with_reducible refine (accb_any (.agg #[.int .i64 t3, .slice A3 n3 c3, .slice AF3 nf3 cf3]) _ r3.1 NS lw wr OS.out MS.out HLW.out).mono ?_; rintro e w7 ⟨rfl, hb7⟩; rw [HS2.out]; have HB7 := hide hb7; have bT7 := hide (bT.out.below hb7 bT.out.lt); have z0 := bT7.out.cell 0; have z1 := bT7.out.cell 1; have z2 := bT7.out.cell 2; simp at z0 z1 z2; have lT7 := bT7.out.lt; have MT7 := hide ((MT.out.below hb7 (Nat.le_refl _)).mono hb7.size); have LW7 := hide ((HLW.out.below hb7 (Nat.le_refl _)).mono hb7.size); clear hb7)
                      | (go_at_call 28; with_reducible refine (accb_any (.agg #[.int .i64 t4, .slice A4 n4 c4, .slice AF4 nf4 cf4]) _ r4.1 NT lw w7 OT.out MT7.out LW7.out).mono ?_; rintro e w8 ⟨rfl, hb8⟩; rw [HT2.out]; have HB8 := hide (HB7.out.trans (hb8.mono HB7.out.size)); have bU8 := hide ((bU.out.below HB7.out bU.out.lt).below hb8 (by have := HB7.out.size; have := bU.out.lt; omega)); have u0 := bU8.out.cell 0; have u1 := bU8.out.cell 1; have u2 := bU8.out.cell 2; simp at u0 u1 u2; have lU8 := bU8.out.lt; have MU8 := hide ((MU.out.below HB8.out (Nat.le_refl _)).mono HB8.out.size); have LW8 := hide ((LW7.out.below hb8 (Nat.le_refl _)).mono hb8.size); clear hb8)
                      | (go_at_call 28; with_reducible refine (accb_any (.agg #[.int .i64 t5, .slice A5 n5 c5, .slice AF5 nf5 cf5]) _ r5.1 NU lw w8 OU.out MU8.out LW8.out).mono ?_; rintro e w9 ⟨rfl, hb9⟩; rw [HU2.out]; have HB9 := hide (HB8.out.trans (hb9.mono HB8.out.size)); clear hb9))
                    exact bodyPost_ret (v := .bool true) (by simp [results, Try.results12, go_sem]) rfl ⟨rfl, HBW.out.trans (HB9.out.mono HBW.out.size)⟩
              · cases pb
                · cases po
                  · have HS2 := hide (show bA r3.1 lw = false from HS.out)
                    have HT2 := hide (show bA r4.1 lw = true from HT.out)
                    have HU2 := hide (show bA r5.1 lw = false from HU.out)
                    clear HS HT HU
                    have y0 := bS.out.cell 0
                    have y1 := bS.out.cell 1
                    have y2 := bS.out.cell 2
                    simp at y0 y1 y2
                    have lS := bS.out.lt
                    go_wp2_with (first
                      | (go_at_call 28; with_reducible refine (accb_any (.agg #[.int .i64 t3, .slice A3 n3 c3, .slice AF3 nf3 cf3]) _ r3.1 NS lw wr OS.out MS.out HLW.out).mono ?_; rintro e w7 ⟨rfl, hb7⟩; rw [HS2.out]; have HB7 := hide hb7; have bT7 := hide (bT.out.below hb7 bT.out.lt); have z0 := bT7.out.cell 0; have z1 := bT7.out.cell 1; have z2 := bT7.out.cell 2; simp at z0 z1 z2; have lT7 := bT7.out.lt; have MT7 := hide ((MT.out.below hb7 (Nat.le_refl _)).mono hb7.size); have LW7 := hide ((HLW.out.below hb7 (Nat.le_refl _)).mono hb7.size); clear hb7)
                      | (go_at_call 28; with_reducible refine (accb_any (.agg #[.int .i64 t4, .slice A4 n4 c4, .slice AF4 nf4 cf4]) _ r4.1 NT lw w7 OT.out MT7.out LW7.out).mono ?_; rintro e w8 ⟨rfl, hb8⟩; rw [HT2.out]; have HB8 := hide (HB7.out.trans (hb8.mono HB7.out.size)); have bU8 := hide ((bU.out.below HB7.out bU.out.lt).below hb8 (by have := HB7.out.size; have := bU.out.lt; omega)); have u0 := bU8.out.cell 0; have u1 := bU8.out.cell 1; have u2 := bU8.out.cell 2; simp at u0 u1 u2; have lU8 := bU8.out.lt; have MU8 := hide ((MU.out.below HB8.out (Nat.le_refl _)).mono HB8.out.size); have LW8 := hide ((LW7.out.below hb8 (Nat.le_refl _)).mono hb8.size); clear hb8)
                      | (go_at_call 28; with_reducible refine (accb_any (.agg #[.int .i64 t5, .slice A5 n5 c5, .slice AF5 nf5 cf5]) _ r5.1 NU lw w8 OU.out MU8.out LW8.out).mono ?_; rintro e w9 ⟨rfl, hb9⟩; rw [HU2.out]; have HB9 := hide (HB8.out.trans (hb9.mono HB8.out.size)); clear hb9))
                    exact bodyPost_ret (v := .bool true) (by simp [results, Try.results12, go_sem]) rfl ⟨rfl, HBW.out.trans (HB9.out.mono HBW.out.size)⟩
                  · have HS2 := hide (show bA r3.1 lw = false from HS.out)
                    have HT2 := hide (show bA r4.1 lw = true from HT.out)
                    have HU2 := hide (show bA r5.1 lw = false from HU.out)
                    clear HS HT HU
                    have y0 := bS.out.cell 0
                    have y1 := bS.out.cell 1
                    have y2 := bS.out.cell 2
                    simp at y0 y1 y2
                    have lS := bS.out.lt
                    go_wp2_with (first
                      | (go_at_call 28; with_reducible refine (accb_any (.agg #[.int .i64 t3, .slice A3 n3 c3, .slice AF3 nf3 cf3]) _ r3.1 NS lw wr OS.out MS.out HLW.out).mono ?_; rintro e w7 ⟨rfl, hb7⟩; rw [HS2.out]; have HB7 := hide hb7; have bT7 := hide (bT.out.below hb7 bT.out.lt); have z0 := bT7.out.cell 0; have z1 := bT7.out.cell 1; have z2 := bT7.out.cell 2; simp at z0 z1 z2; have lT7 := bT7.out.lt; have MT7 := hide ((MT.out.below hb7 (Nat.le_refl _)).mono hb7.size); have LW7 := hide ((HLW.out.below hb7 (Nat.le_refl _)).mono hb7.size); clear hb7)
                      | (go_at_call 28; with_reducible refine (accb_any (.agg #[.int .i64 t4, .slice A4 n4 c4, .slice AF4 nf4 cf4]) _ r4.1 NT lw w7 OT.out MT7.out LW7.out).mono ?_; rintro e w8 ⟨rfl, hb8⟩; rw [HT2.out]; have HB8 := hide (HB7.out.trans (hb8.mono HB7.out.size)); have bU8 := hide ((bU.out.below HB7.out bU.out.lt).below hb8 (by have := HB7.out.size; have := bU.out.lt; omega)); have u0 := bU8.out.cell 0; have u1 := bU8.out.cell 1; have u2 := bU8.out.cell 2; simp at u0 u1 u2; have lU8 := bU8.out.lt; have MU8 := hide ((MU.out.below HB8.out (Nat.le_refl _)).mono HB8.out.size); have LW8 := hide ((LW7.out.below hb8 (Nat.le_refl _)).mono hb8.size); clear hb8)
                      | (go_at_call 28; with_reducible refine (accb_any (.agg #[.int .i64 t5, .slice A5 n5 c5, .slice AF5 nf5 cf5]) _ r5.1 NU lw w8 OU.out MU8.out LW8.out).mono ?_; rintro e w9 ⟨rfl, hb9⟩; rw [HU2.out]; have HB9 := hide (HB8.out.trans (hb9.mono HB8.out.size)); clear hb9))
                    exact bodyPost_ret (v := .bool true) (by simp [results, Try.results12, go_sem]) rfl ⟨rfl, HBW.out.trans (HB9.out.mono HBW.out.size)⟩
                · cases po
                  · have HS2 := hide (show bA r3.1 lw = true from HS.out)
                    have HT2 := hide (show bA r4.1 lw = false from HT.out)
                    have HU2 := hide (show bA r5.1 lw = false from HU.out)
                    clear HS HT HU
                    have y0 := bS.out.cell 0
                    have y1 := bS.out.cell 1
                    have y2 := bS.out.cell 2
                    simp at y0 y1 y2
                    have lS := bS.out.lt
                    go_wp2_with (first
                      | (go_at_call 28; with_reducible refine (accb_any (.agg #[.int .i64 t3, .slice A3 n3 c3, .slice AF3 nf3 cf3]) _ r3.1 NS lw wr OS.out MS.out HLW.out).mono ?_; rintro e w7 ⟨rfl, hb7⟩; rw [HS2.out]; have HB7 := hide hb7; have bT7 := hide (bT.out.below hb7 bT.out.lt); have z0 := bT7.out.cell 0; have z1 := bT7.out.cell 1; have z2 := bT7.out.cell 2; simp at z0 z1 z2; have lT7 := bT7.out.lt; have MT7 := hide ((MT.out.below hb7 (Nat.le_refl _)).mono hb7.size); have LW7 := hide ((HLW.out.below hb7 (Nat.le_refl _)).mono hb7.size); clear hb7)
                      | (go_at_call 28; with_reducible refine (accb_any (.agg #[.int .i64 t4, .slice A4 n4 c4, .slice AF4 nf4 cf4]) _ r4.1 NT lw w7 OT.out MT7.out LW7.out).mono ?_; rintro e w8 ⟨rfl, hb8⟩; rw [HT2.out]; have HB8 := hide (HB7.out.trans (hb8.mono HB7.out.size)); have bU8 := hide ((bU.out.below HB7.out bU.out.lt).below hb8 (by have := HB7.out.size; have := bU.out.lt; omega)); have u0 := bU8.out.cell 0; have u1 := bU8.out.cell 1; have u2 := bU8.out.cell 2; simp at u0 u1 u2; have lU8 := bU8.out.lt; have MU8 := hide ((MU.out.below HB8.out (Nat.le_refl _)).mono HB8.out.size); have LW8 := hide ((LW7.out.below hb8 (Nat.le_refl _)).mono hb8.size); clear hb8)
                      | (go_at_call 28; with_reducible refine (accb_any (.agg #[.int .i64 t5, .slice A5 n5 c5, .slice AF5 nf5 cf5]) _ r5.1 NU lw w8 OU.out MU8.out LW8.out).mono ?_; rintro e w9 ⟨rfl, hb9⟩; rw [HU2.out]; have HB9 := hide (HB8.out.trans (hb9.mono HB8.out.size)); clear hb9))
                    exact bodyPost_ret (v := .bool true) (by simp [results, Try.results12, go_sem]) rfl ⟨rfl, HBW.out.trans (HB9.out.mono HBW.out.size)⟩
                  · have HS2 := hide (show bA r3.1 lw = true from HS.out)
                    have HT2 := hide (show bA r4.1 lw = false from HT.out)
                    have HU2 := hide (show bA r5.1 lw = false from HU.out)
                    clear HS HT HU
                    have y0 := bS.out.cell 0
                    have y1 := bS.out.cell 1
                    have y2 := bS.out.cell 2
                    simp at y0 y1 y2
                    have lS := bS.out.lt
                    go_wp2_with (first
                      | (go_at_call 28; with_reducible refine (accb_any (.agg #[.int .i64 t3, .slice A3 n3 c3, .slice AF3 nf3 cf3]) _ r3.1 NS lw wr OS.out MS.out HLW.out).mono ?_; rintro e w7 ⟨rfl, hb7⟩; rw [HS2.out]; have HB7 := hide hb7; have bT7 := hide (bT.out.below hb7 bT.out.lt); have z0 := bT7.out.cell 0; have z1 := bT7.out.cell 1; have z2 := bT7.out.cell 2; simp at z0 z1 z2; have lT7 := bT7.out.lt; have MT7 := hide ((MT.out.below hb7 (Nat.le_refl _)).mono hb7.size); have LW7 := hide ((HLW.out.below hb7 (Nat.le_refl _)).mono hb7.size); clear hb7)
                      | (go_at_call 28; with_reducible refine (accb_any (.agg #[.int .i64 t4, .slice A4 n4 c4, .slice AF4 nf4 cf4]) _ r4.1 NT lw w7 OT.out MT7.out LW7.out).mono ?_; rintro e w8 ⟨rfl, hb8⟩; rw [HT2.out]; have HB8 := hide (HB7.out.trans (hb8.mono HB7.out.size)); have bU8 := hide ((bU.out.below HB7.out bU.out.lt).below hb8 (by have := HB7.out.size; have := bU.out.lt; omega)); have u0 := bU8.out.cell 0; have u1 := bU8.out.cell 1; have u2 := bU8.out.cell 2; simp at u0 u1 u2; have lU8 := bU8.out.lt; have MU8 := hide ((MU.out.below HB8.out (Nat.le_refl _)).mono HB8.out.size); have LW8 := hide ((LW7.out.below hb8 (Nat.le_refl _)).mono hb8.size); clear hb8)
                      | (go_at_call 28; with_reducible refine (accb_any (.agg #[.int .i64 t5, .slice A5 n5 c5, .slice AF5 nf5 cf5]) _ r5.1 NU lw w8 OU.out MU8.out LW8.out).mono ?_; rintro e w9 ⟨rfl, hb9⟩; rw [HU2.out]; have HB9 := hide (HB8.out.trans (hb9.mono HB8.out.size)); clear hb9))
                    exact bodyPost_ret (v := .bool true) (by simp [results, Try.results12, go_sem]) rfl ⟨rfl, HBW.out.trans (HB9.out.mono HBW.out.size)⟩
end Go.Proofs.Ytopakcbhodnipaa
