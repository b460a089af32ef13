/- The texts BsL of this proof. No conditions. -/
import Derived.Test.YtopakcbhodnipaaCb35
import Derived.Test.YtopakcbhodnipaaCb36
import Derived.Test.YtopakcbhodnipaaCb8
import Derived.Test.YtopakcbhodnipaaCb28
/- Text BsL. -/
namespace Go.Proofs.Ytopakcbhodnipaa
open Go.RowKit Gm
set_option linter.unusedSimpArgs false
set_option linter.unusedVariables false
def CpV (w : World) (v : Value) (b : Mach) (l : List Int) (dT dG : Bool) (vT vG : Value) : Prop := ∃ (r : Mach × (Int × Int)) (A AF : Option Addr) (n c nf cf lo : Nat) (w9 : World), v = .tuple #[.agg #[.int .i64 r.1.n, .slice A n c, .slice AF nf cf], .agg #[.int .i64 r.2.1, .int .i64 r.2.2]] ∧ CmpR b l r ∧ MachNew lo w9 (.agg #[.int .i64 r.1.n, .slice A n c, .slice AF nf cf]) r.1 ∧ w9.heap.size ≤ w.heap.size ∧ (∀ k, lo ≤ k → k < w9.heap.size → w.heap[k]? = w9.heap[k]?) ∧ (dT = true → ∃ T, vT = .pointer (some ⟨T, 0, none⟩) ∧ (T < lo ∨ w9.heap.size ≤ T)) ∧ (dG = true → ∃ G, vG = .pointer (some ⟨G, 0, none⟩) ∧ (G < lo ∨ w9.heap.size ≤ G))
theorem CpV.below {w w' : World} {v : Value} {b : Mach} {l : List Int} {dT dG : Bool} {vT vG : Value} (h : CpV w v b l dT dG vT vG) (hb : Below w.heap.size w w') : CpV w' v b l dT dG vT vG := by
 obtain ⟨r, A, AF, n, c, nf, cf, lo, w9, h1, h2, h3, h4, h5, h6, h7⟩ := h
 exact ⟨r, A, AF, n, c, nf, cf, lo, w9, h1, h2, h3, by have := hb.size; omega, fun k hk hl => (hb.block k (by omega)).trans (h5 k hk hl), h6, h7⟩
theorem CpV.setT {w : World} {v : Value} {b : Mach} {l : List Int} {dG : Bool} {vG : Value} {T : Nat} (h : CpV w v b l true dG (.pointer (some ⟨T, 0, none⟩)) vG) (i : Nat) (u : Value) : CpV (w.setCell ⟨T, i, none⟩ u) v b l true dG (.pointer (some ⟨T, 0, none⟩)) vG := by
 obtain ⟨r, A, AF, n, c, nf, cf, lo, w9, h1, h2, h3, h4, h5, h6, h7⟩ := h
 obtain ⟨T', e, hT⟩ := h6 rfl
 injection e with e; injection e with e; injection e with e
 subst e
 exact ⟨r, A, AF, n, c, nf, cf, lo, w9, h1, h2, h3, by simpa using h4, fun k hk hl => (Below.heap_setCell w ⟨T, i, none⟩ u k (by show k ≠ T; omega)).trans (h5 k hk hl), h6, h7⟩
theorem CpV.setG {w : World} {v : Value} {b : Mach} {l : List Int} {dT : Bool} {vT : Value} {G : Nat} (h : CpV w v b l dT true vT (.pointer (some ⟨G, 0, none⟩))) (i : Nat) (u : Value) : CpV (w.setCell ⟨G, i, none⟩ u) v b l dT true vT (.pointer (some ⟨G, 0, none⟩)) := by
 obtain ⟨r, A, AF, n, c, nf, cf, lo, w9, h1, h2, h3, h4, h5, h6, h7⟩ := h
 obtain ⟨G', e, hG⟩ := h7 rfl
 injection e with e; injection e with e; injection e with e
 subst e
 exact ⟨r, A, AF, n, c, nf, cf, lo, w9, h1, h2, h3, by simpa using h4, fun k hk hl => (Below.heap_setCell w ⟨G, i, none⟩ u k (by show k ≠ G; omega)).trans (h5 k hk hl), h6, h7⟩
theorem tup_inj2 {a b c d : Value} (h : Value.tuple #[a, b] = .tuple #[c, d]) : a = c ∧ b = d := by
 injection h with h
 have h := congrArg Array.toList h
 simpa using h
theorem len_of_acc {m : Mach} (h : accF m = (0, 0)) : m.arcs.length ≤ 2000 := by
 have val := valid_of (accF_val h)
 exact val.len
theorem labsR_len (A : List Arc) : (labsR A).length ≤ A.length := by
 have key : ∀ (A : List Arc) (s : List Int), (A.foldl (fun s a => if a.i = 0 then s else insI a.i s) s).length ≤ s.length + A.length := by
  intro A
  induction A with
  | nil => intro s; simp
  | cons a A ih =>
   intro s
   rw [List.foldl_cons, List.length_cons]
   have h1 := ih (if a.i = 0 then s else insI a.i s)
   have h2 := insI_len a.i s
   by_cases e : a.i = 0
   · rw [if_pos e] at h1 ⊢; omega
   · rw [if_neg e] at h1 ⊢; omega
 have := key A []
 simpa [labsR] using this
set_option maxRecDepth 100000 in
set_option maxHeartbeats 32000000 in
theorem bslaw_any (v0 v1 : Value) (a b : Mach) (w : World) (hm : MachAt w w.heap.size v0 a) (hm' : MachAt w w.heap.size v1 b) :
 Calls Try.prog 13 #[v0, v1] w fun e w' => e = .returned (.bool true) ∧ Below w.heap.size w w' := by
 have HMA := hide hm
 have HMB := hide hm'
 obtain ⟨A1, AF1, n1, c1, nf1, cf1, rfl, _, _, _, _, _, _, _, _⟩ := hm
 obtain ⟨A2, AF2, n2, c2, nf2, cf2, rfl, _, _, _, _, _, _, _, _⟩ := hm'
 obtain ⟨sa, hsa⟩ : ∃ z, z = a.n := ⟨_, rfl⟩
 obtain ⟨sb, hsb⟩ : ∃ z, z = b.n := ⟨_, rfl⟩
 rw [← hsa] at HMA ⊢
 rw [← hsb] at HMB ⊢
 clear hsa hsb
 have he := fun a b c d W => run_neq_fault a b c d W
 go_enter Try.func13, Try.ntmps13
 go_upto_region 3 with (go_at_call 37; refine (combined_any _).mono ?_; rintro e w2 ⟨rfl, hb2⟩; have HB2 := hide hb2; clear hb2)
 obtain ⟨X, hX⟩ : ∃ z, z = w.heap.size := ⟨_, rfl⟩
 obtain ⟨Y, hY⟩ : ∃ z, z = w.heap.size + 1 := ⟨_, rfl⟩
 have bX := hide (((Blk.at_ (w := w) (g := X) (t := 28) (cs := #[.int .i64 sa, .slice A1 n1 c1, .slice AF1 nf1 cf1]) hX).alloc (.cells #[.int .i64 sb, .slice A2 n2 c2, .slice AF2 nf2 cf2] 28)).below HB2.out (by simp [hX] <;> omega))
 have bY := hide ((Blk.at_ (w := w.alloc (.cells #[.int .i64 sa, .slice A1 n1 c1, .slice AF1 nf1 cf1] 28)) (g := Y) (t := 28) (cs := #[.int .i64 sb, .slice A2 n2 c2, .slice AF2 nf2 cf2]) (by simp [hY])).below HB2.out (by simp [hY]))
 have HBW := hide (show Below w.heap.size w w2 from (((Below.refl _ _).alloc (Nat.le_refl _) _).alloc (by simp) _).trans (HB2.out.mono (by simp <;> omega)))
 replace HMA := hide ((HMA.out.below HBW.out (Nat.le_refl _)).mono HBW.out.size)
 replace HMB := hide ((HMB.out.below HBW.out (Nat.le_refl _)).mono HBW.out.size)
 simp only [← hY]
 try simp only [← hX]
 clear HB2 hX hY
 obtain ⟨p1, hp1⟩ : ∃ z, z = (accF a).1 := ⟨_, rfl⟩
 obtain ⟨p2, hp2⟩ : ∃ z, z = (accF a).2 := ⟨_, rfl⟩
 obtain ⟨q1, hq1⟩ : ∃ z, z = (accF b).1 := ⟨_, rfl⟩
 obtain ⟨q2, hq2⟩ : ∃ z, z = (accF b).2 := ⟨_, rfl⟩
 have HP1 := hide hp1
 have HP2 := hide hp2
 have HQ1 := hide hq1
 have HQ2 := hide hq2
 clear hp1 hp2 hq1 hq2
 have x0 := bX.out.cell 0
 have x1 := bX.out.cell 1
 have x2 := bX.out.cell 2
 simp at x0 x1 x2
 have lX := bX.out.lt
 obtain ⟨qa, hqa⟩ : ∃ q, q = fEq p1 p2 0 0 := ⟨_, rfl⟩
 cases qa
 ·
  have e3 : fEq p1 p2 0 0 = false := hqa.symm
  clear hqa
  go_wp2_with (go_at_call 24; with_reducible refine (accf_any (.agg #[.int .i64 sa, .slice A1 n1 c1, .slice AF1 nf1 cf1]) a w2 w2.heap.size (Nat.le_refl _) HMA.out).mono ?_; rintro e w3 ⟨rfl, hb3⟩; rw [← HP1.out, ← HP2.out]; have HB3 := hide hb3; have bY3 := hide (bY.out.below hb3 bY.out.lt); have y0 := bY3.out.cell 0; have y1 := bY3.out.cell 1; have y2 := bY3.out.cell 2; simp at y0 y1 y2; have lY3 := bY3.out.lt; have HMB3 := hide ((HMB.out.below hb3 (Nat.le_refl _)).mono hb3.size); clear hb3)
  exact bodyPost_ret (v := .bool true) (by simp [results, Try.results13, go_sem]) rfl ⟨rfl, HBW.out.trans (HB3.out.mono HBW.out.size)⟩
 ·
  have e3 : fEq p1 p2 0 0 = true := hqa.symm
  clear hqa
  have ZA := hide (show accF a = (0, 0) by have h := e3; rw [HP1.out, HP2.out] at h; exact fEq0A.1 h)
  obtain ⟨qb, hqb⟩ : ∃ q, q = fEq q1 q2 0 0 := ⟨_, rfl⟩
  cases qb
  ·
   have e4 : fEq q1 q2 0 0 = false := hqb.symm
   clear hqb
   go_wp2_with (first | (go_at_call 24; with_reducible refine (accf_any (.agg #[.int .i64 sa, .slice A1 n1 c1, .slice AF1 nf1 cf1]) a w2 w2.heap.size (Nat.le_refl _) HMA.out).mono ?_; rintro e w3 ⟨rfl, hb3⟩; rw [← HP1.out, ← HP2.out]; have HB3 := hide hb3; have bY3 := hide (bY.out.below hb3 bY.out.lt); have y0 := bY3.out.cell 0; have y1 := bY3.out.cell 1; have y2 := bY3.out.cell 2; simp at y0 y1 y2; have lY3 := bY3.out.lt; have HMB3 := hide ((HMB.out.below hb3 (Nat.le_refl _)).mono hb3.size); clear hb3) | (go_at_call 24; with_reducible refine (accf_any (.agg #[.int .i64 sb, .slice A2 n2 c2, .slice AF2 nf2 cf2]) b w3 w3.heap.size (Nat.le_refl _) HMB3.out).mono ?_; rintro e w4 ⟨rfl, hb4⟩; rw [← HQ1.out, ← HQ2.out]; have HB4 := hide (HB3.out.trans (hb4.mono HB3.out.size)); clear hb4))
   exact bodyPost_ret (v := .bool true) (by simp [results, Try.results13, go_sem]) rfl ⟨rfl, HBW.out.trans (HB4.out.mono HBW.out.size)⟩
  ·
   have e4 : fEq q1 q2 0 0 = true := hqb.symm
   clear hqb
   have ZB := hide (show accF b = (0, 0) by have h := e4; rw [HQ1.out, HQ2.out] at h; exact fEq0A.1 h)
   go_upto_region 5 with (first | (go_at_call 24; with_reducible refine (accf_any (.agg #[.int .i64 sa, .slice A1 n1 c1, .slice AF1 nf1 cf1]) a w2 w2.heap.size (Nat.le_refl _) HMA.out).mono ?_; rintro e w3 ⟨rfl, hb3⟩; rw [← HP1.out, ← HP2.out]; have HB3 := hide hb3; have bY3 := hide (bY.out.below hb3 bY.out.lt); have y0 := bY3.out.cell 0; have y1 := bY3.out.cell 1; have y2 := bY3.out.cell 2; simp at y0 y1 y2; have lY3 := bY3.out.lt; have HMB3 := hide ((HMB.out.below hb3 (Nat.le_refl _)).mono hb3.size); clear hb3) | (go_at_call 24; with_reducible refine (accf_any (.agg #[.int .i64 sb, .slice A2 n2 c2, .slice AF2 nf2 cf2]) b w3 w3.heap.size (Nat.le_refl _) HMB3.out).mono ?_; rintro e w4 ⟨rfl, hb4⟩; rw [← HQ1.out, ← HQ2.out]; have HB4 := hide (HB3.out.trans (hb4.mono HB3.out.size)); clear hb4))
   clear x0 x1 x2 lX y0 y1 y2 lY3 e3 e4 HP1 HP2 HQ1 HQ2
   replace bX := hide (bX.out.below HB4.out bX.out.lt)
   replace bY := hide (bY.out.below HB4.out bY.out.lt)
   replace HMA := hide ((HMA.out.below HB4.out (Nat.le_refl _)).mono HB4.out.size)
   replace HMB := hide ((HMB.out.below HB4.out (Nat.le_refl _)).mono HB4.out.size)
   replace HBW := hide (HBW.out.trans (HB4.out.mono HBW.out.size))
   clear HB3 HB4 bY3 HMB3
   have x0 := bX.out.cell 0
   have x1 := bX.out.cell 1
   have x2 := bX.out.cell 2
   simp at x0 x1 x2
   have lX := bX.out.lt
   have y0 := bY.out.cell 0
   have y1 := bY.out.cell 1
   have y2 := bY.out.cell 2
   simp at y0 y1 y2
   have lY := bY.out.lt
   go_upto_region 6 with (go_at_call 39; refine (subtr_any _ _ a b w4 _ (Nat.le_refl _) HMA.out HMB.out).mono ?_; rintro e w5 ⟨r5, v5, rfl, hr5, hm5, hb5⟩; obtain ⟨A5, n5, c5, AF5, nf5, cf5, rfl⟩ := agg_of hm5; have HR5 := hide hr5; have HN5 := hide hm5; have HB5 := hide hb5; clear hr5 hm5 hb5)
   clear x0 x1 x2 lX
   clear y0 y1 y2 lY
   generalize hW5 : World.alloc _ _ = W5
   obtain ⟨S, hS⟩ : ∃ z, z = w5.heap.size := ⟨_, rfl⟩
   obtain ⟨F, hF⟩ : ∃ z, z = w5.heap.size + 1 := ⟨_, rfl⟩
   have bS := hide (show Blk W5 S 28 #[.int .i64 r5.1.n, .slice A5 n5 c5, .slice AF5 nf5 cf5] by rw [← hW5]; exact (Blk.at_ hS).alloc _)
   have bF := hide (show Blk W5 F 30 #[.int .i64 r5.2.1, .int .i64 r5.2.2] by rw [← hW5]; exact Blk.at_ (by simp [hF]))
   have q5 := hide (show Below w5.heap.size w5 W5 by rw [← hW5]; go_grown)
   simp only [← hF]
   try simp only [← hS]
   have t5 := hide (HB5.out.trans (q5.out.mono HB5.out.size))
   replace bX := hide (bX.out.below t5.out bX.out.lt)
   replace bY := hide (bY.out.below t5.out bY.out.lt)
   replace HMA := hide ((HMA.out.below t5.out (Nat.le_refl _)).mono t5.out.size)
   replace HMB := hide ((HMB.out.below t5.out (Nat.le_refl _)).mono t5.out.size)
   replace HBW := hide (HBW.out.trans (t5.out.mono HBW.out.size))
   have MS := hide ((HN5.out.at_.below q5.out (Nat.le_refl _)).mono q5.out.size)
   clear HN5 HB5 q5 t5 hW5 hS hF
   obtain ⟨f5, hf5⟩ : ∃ z, z = r5.2.1 := ⟨_, rfl⟩
   obtain ⟨g5, hg5⟩ : ∃ z, z = r5.2.2 := ⟨_, rfl⟩
   have HE5 := hide (show r5.2 = (f5, g5) by rw [hf5, hg5])
   try simp only [← hf5, ← hg5]
   rw [← hf5, ← hg5] at bF
   clear hf5 hg5
   obtain ⟨t5, ht5⟩ : ∃ z, z = r5.1.n := ⟨_, rfl⟩
   try simp only [← ht5]
   rw [← ht5] at bS MS
   clear ht5
   have HLA := hide (len_of_acc ZA.out)
   have HLB := hide (len_of_acc ZB.out)
   obtain ⟨la, hla⟩ : ∃ z, z = labsR a.arcs := ⟨_, rfl⟩
   obtain ⟨lb, hlb⟩ : ∃ z, z = labsR b.arcs := ⟨_, rfl⟩
   have HLLA := hide hla
   have HLLB := hide hlb
   have HLN := hide (show la.length ≤ 2000 ∧ lb.length ≤ 2000 by have := labsR_len a.arcs; have := labsR_len b.arcs; have := HLA.out; have := HLB.out; rw [hla, hlb]; omega)
   clear hla hlb
   go_cut [7, 8] from 30 (fun s7 s8 wx => ∃ (T G : Nat) (r7 : Mach × (Int × Int)) (A7 AF7 : Option Addr) (n7 c7 nf7 cf7 : Nat), s7 = .pointer (some ⟨T, 0, none⟩) ∧ s8 = .pointer (some ⟨G, 0, none⟩) ∧ Hid (Blk wx T 28 #[.int .i64 r7.1.n, .slice A7 n7 c7, .slice AF7 nf7 cf7]) ∧ Hid (Blk wx G 30 #[.int .i64 r7.2.1, .int .i64 r7.2.2]) ∧ Hid (CmpR b (uniL la lb) r7) ∧ Hid (MachAt wx wx.heap.size (.agg #[.int .i64 r7.1.n, .slice A7 n7 c7, .slice AF7 nf7 cf7]) r7.1) ∧ Hid (Below W5.heap.size W5 wx))
   case first =>
    obtain ⟨F, hF⟩ : ∃ F : (Nat → Bool) → (Nat → Value) → World → Prop, F = fun l v wr =>
     Hid ((l 0 = true → v 0 = (.agg #[.int .i64 sb, .slice A2 n2 c2, .slice AF2 nf2 cf2]))) ∧
     Hid ((l 1 = true → v 1 = (.agg #[.int .i64 sa, .slice A1 n1 c1, .slice AF1 nf1 cf1]))) ∧
     Hid ((l 2 = true → l 6 = false → ∃ A c, v 2 = .slice A la.length c ∧ Nums wr wr.heap.size (.slice A la.length c) la)) ∧
     Hid ((l 3 = true → v 3 = (.agg #[.int .i64 sb, .slice A2 n2 c2, .slice AF2 nf2 cf2]))) ∧
     Hid ((l 4 = true → l 6 = false → ∃ A c, v 4 = .slice A lb.length c ∧ Nums wr wr.heap.size (.slice A lb.length c) lb)) ∧
     Hid ((l 5 = true → l 6 = false → ∃ A c, v 5 = .slice A (uniL la lb).length c ∧ Nums wr wr.heap.size (.slice A (uniL la lb).length c) (uniL la lb))) ∧
     Hid ((l 6 = true → CpV wr (v 6) b (uniL la lb) (l 10) (l 11) (v 10) (v 11))) ∧
     Hid ((l 7 = true → v 7 = v 6)) ∧
     Hid ((l 8 = true → ∃ z, v 6 = .tuple #[v 8, z])) ∧
     Hid ((l 9 = true → ∃ z, v 6 = .tuple #[z, v 9])) ∧
     Hid ((l 10 = true → ∃ T c0 c1 c2, v 10 = .pointer (some ⟨T, 0, none⟩) ∧ W5.heap.size ≤ T ∧ Blk wr T 28 #[c0, c1, c2] ∧ (l 12 = true → v 8 = .agg #[c0, c1, c2]))) ∧
     Hid ((l 11 = true → ∃ G c0 c1, v 11 = .pointer (some ⟨G, 0, none⟩) ∧ W5.heap.size ≤ G ∧ Blk wr G 30 #[c0, c1] ∧ (l 13 = true → v 9 = .agg #[c0, c1]))) ∧
     Hid (Below W5.heap.size W5 wr) := ⟨_, rfl⟩
    have HFD := hide hF
    clear hF
    refine wp_region_inv F (A := ?AR1) ?hA (by kernel_rfl) (by kernel_rfl) (by kernel_rfl) ?h0 ?hend ?hsteps
    case hA => intro v; simp only [putR, Act.put, List.setIfInBounds_toArray, List.set_cons_zero, List.set_cons_succ, Nat.reduceAdd, Nat.zero_add]; exact rfl
    case h0 =>
     intro v
     rw [HFD.out]
     exact ⟨hide (fun h => by exfalso; simp at h), hide (fun h => by exfalso; simp at h), hide (fun h => by exfalso; simp at h), hide (fun h => by exfalso; simp at h), hide (fun h => by exfalso; simp at h), hide (fun h => by exfalso; simp at h), hide (fun h => by exfalso; simp at h), hide (fun h => by exfalso; simp at h), hide (fun h => by exfalso; simp at h), hide (fun h => by exfalso; simp at h), hide (fun h => by exfalso; simp at h), hide (fun h => by exfalso; simp at h), hide ((Below.refl _ _).drew)⟩
    case hend =>
     intro l v wr hall hF
     rw [HFD.out] at hF
     obtain ⟨H0, H1, H2, H3, H4, H5, H6, H7, H8, H9, H10, H11, H12⟩ := hF
     have f0 := H0.out
     have f1 := H1.out
     have f2 := H2.out
     have f3 := H3.out
     have f4 := H4.out
     have f5 := H5.out
     have f6 := H6.out
     have f7 := H7.out
     have f8 := H8.out
     have f9 := H9.out
     have f10 := H10.out
     have f11 := H11.out
     have f12 := H12.out
     clear H0 H1 H2 H3 H4 H5 H6 H7 H8 H9 H10 H11 H12
     obtain ⟨z8, e8⟩ := f8 (hall 8 (by simp))
     obtain ⟨z9, e9⟩ := f9 (hall 9 (by simp))
     obtain ⟨T, a0, a1, a2, e10, _, hT, s12⟩ := f10 (hall 10 (by simp))
     obtain ⟨G, b0, b1, e11, _, hG, s13⟩ := f11 (hall 11 (by simp))
     obtain ⟨r, A9, AF9, n9, c9, nf9, cf9, lo, w9, e6, g2, g3, g4, g5, _, _⟩ := f6 (hall 6 (by simp))
     have s12 := s12 (hall 12 (by simp))
     have s13 := s13 (hall 13 (by simp))
     have t1 := (tup_inj2 (e6.symm.trans e8)).1
     have t2 := (tup_inj2 (e6.symm.trans e9)).2
     rw [s12] at t1
     rw [s13] at t2
     injection t1 with t1
     injection t2 with t2
     rw [← t1] at hT
     rw [← t2] at hG
     have HT := hide hT
     have HG := hide hG
     have HR := hide g2
     have HMM := hide (g3 wr g4 g5)
     have HE10 := hide e10
     have HE11 := hide e11
     have HB9 := hide f12
     clear f0 f1 f2 f3 f4 f5 f6 f7 f8 f9 f10 f11 f12 hall e8 e9 e10 e11 e6 g2 g3 g4 g5 s12 s13 t1 t2 hT hG
     go_wp2
     go_meet
     exact ⟨T, G, r, A9, AF9, n9, c9, nf9, cf9, HE10.out, HE11.out, HT, HG, HR, HMM, HB9⟩
    case hsteps =>
     refine StepsR.cons (n := 0) ?_ (StepsR.cons (n := 1) ?_ (StepsR.cons (n := 2) ?_ (StepsR.cons (n := 3) ?_ (StepsR.cons (n := 4) ?_ (StepsR.cons (n := 5) ?_ (StepsR.cons (n := 6) ?_ (StepsR.cons (n := 7) ?_ (StepsR.cons (n := 8) ?_ (StepsR.cons (n := 9) ?_ (StepsR.cons (n := 10) ?_ (StepsR.cons (n := 11) ?_ (StepsR.cons (n := 12) ?_ (StepsR.cons (n := 13) ?_ (trivial))))))))))))))
     ·
      intro l v wr hn hdep hcl hF K hK
      rw [HFD.out] at hF
      obtain ⟨H0, H1, H2, H3, H4, H5, H6, H7, H8, H9, H10, H11, H12⟩ := hF
      simp [Region.binds] at hdep
      have HCL := hide hcl
      have HN := hide hn
      clear hcl hn
      have bq := hide (bY.out.below H12.out bY.out.lt)
      have x0 := bq.out.cell 0
      have x1 := bq.out.cell 1
      have x2 := bq.out.cell 2
      simp at x0 x1 x2
      go_simp
      have hk := hK.out (.agg #[.int .i64 sb, .slice A2 n2 c2, .slice AF2 nf2 cf2]) wr (by
       rw [HFD.out]
       exact ⟨hide ((fun _ => rfl)), H1, H2, H3, H4, H5, H6, H7, H8, H9, H10, H11, H12⟩)
      simp only [Act.put, List.setIfInBounds_toArray, List.set_cons_zero, List.set_cons_succ] at hk
      exact hk
     ·
      intro l v wr hn hdep hcl hF K hK
      rw [HFD.out] at hF
      obtain ⟨H0, H1, H2, H3, H4, H5, H6, H7, H8, H9, H10, H11, H12⟩ := hF
      simp [Region.binds] at hdep
      have HCL := hide hcl
      have HN := hide hn
      clear hcl hn
      have bq := hide (bX.out.below H12.out bX.out.lt)
      have x0 := bq.out.cell 0
      have x1 := bq.out.cell 1
      have x2 := bq.out.cell 2
      simp at x0 x1 x2
      go_simp
      have hk := hK.out (.agg #[.int .i64 sa, .slice A1 n1 c1, .slice AF1 nf1 cf1]) wr (by
       rw [HFD.out]
       exact ⟨H0, hide ((fun _ => rfl)), H2, H3, H4, H5, H6, H7, H8, H9, H10, H11, H12⟩)
      simp only [Act.put, List.setIfInBounds_toArray, List.set_cons_zero, List.set_cons_succ] at hk
      exact hk
     ·
      intro l v wr hn hdep hcl hF K hK
      rw [HFD.out] at hF
      obtain ⟨H0, H1, H2, H3, H4, H5, H6, H7, H8, H9, H10, H11, H12⟩ := hF
      simp [Region.binds] at hdep
      have HCL := hide hcl
      have HN := hide hn
      clear hcl hn
      have e1 := H1.out (by simp [hdep])
      go_simp
      refine (labels_any _ a wr _ (Nat.le_refl _) ((HMA.out.below H12.out (Nat.le_refl _)).mono H12.out.size) (by have := HLA.out; omega)).mono ?_
      rintro e w9 ⟨A9, c9, rfl, ho9, hb9⟩
      rw [← HLLA.out] at ho9 ⊢
      have HU9 := hide (nums_own ho9 (by have := HLN.out; unfold big; omega))
      clear ho9
      have hk := hK.out (.slice A9 la.length c9) w9 (by
       rw [HFD.out]
       exact ⟨H0, H1, hide ((fun _ _ => ⟨A9, c9, rfl, HU9.out⟩)), H3, hide ((fun h h6 => by obtain ⟨A, c, z1, z2⟩ := H4.out h h6; exact ⟨A, c, z1, (z2.below hb9 (Nat.le_refl _)).mono (hb9).size⟩)), hide ((fun h h6 => by obtain ⟨A, c, z1, z2⟩ := H5.out h h6; exact ⟨A, c, z1, (z2.below hb9 (Nat.le_refl _)).mono (hb9).size⟩)), hide ((fun h => (H6.out h).below hb9)), H7, H8, H9, hide ((fun h => by obtain ⟨T, c0, c1, c2, z1, z2, z3, z4⟩ := H10.out h; exact ⟨T, c0, c1, c2, z1, z2, z3.below hb9 z3.lt, z4⟩)), hide ((fun h => by obtain ⟨T, c0, c1, z1, z2, z3, z4⟩ := H11.out h; exact ⟨T, c0, c1, z1, z2, z3.below hb9 z3.lt, z4⟩)), hide (H12.out.trans ((hb9).mono H12.out.size))⟩)
      simp only [Act.put, List.setIfInBounds_toArray, List.set_cons_zero, List.set_cons_succ] at hk
      simp only [e1] at hk
      exact hk
     ·
      intro l v wr hn hdep hcl hF K hK
      rw [HFD.out] at hF
      obtain ⟨H0, H1, H2, H3, H4, H5, H6, H7, H8, H9, H10, H11, H12⟩ := hF
      simp [Region.binds] at hdep
      have HCL := hide hcl
      have HN := hide hn
      clear hcl hn
      have bq := hide (bY.out.below H12.out bY.out.lt)
      have x0 := bq.out.cell 0
      have x1 := bq.out.cell 1
      have x2 := bq.out.cell 2
      simp at x0 x1 x2
      go_simp
      have hk := hK.out (.agg #[.int .i64 sb, .slice A2 n2 c2, .slice AF2 nf2 cf2]) wr (by
       rw [HFD.out]
       exact ⟨H0, H1, H2, hide ((fun _ => rfl)), H4, H5, H6, H7, H8, H9, H10, H11, H12⟩)
      simp only [Act.put, List.setIfInBounds_toArray, List.set_cons_zero, List.set_cons_succ] at hk
      exact hk
     ·
      intro l v wr hn hdep hcl hF K hK
      rw [HFD.out] at hF
      obtain ⟨H0, H1, H2, H3, H4, H5, H6, H7, H8, H9, H10, H11, H12⟩ := hF
      simp [Region.binds] at hdep
      have HCL := hide hcl
      have HN := hide hn
      clear hcl hn
      have e3 := H3.out (by simp [hdep])
      go_simp
      refine (labels_any _ b wr _ (Nat.le_refl _) ((HMB.out.below H12.out (Nat.le_refl _)).mono H12.out.size) (by have := HLB.out; omega)).mono ?_
      rintro e w9 ⟨A9, c9, rfl, ho9, hb9⟩
      rw [← HLLB.out] at ho9 ⊢
      have HU9 := hide (nums_own ho9 (by have := HLN.out; unfold big; omega))
      clear ho9
      have hk := hK.out (.slice A9 lb.length c9) w9 (by
       rw [HFD.out]
       exact ⟨H0, H1, hide ((fun h h6 => by obtain ⟨A, c, z1, z2⟩ := H2.out h h6; exact ⟨A, c, z1, (z2.below hb9 (Nat.le_refl _)).mono (hb9).size⟩)), H3, hide ((fun _ _ => ⟨A9, c9, rfl, HU9.out⟩)), hide ((fun h h6 => by obtain ⟨A, c, z1, z2⟩ := H5.out h h6; exact ⟨A, c, z1, (z2.below hb9 (Nat.le_refl _)).mono (hb9).size⟩)), hide ((fun h => (H6.out h).below hb9)), H7, H8, H9, hide ((fun h => by obtain ⟨T, c0, c1, c2, z1, z2, z3, z4⟩ := H10.out h; exact ⟨T, c0, c1, c2, z1, z2, z3.below hb9 z3.lt, z4⟩)), hide ((fun h => by obtain ⟨T, c0, c1, z1, z2, z3, z4⟩ := H11.out h; exact ⟨T, c0, c1, z1, z2, z3.below hb9 z3.lt, z4⟩)), hide (H12.out.trans ((hb9).mono H12.out.size))⟩)
      simp only [Act.put, List.setIfInBounds_toArray, List.set_cons_zero, List.set_cons_succ] at hk
      simp only [e3] at hk
      exact hk
     ·
      intro l v wr hn hdep hcl hF K hK
      rw [HFD.out] at hF
      obtain ⟨H0, H1, H2, H3, H4, H5, H6, H7, H8, H9, H10, H11, H12⟩ := hF
      simp [Region.binds] at hdep
      have HCL := hide hcl
      have HN := hide hn
      clear hcl hn
      have h6 : l 6 = false := (by cases g : l 6 with | false => rfl | true => exact absurd (HCL.out 6 _ rfl g ⟨5, .data⟩ (by simp) rfl) (by rw [HN.out]; decide))
      obtain ⟨A8, c8, e2, hn2⟩ := H2.out (by simp [hdep]) h6
      obtain ⟨A7, c7, e4, hn4⟩ := H4.out (by simp [hdep]) h6
      have HN2 := hide hn2
      have HN4 := hide hn4
      clear hdep h6 hn2 hn4
      go_simp
      refine (union2_any _ _ la lb wr _ (Nat.le_refl _) HN2.out HN4.out (by have := HLN.out; omega)).mono ?_
      rintro e w9 ⟨A9, c9, rfl, ho9, hb9⟩
      have HU9 := hide (nums_own ho9 (by have := HLN.out; have := uniL_len la lb; unfold big; omega))
      clear ho9
      have hk := hK.out (.slice A9 (uniL la lb).length c9) w9 (by
       rw [HFD.out]
       exact ⟨H0, H1, hide ((fun h h6 => by obtain ⟨A, c, z1, z2⟩ := H2.out h h6; exact ⟨A, c, z1, (z2.below hb9 (Nat.le_refl _)).mono (hb9).size⟩)), H3, hide ((fun h h6 => by obtain ⟨A, c, z1, z2⟩ := H4.out h h6; exact ⟨A, c, z1, (z2.below hb9 (Nat.le_refl _)).mono (hb9).size⟩)), hide ((fun _ _ => ⟨A9, c9, rfl, HU9.out⟩)), hide ((fun h => (H6.out h).below hb9)), H7, H8, H9, hide ((fun h => by obtain ⟨T, c0, c1, c2, z1, z2, z3, z4⟩ := H10.out h; exact ⟨T, c0, c1, c2, z1, z2, z3.below hb9 z3.lt, z4⟩)), hide ((fun h => by obtain ⟨T, c0, c1, z1, z2, z3, z4⟩ := H11.out h; exact ⟨T, c0, c1, z1, z2, z3.below hb9 z3.lt, z4⟩)), hide (H12.out.trans ((hb9).mono H12.out.size))⟩)
      simp only [Act.put, List.setIfInBounds_toArray, List.set_cons_zero, List.set_cons_succ] at hk
      simp only [e2, e4] at hk
      exact hk
     ·
      intro l v wr hn hdep hcl hF K hK
      rw [HFD.out] at hF
      obtain ⟨H0, H1, H2, H3, H4, H5, H6, H7, H8, H9, H10, H11, H12⟩ := hF
      simp [Region.binds] at hdep
      have HCL := hide hcl
      have HN := hide hn
      clear hcl hn
      have e0 := H0.out (by simp [hdep])
      have h6 := HN.out
      obtain ⟨A8, c8, e5, hn5⟩ := H5.out (by simp [hdep]) h6
      have HN5 := hide hn5
      clear hdep h6 hn5
      go_simp
      refine (compl_any _ _ b (uniL la lb) wr _ (Nat.le_refl _) ((HMB.out.below H12.out (Nat.le_refl _)).mono H12.out.size) HN5.out).mono ?_
      rintro e w9 ⟨r, v9, rfl, hr9, hm9, hb9⟩
      obtain ⟨A9, n9, c9, AF9, nf9, cf9, rfl⟩ := agg_of hm9
      have hk := hK.out (.tuple #[.agg #[.int .i64 r.1.n, .slice A9 n9 c9, .slice AF9 nf9 cf9], .agg #[.int .i64 r.2.1, .int .i64 r.2.2]]) w9 (by
       rw [HFD.out]
       exact ⟨H0, H1, hide ((fun _ h => absurd h (by simp [updR]))), H3, hide ((fun _ h => absurd h (by simp [updR]))), hide ((fun _ h => absurd h (by simp [updR]))), hide ((fun _ => ⟨r, A9, AF9, n9, c9, nf9, cf9, wr.heap.size, w9, rfl, hr9, hm9, Nat.le_refl _, fun _ _ _ => rfl, fun h => by obtain ⟨T, c0, c1, c2, z1, z2, z3, z4⟩ := H10.out h; exact ⟨T, z1, .inl z3.lt⟩, fun h => by obtain ⟨T, c0, c1, z1, z2, z3, z4⟩ := H11.out h; exact ⟨T, z1, .inl z3.lt⟩⟩)), hide ((fun h => absurd (HCL.out 7 _ rfl h ⟨6, .data⟩ (by simp) rfl) (by rw [HN.out]; decide))), hide ((fun h => absurd (HCL.out 7 _ rfl (HCL.out 8 _ rfl h ⟨7, .data⟩ (by simp) rfl) ⟨6, .data⟩ (by simp) rfl) (by rw [HN.out]; decide))), hide ((fun h => absurd (HCL.out 7 _ rfl (HCL.out 9 _ rfl h ⟨7, .data⟩ (by simp) rfl) ⟨6, .data⟩ (by simp) rfl) (by rw [HN.out]; decide))), hide ((fun h => by obtain ⟨T, c0, c1, c2, z1, z2, z3, z4⟩ := H10.out h; exact ⟨T, c0, c1, c2, z1, z2, z3.below hb9 z3.lt, z4⟩)), hide ((fun h => by obtain ⟨T, c0, c1, z1, z2, z3, z4⟩ := H11.out h; exact ⟨T, c0, c1, z1, z2, z3.below hb9 z3.lt, z4⟩)), hide (H12.out.trans ((hb9).mono H12.out.size))⟩)
      simp only [Act.put, List.setIfInBounds_toArray, List.set_cons_zero, List.set_cons_succ] at hk
      simp only [e0] at hk
      simp only [e5] at hk
      exact hk
     ·
      intro l v wr hn hdep hcl hF K hK
      rw [HFD.out] at hF
      obtain ⟨H0, H1, H2, H3, H4, H5, H6, H7, H8, H9, H10, H11, H12⟩ := hF
      simp [Region.binds] at hdep
      have HCL := hide hcl
      have HN := hide hn
      clear hcl hn
      obtain ⟨r, A9, AF9, n9, c9, nf9, cf9, lo, w9, e6, z2, z3, z4, z5, z6, z7⟩ := H6.out (by simp [hdep])
      clear z2 z3 z4 z5 z6 z7
      go_simp
      have hk := hK.out (.tuple #[.agg #[.int .i64 r.1.n, .slice A9 n9 c9, .slice AF9 nf9 cf9], .agg #[.int .i64 r.2.1, .int .i64 r.2.2]]) wr (by
       rw [HFD.out]
       exact ⟨H0, H1, H2, H3, H4, H5, H6, hide ((fun _ => e6.symm)), hide ((fun h => absurd (HCL.out 8 _ rfl h ⟨7, .data⟩ (by simp) rfl) (by rw [HN.out]; decide))), hide ((fun h => absurd (HCL.out 9 _ rfl h ⟨7, .data⟩ (by simp) rfl) (by rw [HN.out]; decide))), H10, H11, H12⟩)
      simp only [Act.put, List.setIfInBounds_toArray, List.set_cons_zero, List.set_cons_succ] at hk
      simp only [e6] at hk
      exact hk
     ·
      intro l v wr hn hdep hcl hF K hK
      rw [HFD.out] at hF
      obtain ⟨H0, H1, H2, H3, H4, H5, H6, H7, H8, H9, H10, H11, H12⟩ := hF
      simp [Region.binds] at hdep
      have HCL := hide hcl
      have HN := hide hn
      clear hcl hn
      obtain ⟨r, A9, AF9, n9, c9, nf9, cf9, lo, w9, e6, z2, z3, z4, z5, z6, z7⟩ := H6.out (HCL.out 7 _ rfl (by simp [hdep]) ⟨6, .data⟩ (by simp) rfl)
      clear z2 z3 z4 z5 z6 z7
      have e7 := (H7.out (by simp [hdep])).trans e6
      have E6 := hide e6
      clear e6
      go_simp
      have hk := hK.out (.agg #[.int .i64 r.1.n, .slice A9 n9 c9, .slice AF9 nf9 cf9]) wr (by
       rw [HFD.out]
       exact ⟨H0, H1, H2, H3, H4, H5, H6, H7, hide ((fun _ => ⟨_, E6.out⟩)), H9, hide ((fun h => by obtain ⟨T, c0, c1, c2, z1, z2, z3, z4⟩ := H10.out h; exact ⟨T, c0, c1, c2, z1, z2, z3, fun h => absurd (HCL.out 12 _ rfl h ⟨8, .data⟩ (by simp) rfl) (by rw [HN.out]; decide)⟩)), H11, H12⟩)
      simp only [Act.put, List.setIfInBounds_toArray, List.set_cons_zero, List.set_cons_succ] at hk
      simp only [e7] at hk
      exact hk
     ·
      intro l v wr hn hdep hcl hF K hK
      rw [HFD.out] at hF
      obtain ⟨H0, H1, H2, H3, H4, H5, H6, H7, H8, H9, H10, H11, H12⟩ := hF
      simp [Region.binds] at hdep
      have HCL := hide hcl
      have HN := hide hn
      clear hcl hn
      obtain ⟨r, A9, AF9, n9, c9, nf9, cf9, lo, w9, e6, z2, z3, z4, z5, z6, z7⟩ := H6.out (HCL.out 7 _ rfl (by simp [hdep]) ⟨6, .data⟩ (by simp) rfl)
      clear z2 z3 z4 z5 z6 z7
      have e7 := (H7.out (by simp [hdep])).trans e6
      have E6 := hide e6
      clear e6
      go_simp
      have hk := hK.out (.agg #[.int .i64 r.2.1, .int .i64 r.2.2]) wr (by
       rw [HFD.out]
       exact ⟨H0, H1, H2, H3, H4, H5, H6, H7, H8, hide ((fun _ => ⟨_, E6.out⟩)), H10, hide ((fun h => by obtain ⟨T, c0, c1, z1, z2, z3, z4⟩ := H11.out h; exact ⟨T, c0, c1, z1, z2, z3, fun h => absurd (HCL.out 13 _ rfl h ⟨9, .data⟩ (by simp) rfl) (by rw [HN.out]; decide)⟩)), H12⟩)
      simp only [Act.put, List.setIfInBounds_toArray, List.set_cons_zero, List.set_cons_succ] at hk
      simp only [e7] at hk
      exact hk
     ·
      intro l v wr hn hdep hcl hF K hK
      rw [HFD.out] at hF
      obtain ⟨H0, H1, H2, H3, H4, H5, H6, H7, H8, H9, H10, H11, H12⟩ := hF
      simp [Region.binds] at hdep
      have HCL := hide hcl
      have HN := hide hn
      clear hcl hn
      have HBA := hide (show Below wr.heap.size wr (wr.alloc (.cells #[.int .i64 0, .slice none 0 0, .slice none 0 0] 28)) from (Below.refl _ _).alloc (Nat.le_refl _) _)
      go_simp
      have hk := hK.out (.pointer (some ⟨wr.heap.size, 0, none⟩)) (wr.alloc (.cells #[.int .i64 0, .slice none 0 0, .slice none 0 0] 28)) (by
       rw [HFD.out]
       exact ⟨H0, H1, hide ((fun h h6 => by obtain ⟨A, c, z1, z2⟩ := H2.out h h6; exact ⟨A, c, z1, (z2.below HBA.out (Nat.le_refl _)).mono (HBA.out).size⟩)), H3, hide ((fun h h6 => by obtain ⟨A, c, z1, z2⟩ := H4.out h h6; exact ⟨A, c, z1, (z2.below HBA.out (Nat.le_refl _)).mono (HBA.out).size⟩)), hide ((fun h h6 => by obtain ⟨A, c, z1, z2⟩ := H5.out h h6; exact ⟨A, c, z1, (z2.below HBA.out (Nat.le_refl _)).mono (HBA.out).size⟩)), hide ((fun h => by have hz := (H6.out h); obtain ⟨r', A', AF', n', c', nf', cf', lo', w9', k1, k2, k3, k4, k5, k6, k7⟩ := hz; exact ⟨r', A', AF', n', c', nf', cf', lo', w9', k1, k2, k3, (by have := HBA.out.size; omega), fun q hq hl => (HBA.out.block q (by omega)).trans (k5 q hq hl), fun _ => ⟨wr.heap.size, rfl, .inr k4⟩, k7⟩)), H7, H8, H9, hide ((fun _ => ⟨wr.heap.size, _, _, _, rfl, H12.out.size, Blk.at_ rfl, (fun h => absurd (HCL.out 12 _ rfl h ⟨10, .data⟩ (by simp) rfl) (by rw [HN.out]; decide))⟩)), hide ((fun h => by obtain ⟨T, c0, c1, z1, z2, z3, z4⟩ := H11.out h; exact ⟨T, c0, c1, z1, z2, z3.below HBA.out z3.lt, z4⟩)), hide (H12.out.trans ((HBA.out).mono H12.out.size))⟩)
      simp only [Act.put, List.setIfInBounds_toArray, List.set_cons_zero, List.set_cons_succ] at hk
      exact hk
     ·
      intro l v wr hn hdep hcl hF K hK
      rw [HFD.out] at hF
      obtain ⟨H0, H1, H2, H3, H4, H5, H6, H7, H8, H9, H10, H11, H12⟩ := hF
      simp [Region.binds] at hdep
      have HCL := hide hcl
      have HN := hide hn
      clear hcl hn
      have HBA := hide (show Below wr.heap.size wr (wr.alloc (.cells #[.int .i64 0, .int .i64 0] 30)) from (Below.refl _ _).alloc (Nat.le_refl _) _)
      go_simp
      have hk := hK.out (.pointer (some ⟨wr.heap.size, 0, none⟩)) (wr.alloc (.cells #[.int .i64 0, .int .i64 0] 30)) (by
       rw [HFD.out]
       exact ⟨H0, H1, hide ((fun h h6 => by obtain ⟨A, c, z1, z2⟩ := H2.out h h6; exact ⟨A, c, z1, (z2.below HBA.out (Nat.le_refl _)).mono (HBA.out).size⟩)), H3, hide ((fun h h6 => by obtain ⟨A, c, z1, z2⟩ := H4.out h h6; exact ⟨A, c, z1, (z2.below HBA.out (Nat.le_refl _)).mono (HBA.out).size⟩)), hide ((fun h h6 => by obtain ⟨A, c, z1, z2⟩ := H5.out h h6; exact ⟨A, c, z1, (z2.below HBA.out (Nat.le_refl _)).mono (HBA.out).size⟩)), hide ((fun h => by obtain ⟨r', A', AF', n', c', nf', cf', lo', w9', k1, k2, k3, k4, k5, k6, k7⟩ := H6.out h; exact ⟨r', A', AF', n', c', nf', cf', lo', w9', k1, k2, k3, (by have := HBA.out.size; omega), fun q hq hl => (HBA.out.block q (by omega)).trans (k5 q hq hl), k6, fun _ => ⟨wr.heap.size, rfl, .inr k4⟩⟩)), H7, H8, H9, hide ((fun h => by obtain ⟨T, c0, c1, c2, z1, z2, z3, z4⟩ := H10.out h; exact ⟨T, c0, c1, c2, z1, z2, z3.below HBA.out z3.lt, z4⟩)), hide ((fun _ => ⟨wr.heap.size, _, _, rfl, H12.out.size, Blk.at_ rfl, (fun h => absurd (HCL.out 13 _ rfl h ⟨11, .data⟩ (by simp) rfl) (by rw [HN.out]; decide))⟩)), hide (H12.out.trans ((HBA.out).mono H12.out.size))⟩)
      simp only [Act.put, List.setIfInBounds_toArray, List.set_cons_zero, List.set_cons_succ] at hk
      exact hk
     ·
      intro l v wr hn hdep hcl hF K hK
      rw [HFD.out] at hF
      obtain ⟨H0, H1, H2, H3, H4, H5, H6, H7, H8, H9, H10, H11, H12⟩ := hF
      simp [Region.binds] at hdep
      have HCL := hide hcl
      have HN := hide hn
      clear hcl hn
      have d6 : l 6 = true := HCL.out 7 _ rfl (HCL.out 8 _ rfl (by simp [hdep]) ⟨7, .data⟩ (by simp) rfl) ⟨6, .data⟩ (by simp) rfl
      have da : l 10 = true := by simp [hdep]
      have HD6 := hide d6
      have HC6 := hide (H6.out d6)
      obtain ⟨r, A9, AF9, n9, c9, nf9, cf9, lo, w9, e6, z2, z3, z4, z5, z6, z7⟩ := H6.out d6
      clear z2 z3 z4 z5 z6 z7
      obtain ⟨z, e80⟩ := H8.out (by simp [hdep])
      obtain ⟨t6, t7⟩ := tup_inj2 (e6.symm.trans e80)
      have E8 := hide t6.symm
      obtain ⟨T, b0, b1, b2, e10, hT, hblk, _⟩ := H10.out da
      have HDA := hide da
      have x0 := hblk.cell 0
      have xf0 := hblk.frozen 0
      have x1 := hblk.cell 1
      have xf1 := hblk.frozen 1
      have x2 := hblk.cell 2
      have xf2 := hblk.frozen 2
      simp at x0 x1 x2
      have lg := hblk.lt
      have HBK := hide hblk
      have HT := hide hT
      have HE10 := hide e10
      have e8 := E8.out
      clear hdep d6 da hblk hT t6 t7 e6 e80
      go_simp
      have hk := hK.out undef (((wr.setCell ⟨T, 0, none⟩ (.int .i64 r.1.n)).setCell ⟨T, 1, none⟩ (.slice A9 n9 c9)).setCell ⟨T, 2, none⟩ (.slice AF9 nf9 cf9)) (by
       rw [HFD.out]
       exact ⟨H0, H1, hide ((fun _ h => absurd HD6.out (by rw [show l 6 = false from h]; decide))), H3, hide ((fun _ h => absurd HD6.out (by rw [show l 6 = false from h]; decide))), hide ((fun _ h => absurd HD6.out (by rw [show l 6 = false from h]; decide))), hide ((fun _ => by have h := (((((by have h := HC6.out; rw [HDA.out, HE10.out] at h; exact h) : CpV _ _ _ _ true _ _ _).setT 0 (.int .i64 r.1.n)).setT 1 (.slice A9 n9 c9)).setT 2 (.slice AF9 nf9 cf9)); rw [show updR l 12 true 10 = l 10 from rfl, show updR l 12 true 11 = l 11 from rfl, show updR v 12 undef 10 = v 10 from rfl, show updR v 12 undef 11 = v 11 from rfl, HDA.out, HE10.out]; exact h)), H7, H8, H9, hide ((fun _ => ⟨T, _, _, _, HE10.out, HT.out, (((HBK.out.set_ 0 _).set_ 1 _).set_ 2 _), fun _ => E8.out⟩)), hide ((fun h => by obtain ⟨T2, c0, c1, z1, z2, z3, z4⟩ := H11.out h; have hne : T2 ≠ T := Blk.ne_ z3 HBK.out (by decide); exact ⟨T2, c0, c1, z1, z2, (((z3.far (p := ⟨T, 0, none⟩) hne _).far (p := ⟨T, 1, none⟩) hne _).far (p := ⟨T, 2, none⟩) hne _), z4⟩)), hide ((((H12.out.setCell (p := ⟨T, 0, none⟩) (by exact HT.out) _).setCell (p := ⟨T, 1, none⟩) (by exact HT.out) _).setCell (p := ⟨T, 2, none⟩) (by exact HT.out) _))⟩)
      simp only [Act.put, List.setIfInBounds_toArray, List.set_cons_zero, List.set_cons_succ] at hk
      simp only [e8, e10] at hk
      exact hk
     ·
      intro l v wr hn hdep hcl hF K hK
      rw [HFD.out] at hF
      obtain ⟨H0, H1, H2, H3, H4, H5, H6, H7, H8, H9, H10, H11, H12⟩ := hF
      simp [Region.binds] at hdep
      have HCL := hide hcl
      have HN := hide hn
      clear hcl hn
      have d6 : l 6 = true := HCL.out 7 _ rfl (HCL.out 9 _ rfl (by simp [hdep]) ⟨7, .data⟩ (by simp) rfl) ⟨6, .data⟩ (by simp) rfl
      have da : l 11 = true := by simp [hdep]
      have HD6 := hide d6
      have HC6 := hide (H6.out d6)
      obtain ⟨r, A9, AF9, n9, c9, nf9, cf9, lo, w9, e6, z2, z3, z4, z5, z6, z7⟩ := H6.out d6
      clear z2 z3 z4 z5 z6 z7
      obtain ⟨z, e80⟩ := H9.out (by simp [hdep])
      obtain ⟨t6, t7⟩ := tup_inj2 (e6.symm.trans e80)
      have E8 := hide t7.symm
      obtain ⟨T, b0, b1, e10, hT, hblk, _⟩ := H11.out da
      have HDA := hide da
      have x0 := hblk.cell 0
      have xf0 := hblk.frozen 0
      have x1 := hblk.cell 1
      have xf1 := hblk.frozen 1
      simp at x0 x1
      have lg := hblk.lt
      have HBK := hide hblk
      have HT := hide hT
      have HE10 := hide e10
      have e8 := E8.out
      clear hdep d6 da hblk hT t6 t7 e6 e80
      go_simp
      have hk := hK.out undef ((wr.setCell ⟨T, 0, none⟩ (.int .i64 r.2.1)).setCell ⟨T, 1, none⟩ (.int .i64 r.2.2)) (by
       rw [HFD.out]
       exact ⟨H0, H1, hide ((fun _ h => absurd HD6.out (by rw [show l 6 = false from h]; decide))), H3, hide ((fun _ h => absurd HD6.out (by rw [show l 6 = false from h]; decide))), hide ((fun _ h => absurd HD6.out (by rw [show l 6 = false from h]; decide))), hide ((fun _ => by have h := ((((by have h := HC6.out; rw [HDA.out, HE10.out] at h; exact h) : CpV _ _ _ _ _ true _ _).setG 0 (.int .i64 r.2.1)).setG 1 (.int .i64 r.2.2)); rw [show updR l 13 true 10 = l 10 from rfl, show updR l 13 true 11 = l 11 from rfl, show updR v 13 undef 10 = v 10 from rfl, show updR v 13 undef 11 = v 11 from rfl, HDA.out, HE10.out]; exact h)), H7, H8, H9, hide ((fun h => by obtain ⟨T2, c0, c1, c2, z1, z2, z3, z4⟩ := H10.out h; have hne : T2 ≠ T := Blk.ne_ z3 HBK.out (by decide); exact ⟨T2, c0, c1, c2, z1, z2, ((z3.far (p := ⟨T, 0, none⟩) hne _).far (p := ⟨T, 1, none⟩) hne _), z4⟩)), hide ((fun _ => ⟨T, _, _, HE10.out, HT.out, ((HBK.out.set_ 0 _).set_ 1 _), fun _ => E8.out⟩)), hide (((H12.out.setCell (p := ⟨T, 0, none⟩) (by exact HT.out) _).setCell (p := ⟨T, 1, none⟩) (by exact HT.out) _))⟩)
      simp only [Act.put, List.setIfInBounds_toArray, List.set_cons_zero, List.set_cons_succ] at hk
      simp only [e8, e10] at hk
      exact hk
   case rest =>
    obtain ⟨T, G, r7, A7, AF7, n7, c7, nf7, cf7, rfl, rfl, bT, bG, HR7, MT, HB6⟩ := hcut
    obtain ⟨W6, hW6⟩ : ∃ z, z = wc := ⟨_, rfl⟩
    rw [← hW6] at bT bG MT HB6 ⊢
    clear hW6
    replace bX := hide (bX.out.below HB6.out bX.out.lt)
    replace bS := hide (bS.out.below HB6.out bS.out.lt)
    replace bF := hide (bF.out.below HB6.out bF.out.lt)
    replace MS := hide ((MS.out.below HB6.out (Nat.le_refl _)).mono HB6.out.size)
    replace HMA := hide ((HMA.out.below HB6.out (Nat.le_refl _)).mono HB6.out.size)
    replace HMB := hide ((HMB.out.below HB6.out (Nat.le_refl _)).mono HB6.out.size)
    replace HBW := hide (HBW.out.trans (HB6.out.mono HBW.out.size))
    clear HB6 bY
    obtain ⟨f7, hf7⟩ : ∃ z, z = r7.2.1 := ⟨_, rfl⟩
    obtain ⟨g7, hg7⟩ : ∃ z, z = r7.2.2 := ⟨_, rfl⟩
    have HE7 := hide (show r7.2 = (f7, g7) by rw [hf7, hg7])
    try simp only [← hf7, ← hg7]
    rw [← hf7, ← hg7] at bG
    clear hf7 hg7
    obtain ⟨t7, ht7⟩ : ∃ z, z = r7.1.n := ⟨_, rfl⟩
    try simp only [← ht7]
    rw [← ht7] at bT MT
    clear ht7
    have yF0 := bF.out.cell 0
    have yF1 := bF.out.cell 1
    have yG0 := bG.out.cell 0
    have yG1 := bG.out.cell 1
    simp at yF0 yF1 yG0 yG1
    have lF := bF.out.lt
    have lG := bG.out.lt
    obtain ⟨qf, hqf⟩ : ∃ q, q = fEq f5 g5 0 0 := ⟨_, rfl⟩
    cases qf
    ·
     have e5 : fEq f5 g5 0 0 = false := hqf.symm
     clear hqf HR5 HR7
     go_wp2
     exact bodyPost_ret (v := .bool true) (by simp [results, Try.results13, go_sem]) rfl ⟨rfl, HBW.out⟩
    ·
     have e5 : fEq f5 g5 0 0 = true := hqf.symm
     clear hqf
     obtain ⟨qg, hqg⟩ : ∃ q, q = fEq f7 g7 0 0 := ⟨_, rfl⟩
     cases qg
     ·
      have e7 : fEq f7 g7 0 0 = false := hqg.symm
      clear hqg HR5 HR7
      go_wp2
      exact bodyPost_ret (v := .bool true) (by simp [results, Try.results13, go_sem]) rfl ⟨rfl, HBW.out⟩
     ·
      have e7 : fEq f7 g7 0 0 = true := hqg.symm
      clear hqg
      have Z5 := hide (show r5.2 = (0, 0) by rw [HE5.out]; exact fEq0A.1 e5)
      have Z7 := hide (show r7.2 = (0, 0) by rw [HE7.out]; exact fEq0A.1 e7)
      go_upto_region 9 with fail
      clear yF0 yF1 yG0 yG1 lF lG e5 e7 bF bG HE5 HE7
      have x0 := bX.out.cell 0
      have x1 := bX.out.cell 1
      have x2 := bX.out.cell 2
      simp at x0 x1 x2
      have lX := bX.out.lt
      have y0 := bT.out.cell 0
      have y1 := bT.out.cell 1
      have y2 := bT.out.cell 2
      simp at y0 y1 y2
      have lT := bT.out.lt
      go_upto_region 10 with (go_at_call 38; refine (inter_any _ _ a r7.1 W6 _ (Nat.le_refl _) HMA.out MT.out).mono ?_; rintro e w9 ⟨r9, v9, rfl, hr9, hm9, hb9⟩; obtain ⟨A9, n9, c9, AF9, nf9, cf9, rfl⟩ := agg_of hm9; have HR9 := hide hr9; have HN9 := hide hm9; have HB9 := hide hb9; clear hr9 hm9 hb9)
      clear x0 x1 x2 lX
      clear y0 y1 y2 lT
      generalize hW9 : World.alloc _ _ = W9
      obtain ⟨U, hU⟩ : ∃ z, z = w9.heap.size := ⟨_, rfl⟩
      obtain ⟨H, hH⟩ : ∃ z, z = w9.heap.size + 1 := ⟨_, rfl⟩
      have bU := hide (show Blk W9 U 28 #[.int .i64 r9.1.n, .slice A9 n9 c9, .slice AF9 nf9 cf9] by rw [← hW9]; exact (Blk.at_ hU).alloc _)
      have bH := hide (show Blk W9 H 30 #[.int .i64 r9.2.1, .int .i64 r9.2.2] by rw [← hW9]; exact Blk.at_ (by simp [hH]))
      have q9 := hide (show Below w9.heap.size w9 W9 by rw [← hW9]; go_grown)
      simp only [← hH]
      try simp only [← hU]
      have t9 := hide (HB9.out.trans (q9.out.mono HB9.out.size))
      replace bX := hide (bX.out.below t9.out bX.out.lt)
      replace bS := hide (bS.out.below t9.out bS.out.lt)
      replace MS := hide ((MS.out.below t9.out (Nat.le_refl _)).mono t9.out.size)
      replace HMA := hide ((HMA.out.below t9.out (Nat.le_refl _)).mono t9.out.size)
      replace HMB := hide ((HMB.out.below t9.out (Nat.le_refl _)).mono t9.out.size)
      replace HBW := hide (HBW.out.trans (t9.out.mono HBW.out.size))
      have MU := hide ((HN9.out.at_.below q9.out (Nat.le_refl _)).mono q9.out.size)
      clear HN9 HB9 q9 t9 hW9 hU hH
      obtain ⟨f9, hf9⟩ : ∃ z, z = r9.2.1 := ⟨_, rfl⟩
      obtain ⟨g9, hg9⟩ : ∃ z, z = r9.2.2 := ⟨_, rfl⟩
      have HE9 := hide (show r9.2 = (f9, g9) by rw [hf9, hg9])
      try simp only [← hf9, ← hg9]
      rw [← hf9, ← hg9] at bH
      clear hf9 hg9
      obtain ⟨t9, ht9⟩ : ∃ z, z = r9.1.n := ⟨_, rfl⟩
      try simp only [← ht9]
      rw [← ht9] at bU MU
      clear ht9
      have yH0 := bH.out.cell 0
      have yH1 := bH.out.cell 1
      simp at yH0 yH1
      have lH := bH.out.lt
      obtain ⟨qh, hqh⟩ : ∃ q, q = fEq f9 g9 0 0 := ⟨_, rfl⟩
      cases qh
      ·
       have e9 : fEq f9 g9 0 0 = false := hqh.symm
       clear hqh HR5 HR7 HR9
       go_wp2
       exact bodyPost_ret (v := .bool true) (by simp [results, Try.results13, go_sem]) rfl ⟨rfl, HBW.out⟩
      ·
       have e9 : fEq f9 g9 0 0 = true := hqh.symm
       clear hqh
       have Z9 := hide (show r9.2 = (0, 0) by rw [HE9.out]; exact fEq0A.1 e9)
       have HEQ := hide (show r5.1 = r9.1 from sub_is_int HR5.out Z5.out (cmpR_res HR7.out Z7.out).2.2.2.2 (fun w hw x hx => uniL_mem.2 (.inl (by rw [HLLA.out]; exact bA_labs hw x hx))) HR9.out Z9.out)
       have HDL := hide (show decide (r5.1 = r9.1) = true from decide_eq_true HEQ.out)
       clear HR5 HR7 HR9
       have x0 := bS.out.cell 0
       have x1 := bS.out.cell 1
       have x2 := bS.out.cell 2
       simp at x0 x1 x2
       have lS := bS.out.lt
       have u0 := bU.out.cell 0
       have u1 := bU.out.cell 1
       have u2 := bU.out.cell 2
       simp at u0 u1 u2
       have lU := bU.out.lt
       go_wp2_with (go_at_call 16; refine (machines_any _ _ r5.1 r9.1 _ _ (Nat.le_refl _) MS.out MU.out).mono ?_; rintro e w10 ⟨rfl, hb10⟩; rw [HDL.out]; have HB10 := hide hb10; clear hb10)
       exact bodyPost_ret (v := .bool true) (by simp [results, Try.results13, go_sem]) rfl ⟨rfl, HBW.out.trans (HB10.out.mono HBW.out.size)⟩
end Go.Proofs.Ytopakcbhodnipaa
