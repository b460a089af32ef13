/- The law ComposeIsAssociative, walked: it returns true. Written by gen_cl.py. -/
import Derived.Test.YtmgpcnkmmgkjgaaCoE
import Derived.Test.YtmgpcnkmmgkjgaaWvC
import Derived.IntWalk
namespace Gm
set_option linter.unusedSimpArgs false
set_option linter.unusedVariables false
theorem wF_parts {a : Mach} {u v : List Int} (h : wF a u v = (0, 0)) : validate a = (0, 0) ∧ wordF u (-2) = (0, 0) ∧ wordF v (-3) = (0, 0) := by
  unfold wF at h
  by_cases hv : validate a = (0, 0)
  · rw [if_pos hv] at h
    by_cases g : wordF u (-2) = (0, 0)
    · rw [if_pos g] at h; exact ⟨hv, g, h⟩
    · rw [if_neg g] at h; exact absurd h g
  · rw [if_neg hv] at h; exact absurd h hv
theorem wF_of {a : Mach} {u v : List Int} (hv : validate a = (0, 0)) {i j : Int} (hu : wordF u i = (0, 0)) (ho : wordF v j = (0, 0)) : wF a u v = (0, 0) := by
  unfold wF; rw [if_pos hv, if_pos (wordF_ix hu _)]; exact wordF_ix ho _
theorem wv_nn {a : Mach} {u v : List Int} (h : 0 ≤ wv a u v) : wF a u v = (0, 0) ∧ wv a u v = wgt a u v := by
  by_cases hz : wF a u v = (0, 0)
  · exact ⟨hz, by unfold wv; rw [if_pos hz]⟩
  · unfold wv at h; rw [if_neg hz] at h; omega
theorem wv_eq {m m' : Mach} {u v : List Int} (h1 : validate m = (0, 0)) (h2 : validate m' = (0, 0)) (hw : wgt m u v = wgt m' u v) : wv m u v = wv m' u v := by
  unfold wv; rw [wF_valid h1 h2, hw]
theorem acc_of {m : Mach} {u v : List Int} (h : 0 ≤ wgt m u v) : ∃ d : Nat, wgt m u v = (d : Int) ∧ Acc m u v d := by
  rcases wgt_least m u v with ⟨e, _⟩ | ⟨n, e, hn, _⟩
  · omega
  · exact ⟨n, e, hn⟩
theorem wgt_le {m : Mach} {u v : List Int} {d : Nat} (h : Acc m u v d) : 0 ≤ wgt m u v ∧ wgt m u v ≤ (d : Int) := by
  rcases wgt_least m u v with ⟨_, g⟩ | ⟨n, e, _, g⟩
  · exact absurd h (g d)
  · have := g d h; omega
theorem assoc_plain {a b c : Mach} {u v : List Int} (h1 : compF a b = (0, 0)) (h2 : compF b c = (0, 0)) (h3 : compF (compM a b) c = (0, 0)) (h4 : compF a (compM b c) = (0, 0)) : wv (compM (compM a b) c) u v = wv (compM a (compM b c)) u v := by
  obtain ⟨ha, hb, hab, _⟩ := compF_zero h1
  obtain ⟨_, hc, hbc, _⟩ := compF_zero h2
  obtain ⟨_, _, hx, _⟩ := compF_zero h3
  obtain ⟨_, _, hy, _⟩ := compF_zero h4
  have ra := rng_valid (valid_of ha)
  have rb := rng_valid (valid_of hb)
  have rc := rng_valid (valid_of hc)
  have rab := rng_valid (valid_of hab)
  have rbc := rng_valid (valid_of hbc)
  refine wv_eq hx hy (least_dom (fun d hd => ?_) (fun d hd => ?_))
  · obtain ⟨w, d1, d2, rfl, A1, A2⟩ := (acc_comp rab rc u v).2 d hd
    obtain ⟨w', e1, e2, rfl, B1, B2⟩ := (acc_comp ra rb u w).2 d1 A1
    obtain ⟨f, hf, F⟩ := (acc_comp rb rc w' v).1 (e2 + d2) ⟨w, e2, d2, rfl, B2, A2⟩
    obtain ⟨g, hg, G⟩ := (acc_comp ra rbc u v).1 (e1 + f) ⟨w', e1, f, rfl, B1, F⟩
    exact ⟨g, by omega, G⟩
  · obtain ⟨w, d1, d2, rfl, A1, A2⟩ := (acc_comp ra rbc u v).2 d hd
    obtain ⟨w', e1, e2, rfl, B1, B2⟩ := (acc_comp rb rc w v).2 d2 A2
    obtain ⟨f, hf, F⟩ := (acc_comp ra rb u w').1 (d1 + e1) ⟨w, d1, e1, rfl, A1, B1⟩
    obtain ⟨g, hg, G⟩ := (acc_comp rab rc u v).1 (f + e2) ⟨w', f, e2, rfl, F, B2⟩
    exact ⟨g, by omega, G⟩
end Gm
namespace Go.Proofs.Ytmgpcnkmmgkjgaa
open Go.RowKit Gm Go.Sort Go.Shelf
set_option linter.unusedSimpArgs false
set_option linter.unusedVariables false
set_option maxRecDepth 100000 in
set_option maxHeartbeats 16000000 in
theorem assoclaw_any (va vb vc u0 u1 : Value) (a b c : Mach) (l0 l1 : List Int) (w : World) (B : Nat) (hB : B ≤ w.heap.size) (ha : MachAt w B va a) (hb : MachAt w B vb b) (hc : MachAt w B vc c) (hu0 : Nums w B u0 l0) (hu1 : Nums w B u1 l1) :
    Calls Try.prog 8 #[va, vb, vc, u0, u1] w fun e w' => e = .returned (.bool true) ∧ Below w.heap.size w w' := by
  have HU0 := hide hu0
  obtain ⟨AU0, nu0, cu0, rfl, _⟩ := hu0
  have HU1 := hide hu1
  obtain ⟨AU1, nu1, cu1, rfl, _⟩ := hu1
  have HMa := hide ha
  obtain ⟨Aa, AFa, na, ca, nfa, cfa, rfl, _⟩ := ha
  obtain ⟨sa, hsa⟩ : ∃ s, s = a.n := ⟨_, rfl⟩
  rw [← hsa] at HMa ⊢
  clear hsa
  have HMb := hide hb
  obtain ⟨Ab, AFb, nb, cb, nfb, cfb, rfl, _⟩ := hb
  obtain ⟨sb, hsb⟩ : ∃ s, s = b.n := ⟨_, rfl⟩
  rw [← hsb] at HMb ⊢
  clear hsb
  have HMc := hide hc
  obtain ⟨Ac, AFc, nc, cc, nfc, cfc, rfl, _⟩ := hc
  obtain ⟨sc, hsc⟩ : ∃ s, s = c.n := ⟨_, rfl⟩
  rw [← hsc] at HMc ⊢
  clear hsc
  have heq := fun a b c d W => run_eql_fault a b c d W
  have hne := fun a b c d W => run_neq_fault a b c d W
  have hf0 : fEq 0 0 0 0 = true := rfl
  go_enter Try.func8, Try.ntmps8
  go_wp2_with fail
  have hXa : Blk (((w.alloc (Obj.cells #[.int .i64 sa, .slice Aa na ca, .slice AFa nfa cfa] 25)).alloc (Obj.cells #[.int .i64 sb, .slice Ab nb cb, .slice AFb nfb cfb] 25)).alloc (Obj.cells #[.int .i64 sc, .slice Ac nc cc, .slice AFc nfc cfc] 25)) (w.heap.size) 25 #[.int .i64 sa, .slice Aa na ca, .slice AFa nfa cfa] := (((Blk.at_ rfl).alloc _).alloc _)
  have hXb : Blk (((w.alloc (Obj.cells #[.int .i64 sa, .slice Aa na ca, .slice AFa nfa cfa] 25)).alloc (Obj.cells #[.int .i64 sb, .slice Ab nb cb, .slice AFb nfb cfb] 25)).alloc (Obj.cells #[.int .i64 sc, .slice Ac nc cc, .slice AFc nfc cfc] 25)) (w.heap.size + 1) 25 #[.int .i64 sb, .slice Ab nb cb, .slice AFb nfb cfb] := ((Blk.at_ (by simp)).alloc _)
  have hXc : Blk (((w.alloc (Obj.cells #[.int .i64 sa, .slice Aa na ca, .slice AFa nfa cfa] 25)).alloc (Obj.cells #[.int .i64 sb, .slice Ab nb cb, .slice AFb nfb cfb] 25)).alloc (Obj.cells #[.int .i64 sc, .slice Ac nc cc, .slice AFc nfc cfc] 25)) (w.heap.size + 1 + 1) 25 #[.int .i64 sc, .slice Ac nc cc, .slice AFc nfc cfc] := (Blk.at_ (by simp))
  refine (composition_ex _).mono ?_
  rintro e w1 ⟨rfl, hb1⟩
  have hbw : Below w.heap.size w w1 := (show Below w.heap.size w _ by go_grown).trans (hb1.mono (by simp <;> omega))
  have ba := hXa.below hb1 (by simp <;> omega)
  have bb := hXb.below hb1 (by simp <;> omega)
  have bc := hXc.below hb1 (by simp <;> omega)
  clear hb1 hXa hXb hXc
  obtain ⟨X, hX⟩ : ∃ z, z = w.heap.size := ⟨_, rfl⟩
  have hXw : w.heap.size ≤ X := by omega
  rw [← hX] at ba bb bc
  simp only [← hX]
  clear hX
  go_wp2_with fail
  refine (weighed_ex _).mono ?_
  rintro e w2 ⟨rfl, hb2⟩
  replace ba := ba.below hb2 ba.lt
  replace bb := bb.below hb2 bb.lt
  replace bc := bc.below hb2 bc.lt
  replace hbw := hbw.trans (hb2.mono hbw.size)
  clear hb2
  have HC1 := hide (fun W (B : Nat) (hB : B ≤ W.heap.size) (hA : MachAt W B (.agg #[.int .i64 sa, .slice Aa na ca, .slice AFa nfa cfa]) a) (hB' : MachAt W B (.agg #[.int .i64 sb, .slice Ab nb cb, .slice AFb nfb cfb]) b) => compose_any _ _ a b W B hB hA hB')
  obtain ⟨p1, hp1⟩ : ∃ z, z = (compF a b).1 := ⟨_, rfl⟩
  obtain ⟨q1, hq1⟩ : ∃ z, z = (compF a b).2 := ⟨_, rfl⟩
  rw [← hp1, ← hq1] at HC1
  have HPQ1 := hide (show (p1, q1) = compF a b by rw [hp1, hq1])
  clear hp1 hq1
  have qba0 := ba.cell 0
  have qba1 := ba.cell 1
  have qba2 := ba.cell 2
  simp at qba0 qba1 qba2
  have qbal := ba.lt
  have qbb0 := bb.cell 0
  have qbb1 := bb.cell 1
  have qbb2 := bb.cell 2
  simp at qbb0 qbb1 qbb2
  have qbbl := bb.lt
  go_wp2_with fail
  refine (HC1.out _ _ (Nat.le_refl _) ((HMa.out.below hbw hB).mono (show B ≤ _ by have := hbw.size; omega)) ((HMb.out.below hbw hB).mono (show B ≤ _ by have := hbw.size; omega))).mono ?_
  rintro e w3 ⟨v3, rfl, hT, hb3⟩
  obtain ⟨B1, n1, c1, BF1, nf1, cf1, rfl⟩ := agg_of hT
  obtain ⟨g1, hg1⟩ : ∃ g, g = (compR a b).n := ⟨_, rfl⟩
  rw [← hg1] at hT ⊢
  clear hg1
  clear qba0 qba1 qba2 qbal
  clear qbb0 qbb1 qbb2 qbbl
  replace ba := ba.below hb3 ba.lt
  replace bb := bb.below hb3 bb.lt
  replace bc := bc.below hb3 bc.lt
  replace hbw := hbw.trans (hb3.mono hbw.size)
  clear HC1 hb3
  go_upto_region 4 with fail
  generalize hWX : World.alloc _ _ = WX
  obtain ⟨M1, hM1⟩ : ∃ z, z = w3.heap.size := ⟨_, rfl⟩
  simp only [← hM1]
  have hl1 : X + 1 + 1 < M1 := by have := bc.lt; omega
  replace ba := (by rw [← hWX]; exact (ba.alloc _).alloc _ : Blk WX _ _ _)
  replace bb := (by rw [← hWX]; exact (bb.alloc _).alloc _ : Blk WX _ _ _)
  replace bc := (by rw [← hWX]; exact (bc.alloc _).alloc _ : Blk WX _ _ _)
  have bM1 : Blk WX M1 25 #[.int .i64 g1, .slice B1 n1 c1, .slice BF1 nf1 cf1] := by rw [← hWX]; exact (Blk.at_ (by simp [hM1])).alloc _
  have bF1 : Blk WX (M1 + 1) 28 #[.int .i64 p1, .int .i64 q1] := by rw [← hWX]; exact Blk.at_ (by simp [hM1])
  have HT1 := hide (by rw [← hWX]; exact (hT.alloc _).alloc _ : MachNew _ WX _ _)
  replace hbw : Below w.heap.size w WX := by rw [← hWX]; exact (hbw.alloc hbw.size _).alloc (by have := hbw.size; simp <;> omega) _
  clear hT hWX hM1
  have HC2 := hide (fun W (B : Nat) (hB : B ≤ W.heap.size) (hA : MachAt W B (.agg #[.int .i64 sb, .slice Ab nb cb, .slice AFb nfb cfb]) b) (hB' : MachAt W B (.agg #[.int .i64 sc, .slice Ac nc cc, .slice AFc nfc cfc]) c) => compose_any _ _ b c W B hB hA hB')
  obtain ⟨p2, hp2⟩ : ∃ z, z = (compF b c).1 := ⟨_, rfl⟩
  obtain ⟨q2, hq2⟩ : ∃ z, z = (compF b c).2 := ⟨_, rfl⟩
  rw [← hp2, ← hq2] at HC2
  have HPQ2 := hide (show (p2, q2) = compF b c by rw [hp2, hq2])
  clear hp2 hq2
  have qbb0 := bb.cell 0
  have qbb1 := bb.cell 1
  have qbb2 := bb.cell 2
  simp at qbb0 qbb1 qbb2
  have qbbl := bb.lt
  have qbc0 := bc.cell 0
  have qbc1 := bc.cell 1
  have qbc2 := bc.cell 2
  simp at qbc0 qbc1 qbc2
  have qbcl := bc.lt
  go_wp2_with fail
  refine (HC2.out _ _ (Nat.le_refl _) ((HMb.out.below hbw hB).mono (show B ≤ _ by have := hbw.size; omega)) ((HMc.out.below hbw hB).mono (show B ≤ _ by have := hbw.size; omega))).mono ?_
  rintro e w3 ⟨v3, rfl, hT, hb3⟩
  obtain ⟨B2, n2, c2, BF2, nf2, cf2, rfl⟩ := agg_of hT
  obtain ⟨g2, hg2⟩ : ∃ g, g = (compR b c).n := ⟨_, rfl⟩
  rw [← hg2] at hT ⊢
  clear hg2
  clear qbb0 qbb1 qbb2 qbbl
  clear qbc0 qbc1 qbc2 qbcl
  replace ba := ba.below hb3 ba.lt
  replace bb := bb.below hb3 bb.lt
  replace bc := bc.below hb3 bc.lt
  replace bM1 := bM1.below hb3 bM1.lt
  replace bF1 := bF1.below hb3 bF1.lt
  replace HT1 := hide (HT1.out.below hb3 (Nat.le_refl _))
  replace hbw := hbw.trans (hb3.mono hbw.size)
  clear HC2 hb3
  go_upto_region 5 with fail
  generalize hWX : World.alloc _ _ = WX
  obtain ⟨M2, hM2⟩ : ∃ z, z = w3.heap.size := ⟨_, rfl⟩
  simp only [← hM2]
  have hl2 : M1 + 1 < M2 := by have := bF1.lt; omega
  replace ba := (by rw [← hWX]; exact (ba.alloc _).alloc _ : Blk WX _ _ _)
  replace bb := (by rw [← hWX]; exact (bb.alloc _).alloc _ : Blk WX _ _ _)
  replace bc := (by rw [← hWX]; exact (bc.alloc _).alloc _ : Blk WX _ _ _)
  replace bM1 := (by rw [← hWX]; exact (bM1.alloc _).alloc _ : Blk WX _ _ _)
  replace bF1 := (by rw [← hWX]; exact (bF1.alloc _).alloc _ : Blk WX _ _ _)
  replace HT1 := hide (by rw [← hWX]; exact (HT1.out.alloc _).alloc _ : MachNew _ WX _ _)
  have bM2 : Blk WX M2 25 #[.int .i64 g2, .slice B2 n2 c2, .slice BF2 nf2 cf2] := by rw [← hWX]; exact (Blk.at_ (by simp [hM2])).alloc _
  have bF2 : Blk WX (M2 + 1) 28 #[.int .i64 p2, .int .i64 q2] := by rw [← hWX]; exact Blk.at_ (by simp [hM2])
  have HT2 := hide (by rw [← hWX]; exact (hT.alloc _).alloc _ : MachNew _ WX _ _)
  replace hbw : Below w.heap.size w WX := by rw [← hWX]; exact (hbw.alloc hbw.size _).alloc (by have := hbw.size; simp <;> omega) _
  clear hT hWX hM2
  have qbF10 := bF1.cell 0
  have qbF11 := bF1.cell 1
  simp at qbF10 qbF11
  have qbF1l := bF1.lt
  have qbF20 := bF2.cell 0
  have qbF21 := bF2.cell 1
  simp at qbF20 qbF21
  have qbF2l := bF2.lt
  by_cases hz1 : compF a b = (0, 0)
  · skip
    have hpq := HPQ1.out
    rw [hz1] at hpq
    obtain ⟨rfl, rfl⟩ : p1 = 0 ∧ q1 = 0 := ⟨congrArg Prod.fst hpq, congrArg Prod.snd hpq⟩
    have HZ1 := hide hz1
    have er1 : compR a b = compM a b := (compF_zero hz1).2.2.2
    rw [er1] at HT1
    clear hpq hz1 er1
    by_cases hz2 : compF b c = (0, 0)
    · skip
      have hpq := HPQ2.out
      rw [hz2] at hpq
      obtain ⟨rfl, rfl⟩ : p2 = 0 ∧ q2 = 0 := ⟨congrArg Prod.fst hpq, congrArg Prod.snd hpq⟩
      have HZ2 := hide hz2
      have er2 : compR b c = compM b c := (compF_zero hz2).2.2.2
      rw [er2] at HT2
      clear hpq hz2 er2
      go_upto_region 7 with fail
      clear qbF10 qbF11 qbF1l
      clear qbF20 qbF21 qbF2l
      have HC3 := hide (fun W (B : Nat) (hB : B ≤ W.heap.size) (hA : MachAt W B (.agg #[.int .i64 g1, .slice B1 n1 c1, .slice BF1 nf1 cf1]) (compM a b)) (hB' : MachAt W B (.agg #[.int .i64 sc, .slice Ac nc cc, .slice AFc nfc cfc]) c) => compose_any _ _ (compM a b) c W B hB hA hB')
      obtain ⟨p3, hp3⟩ : ∃ z, z = (compF (compM a b) c).1 := ⟨_, rfl⟩
      obtain ⟨q3, hq3⟩ : ∃ z, z = (compF (compM a b) c).2 := ⟨_, rfl⟩
      rw [← hp3, ← hq3] at HC3
      have HPQ3 := hide (show (p3, q3) = compF (compM a b) c by rw [hp3, hq3])
      clear hp3 hq3
      have qbM10 := bM1.cell 0
      have qbM11 := bM1.cell 1
      have qbM12 := bM1.cell 2
      simp at qbM10 qbM11 qbM12
      have qbM1l := bM1.lt
      have qbc0 := bc.cell 0
      have qbc1 := bc.cell 1
      have qbc2 := bc.cell 2
      simp at qbc0 qbc1 qbc2
      have qbcl := bc.lt
      go_wp2_with fail
      refine (HC3.out _ _ (Nat.le_refl _) (HT1.out.at_) ((HMc.out.below hbw hB).mono (show B ≤ _ by have := hbw.size; omega))).mono ?_
      rintro e w3 ⟨v3, rfl, hT, hb3⟩
      obtain ⟨B3, n3, c3, BF3, nf3, cf3, rfl⟩ := agg_of hT
      obtain ⟨g3, hg3⟩ : ∃ g, g = (compR (compM a b) c).n := ⟨_, rfl⟩
      rw [← hg3] at hT ⊢
      clear hg3
      clear qbM10 qbM11 qbM12 qbM1l
      clear qbc0 qbc1 qbc2 qbcl
      replace ba := ba.below hb3 ba.lt
      replace bb := bb.below hb3 bb.lt
      replace bc := bc.below hb3 bc.lt
      replace bM1 := bM1.below hb3 bM1.lt
      replace bF1 := bF1.below hb3 bF1.lt
      replace bM2 := bM2.below hb3 bM2.lt
      replace bF2 := bF2.below hb3 bF2.lt
      replace HT1 := hide (HT1.out.below hb3 (Nat.le_refl _))
      replace HT2 := hide (HT2.out.below hb3 (Nat.le_refl _))
      replace hbw := hbw.trans (hb3.mono hbw.size)
      clear HC3 hb3
      go_upto_region 8 with fail
      generalize hWX : World.alloc _ _ = WX
      obtain ⟨M3, hM3⟩ : ∃ z, z = w3.heap.size := ⟨_, rfl⟩
      simp only [← hM3]
      have hl3 : M2 + 1 < M3 := by have := bF2.lt; omega
      replace ba := (by rw [← hWX]; exact (ba.alloc _).alloc _ : Blk WX _ _ _)
      replace bb := (by rw [← hWX]; exact (bb.alloc _).alloc _ : Blk WX _ _ _)
      replace bc := (by rw [← hWX]; exact (bc.alloc _).alloc _ : Blk WX _ _ _)
      replace bM1 := (by rw [← hWX]; exact (bM1.alloc _).alloc _ : Blk WX _ _ _)
      replace bF1 := (by rw [← hWX]; exact (bF1.alloc _).alloc _ : Blk WX _ _ _)
      replace bM2 := (by rw [← hWX]; exact (bM2.alloc _).alloc _ : Blk WX _ _ _)
      replace bF2 := (by rw [← hWX]; exact (bF2.alloc _).alloc _ : Blk WX _ _ _)
      replace HT1 := hide (by rw [← hWX]; exact (HT1.out.alloc _).alloc _ : MachNew _ WX _ _)
      replace HT2 := hide (by rw [← hWX]; exact (HT2.out.alloc _).alloc _ : MachNew _ WX _ _)
      have bM3 : Blk WX M3 25 #[.int .i64 g3, .slice B3 n3 c3, .slice BF3 nf3 cf3] := by rw [← hWX]; exact (Blk.at_ (by simp [hM3])).alloc _
      have bF3 : Blk WX (M3 + 1) 28 #[.int .i64 p3, .int .i64 q3] := by rw [← hWX]; exact Blk.at_ (by simp [hM3])
      have HT3 := hide (by rw [← hWX]; exact (hT.alloc _).alloc _ : MachNew _ WX _ _)
      replace hbw : Below w.heap.size w WX := by rw [← hWX]; exact (hbw.alloc hbw.size _).alloc (by have := hbw.size; simp <;> omega) _
      clear hT hWX hM3
      have HC4 := hide (fun W (B : Nat) (hB : B ≤ W.heap.size) (hA : MachAt W B (.agg #[.int .i64 sa, .slice Aa na ca, .slice AFa nfa cfa]) a) (hB' : MachAt W B (.agg #[.int .i64 g2, .slice B2 n2 c2, .slice BF2 nf2 cf2]) (compM b c)) => compose_any _ _ a (compM b c) W B hB hA hB')
      obtain ⟨p4, hp4⟩ : ∃ z, z = (compF a (compM b c)).1 := ⟨_, rfl⟩
      obtain ⟨q4, hq4⟩ : ∃ z, z = (compF a (compM b c)).2 := ⟨_, rfl⟩
      rw [← hp4, ← hq4] at HC4
      have HPQ4 := hide (show (p4, q4) = compF a (compM b c) by rw [hp4, hq4])
      clear hp4 hq4
      have qba0 := ba.cell 0
      have qba1 := ba.cell 1
      have qba2 := ba.cell 2
      simp at qba0 qba1 qba2
      have qbal := ba.lt
      have qbM20 := bM2.cell 0
      have qbM21 := bM2.cell 1
      have qbM22 := bM2.cell 2
      simp at qbM20 qbM21 qbM22
      have qbM2l := bM2.lt
      go_wp2_with fail
      refine (HC4.out _ _ (Nat.le_refl _) ((HMa.out.below hbw hB).mono (show B ≤ _ by have := hbw.size; omega)) (HT2.out.at_)).mono ?_
      rintro e w3 ⟨v3, rfl, hT, hb3⟩
      obtain ⟨B4, n4, c4, BF4, nf4, cf4, rfl⟩ := agg_of hT
      obtain ⟨g4, hg4⟩ : ∃ g, g = (compR a (compM b c)).n := ⟨_, rfl⟩
      rw [← hg4] at hT ⊢
      clear hg4
      clear qba0 qba1 qba2 qbal
      clear qbM20 qbM21 qbM22 qbM2l
      replace ba := ba.below hb3 ba.lt
      replace bb := bb.below hb3 bb.lt
      replace bc := bc.below hb3 bc.lt
      replace bM1 := bM1.below hb3 bM1.lt
      replace bF1 := bF1.below hb3 bF1.lt
      replace bM2 := bM2.below hb3 bM2.lt
      replace bF2 := bF2.below hb3 bF2.lt
      replace bM3 := bM3.below hb3 bM3.lt
      replace bF3 := bF3.below hb3 bF3.lt
      replace HT1 := hide (HT1.out.below hb3 (Nat.le_refl _))
      replace HT2 := hide (HT2.out.below hb3 (Nat.le_refl _))
      replace HT3 := hide (HT3.out.below hb3 (Nat.le_refl _))
      replace hbw := hbw.trans (hb3.mono hbw.size)
      clear HC4 hb3
      go_upto_region 9 with fail
      generalize hWX : World.alloc _ _ = WX
      obtain ⟨M4, hM4⟩ : ∃ z, z = w3.heap.size := ⟨_, rfl⟩
      simp only [← hM4]
      have hl4 : M3 + 1 < M4 := by have := bF3.lt; omega
      replace ba := (by rw [← hWX]; exact (ba.alloc _).alloc _ : Blk WX _ _ _)
      replace bb := (by rw [← hWX]; exact (bb.alloc _).alloc _ : Blk WX _ _ _)
      replace bc := (by rw [← hWX]; exact (bc.alloc _).alloc _ : Blk WX _ _ _)
      replace bM1 := (by rw [← hWX]; exact (bM1.alloc _).alloc _ : Blk WX _ _ _)
      replace bF1 := (by rw [← hWX]; exact (bF1.alloc _).alloc _ : Blk WX _ _ _)
      replace bM2 := (by rw [← hWX]; exact (bM2.alloc _).alloc _ : Blk WX _ _ _)
      replace bF2 := (by rw [← hWX]; exact (bF2.alloc _).alloc _ : Blk WX _ _ _)
      replace bM3 := (by rw [← hWX]; exact (bM3.alloc _).alloc _ : Blk WX _ _ _)
      replace bF3 := (by rw [← hWX]; exact (bF3.alloc _).alloc _ : Blk WX _ _ _)
      replace HT1 := hide (by rw [← hWX]; exact (HT1.out.alloc _).alloc _ : MachNew _ WX _ _)
      replace HT2 := hide (by rw [← hWX]; exact (HT2.out.alloc _).alloc _ : MachNew _ WX _ _)
      replace HT3 := hide (by rw [← hWX]; exact (HT3.out.alloc _).alloc _ : MachNew _ WX _ _)
      have bM4 : Blk WX M4 25 #[.int .i64 g4, .slice B4 n4 c4, .slice BF4 nf4 cf4] := by rw [← hWX]; exact (Blk.at_ (by simp [hM4])).alloc _
      have bF4 : Blk WX (M4 + 1) 28 #[.int .i64 p4, .int .i64 q4] := by rw [← hWX]; exact Blk.at_ (by simp [hM4])
      have HT4 := hide (by rw [← hWX]; exact (hT.alloc _).alloc _ : MachNew _ WX _ _)
      replace hbw : Below w.heap.size w WX := by rw [← hWX]; exact (hbw.alloc hbw.size _).alloc (by have := hbw.size; simp <;> omega) _
      clear hT hWX hM4
      have qbF30 := bF3.cell 0
      have qbF31 := bF3.cell 1
      simp at qbF30 qbF31
      have qbF3l := bF3.lt
      have qbF40 := bF4.cell 0
      have qbF41 := bF4.cell 1
      simp at qbF40 qbF41
      have qbF4l := bF4.lt
      by_cases hz3 : compF (compM a b) c = (0, 0)
      · skip
        have hpq := HPQ3.out
        rw [hz3] at hpq
        obtain ⟨rfl, rfl⟩ : p3 = 0 ∧ q3 = 0 := ⟨congrArg Prod.fst hpq, congrArg Prod.snd hpq⟩
        have HZ3 := hide hz3
        have er3 : compR (compM a b) c = compM (compM a b) c := (compF_zero hz3).2.2.2
        rw [er3] at HT3
        clear hpq hz3 er3
        by_cases hz4 : compF a (compM b c) = (0, 0)
        · skip
          have hpq := HPQ4.out
          rw [hz4] at hpq
          obtain ⟨rfl, rfl⟩ : p4 = 0 ∧ q4 = 0 := ⟨congrArg Prod.fst hpq, congrArg Prod.snd hpq⟩
          have HZ4 := hide hz4
          have er4 : compR a (compM b c) = compM a (compM b c) := (compF_zero hz4).2.2.2
          rw [er4] at HT4
          clear hpq hz4 er4
          go_upto_region 11 with fail
          clear qbF30 qbF31 qbF3l
          clear qbF40 qbF41 qbF4l
          have HWx := hide (fun W (B : Nat) (hB : B ≤ W.heap.size) (hM : MachAt W B (.agg #[.int .i64 g3, .slice B3 n3 c3, .slice BF3 nf3 cf3]) (compM (compM a b) c)) (hU : Nums W B (.slice AU0 nu0 cu0) l0) (hO : Nums W B (.slice AU1 nu1 cu1) l1) => lweight_any _ _ _ (compM (compM a b) c) l0 l1 W B hB hM hU hO)
          obtain ⟨x, hx⟩ : ∃ z, z = wv (compM (compM a b) c) l0 l1 := ⟨_, rfl⟩
          rw [← hx] at HWx
          have HEx := hide hx
          clear hx
          have HWy := hide (fun W (B : Nat) (hB : B ≤ W.heap.size) (hM : MachAt W B (.agg #[.int .i64 g4, .slice B4 n4 c4, .slice BF4 nf4 cf4]) (compM a (compM b c))) (hU : Nums W B (.slice AU0 nu0 cu0) l0) (hO : Nums W B (.slice AU1 nu1 cu1) l1) => lweight_any _ _ _ (compM a (compM b c)) l0 l1 W B hB hM hU hO)
          obtain ⟨y, hy⟩ : ∃ z, z = wv (compM a (compM b c)) l0 l1 := ⟨_, rfl⟩
          rw [← hy] at HWy
          have HEy := hide hy
          clear hy
          go_upto_region 11 with fail
          have qbM30 := bM3.cell 0
          have qbM31 := bM3.cell 1
          have qbM32 := bM3.cell 2
          simp at qbM30 qbM31 qbM32
          have qbM3l := bM3.lt
          have qbM40 := bM4.cell 0
          have qbM41 := bM4.cell 1
          have qbM42 := bM4.cell 2
          simp at qbM40 qbM41 qbM42
          have qbM4l := bM4.lt
          refine wp_mix (fun w' => w'.cell? ⟨M3, 0, none⟩ = some (.int .i64 g3) ∧ w'.cell? ⟨M3, 1, none⟩ = some (.slice B3 n3 c3) ∧ w'.cell? ⟨M3, 2, none⟩ = some (.slice BF3 nf3 cf3) ∧ w'.cell? ⟨M4, 0, none⟩ = some (.int .i64 g4) ∧ w'.cell? ⟨M4, 1, none⟩ = some (.slice B4 n4 c4) ∧ w'.cell? ⟨M4, 2, none⟩ = some (.slice BF4 nf4 cf4)) 7 [(0, false), (1, false), (2, false), (4, false), (5, false), (6, false), (3, true)] (by kernel_rfl) (by kernel_rfl) ?_ ?_
          · go_simp
          simp only [List.drop_succ_cons, List.drop_zero]
          repeat (refine mix_q (v := ?_) (by rfl) (by rfl) ?_ ?_; rotate_left; (focus (intro w' hC; (try dsimp only at hC); go_simp; (first | done | with_reducible rfl))); simp only [Act.put, List.setIfInBounds_toArray, List.set_cons_zero, List.set_cons_succ, List.getElem_toArray, List.getElem_cons_zero, List.getElem_cons_succ])
          refine mix_l (by rfl) (by rfl) (fun K hK => ?_)
          go_simp
          refine (HWx.out _ _ (Nat.le_refl _) (HT3.out.drew.at_) ((HU0.out.below hbw.drew hB).mono (show B ≤ _ by have := hbw.drew.size; first | omega | (simp at this ⊢; omega))) ((HU1.out.below hbw.drew hB).mono (show B ≤ _ by have := hbw.drew.size; first | omega | (simp at this ⊢; omega)))).mono ?_
          rintro e w5 ⟨rfl, hb⟩
          replace ba := ba.drew.below hb ba.drew.lt
          replace bb := bb.drew.below hb bb.drew.lt
          replace bc := bc.drew.below hb bc.drew.lt
          replace bM1 := bM1.drew.below hb bM1.drew.lt
          replace bF1 := bF1.drew.below hb bF1.drew.lt
          replace bM2 := bM2.drew.below hb bM2.drew.lt
          replace bF2 := bF2.drew.below hb bF2.drew.lt
          replace bM3 := bM3.drew.below hb bM3.drew.lt
          replace bF3 := bF3.drew.below hb bF3.drew.lt
          replace bM4 := bM4.drew.below hb bM4.drew.lt
          replace bF4 := bF4.drew.below hb bF4.drew.lt
          replace HT1 := hide (HT1.out.drew.below hb (Nat.le_refl _))
          replace HT2 := hide (HT2.out.drew.below hb (Nat.le_refl _))
          replace HT3 := hide (HT3.out.drew.below hb (Nat.le_refl _))
          replace HT4 := hide (HT4.out.drew.below hb (Nat.le_refl _))
          replace hbw := hbw.drew.trans (hb.mono hbw.drew.size)
          clear hb HWx
          clear qbM30 qbM31 qbM32 qbM3l
          clear qbM40 qbM41 qbM42 qbM4l
          have qbM30 := bM3.cell 0
          have qbM31 := bM3.cell 1
          have qbM32 := bM3.cell 2
          simp at qbM30 qbM31 qbM32
          have qbM3l := bM3.lt
          have qbM40 := bM4.cell 0
          have qbM41 := bM4.cell 1
          have qbM42 := bM4.cell 2
          simp at qbM40 qbM41 qbM42
          have qbM4l := bM4.lt
          refine hK _ _ ⟨qbM30, qbM31, qbM32, qbM40, qbM41, qbM42⟩ ?_
          clear hK K
          refine mix_nil ?_; try simp only [Act.put, List.setIfInBounds_toArray, List.set_cons_zero, List.set_cons_succ, List.getElem_toArray, List.getElem_cons_zero, List.getElem_cons_succ]
          go_wp2_with fail
          refine (HWy.out _ _ (Nat.le_refl _) (HT4.out.at_) ((HU0.out.below hbw hB).mono (show B ≤ _ by have := hbw.size; first | omega | (simp at this ⊢; omega))) ((HU1.out.below hbw hB).mono (show B ≤ _ by have := hbw.size; first | omega | (simp at this ⊢; omega)))).mono ?_
          rintro e w6 ⟨rfl, hb⟩
          replace ba := ba.below hb ba.lt
          replace bb := bb.below hb bb.lt
          replace bc := bc.below hb bc.lt
          replace bM1 := bM1.below hb bM1.lt
          replace bF1 := bF1.below hb bF1.lt
          replace bM2 := bM2.below hb bM2.lt
          replace bF2 := bF2.below hb bF2.lt
          replace bM3 := bM3.below hb bM3.lt
          replace bF3 := bF3.below hb bF3.lt
          replace bM4 := bM4.below hb bM4.lt
          replace bF4 := bF4.below hb bF4.lt
          replace HT1 := hide (HT1.out.below hb (Nat.le_refl _))
          replace HT2 := hide (HT2.out.below hb (Nat.le_refl _))
          replace HT3 := hide (HT3.out.below hb (Nat.le_refl _))
          replace HT4 := hide (HT4.out.below hb (Nat.le_refl _))
          replace hbw := hbw.trans (hb.mono hbw.size)
          clear hb HWy
          clear qbM30 qbM31 qbM32 qbM3l
          clear qbM40 qbM41 qbM42 qbM4l
          have hxy : x = y := by rw [HEx.out, HEy.out]; exact assoc_plain HZ1.out HZ2.out HZ3.out HZ4.out
          subst hxy
          go_wp2
          refine NoPanic.normal ?_
          go_wp2
          exact bodyPost_ret (v := .bool true) (by simp [results, Try.results8, go_sem]) rfl ⟨rfl, hbw⟩
        · skip
          have hpq := HPQ4.out
          have hz0 : fEq p4 q4 0 0 = false := by
            cases e : fEq p4 q4 0 0
            · rfl
            · have e2 : fEq (compF a (compM b c)).1 (compF a (compM b c)).2 0 0 = true := by rw [← hpq]; exact e
              exact absurd (fEq0K.1 e2) hz4
          clear hpq
          go_wp2
          exact bodyPost_ret (v := .bool true) (by simp [results, Try.results8, go_sem]) rfl ⟨rfl, hbw⟩
      · skip
        have hpq := HPQ3.out
        have hz0 : fEq p3 q3 0 0 = false := by
          cases e : fEq p3 q3 0 0
          · rfl
          · have e2 : fEq (compF (compM a b) c).1 (compF (compM a b) c).2 0 0 = true := by rw [← hpq]; exact e
            exact absurd (fEq0K.1 e2) hz3
        clear hpq
        go_wp2
        exact bodyPost_ret (v := .bool true) (by simp [results, Try.results8, go_sem]) rfl ⟨rfl, hbw⟩
    · skip
      have hpq := HPQ2.out
      have hz0 : fEq p2 q2 0 0 = false := by
        cases e : fEq p2 q2 0 0
        · rfl
        · have e2 : fEq (compF b c).1 (compF b c).2 0 0 = true := by rw [← hpq]; exact e
          exact absurd (fEq0K.1 e2) hz2
      clear hpq
      go_wp2
      exact bodyPost_ret (v := .bool true) (by simp [results, Try.results8, go_sem]) rfl ⟨rfl, hbw⟩
  · skip
    have hpq := HPQ1.out
    have hz0 : fEq p1 q1 0 0 = false := by
      cases e : fEq p1 q1 0 0
      · rfl
      · have e2 : fEq (compF a b).1 (compF a b).2 0 0 = true := by rw [← hpq]; exact e
        exact absurd (fEq0K.1 e2) hz1
    clear hpq
    go_wp2
    exact bodyPost_ret (v := .bool true) (by simp [results, Try.results8, go_sem]) rfl ⟨rfl, hbw⟩
end Go.Proofs.Ytmgpcnkmmgkjgaa
