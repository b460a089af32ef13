/- The law ComposeMatchesSpec, walked: it returns true. Written by gen_cv.py. -/
import Derived.Test.YtmgpcnkmmgkjgaaCoE
import Derived.Test.YtmgpcnkmmgkjgaaC3Z
import Derived.IntWalk
namespace Gm
set_option linter.unusedSimpArgs false
set_option linter.unusedVariables false
theorem mach_n {w : Go.World} {B : Nat} {g : Int} {A AF : Option Go.Addr} {n c nf cf : Nat} {m : Mach} (h : MachAt w B (.agg #[.int .i64 g, .slice A n c, .slice AF nf cf]) m) : g = m.n ∧ n = m.arcs.length := by
  obtain ⟨_, _, _, _, _, _, e, h1, _⟩ := h
  injection e with e
  injection e with e
  injection e with e e2
  injection e2 with e2 e3
  injection e2 with e4 e5 e6
  injection e with _ e
  exact ⟨e, by rw [h1.out]; exact e5⟩
theorem compF_badA {a b : Mach} (h : validate a ≠ (0, 0)) : compF a b = validate a ∧ (compR a b).n = 0 := by
  have ht : twoC a b = validate a := by unfold twoC; rw [if_neg h]
  have e : compF a b = validate a := by unfold compF; rw [if_neg (by rw [ht]; exact h), ht]
  refine ⟨e, ?_⟩
  unfold compR
  rw [if_neg (by rw [e]; exact h)]
theorem compF_badB {a b : Mach} (ha : validate a = (0, 0)) (h : validate b ≠ (0, 0)) : compF a b = validate b ∧ (compR a b).n = 0 := by
  have ht : twoC a b = validate b := by unfold twoC; rw [if_pos ha]
  have e : compF a b = validate b := by unfold compF; rw [if_neg (by rw [ht]; exact h), ht]
  refine ⟨e, ?_⟩
  unfold compR
  rw [if_neg (by rw [e]; exact h)]
theorem mul_rng {x y : Int} (h0 : 0 ≤ x) (h1 : x ≤ 400) (g0 : 0 ≤ y) (g1 : y ≤ 400) : 0 ≤ x * y ∧ x * y ≤ 160000 := ⟨Int.mul_nonneg h0 g0, by have := Int.mul_le_mul h1 g1 g0 (by omega); omega⟩
end Gm
namespace Go.Proofs.Ytmgpcnkmmgkjgaa
open Go.RowKit Gm Go.Sort Go.Shelf
set_option linter.unusedSimpArgs false
set_option linter.unusedVariables false
theorem fEq_self (a b : Int) : fEq a b a b = true := by unfold fEq; simp
set_option maxRecDepth 100000 in
set_option maxHeartbeats 16000000 in
theorem matchlaw_any (va vb : Value) (a b : Mach) (w : World) (B : Nat) (hB : B ≤ w.heap.size) (ha : MachAt w B va a) (hb : MachAt w B vb b) :
    Calls Try.prog 5 #[va, vb] w fun e w' => e = .returned (.bool true) ∧ Below w.heap.size w w' := by
  have HMa := hide ha
  obtain ⟨Aa, AFa, na, ca, nfa, cfa, rfl, _⟩ := ha
  obtain ⟨sa, hsa⟩ : ∃ s, s = a.n := ⟨_, rfl⟩
  rw [← hsa] at HMa ⊢
  clear hsa
  have HMb := hide hb
  obtain ⟨Ab, AFb, nb, cb, nfb, cfb, rfl, _⟩ := hb
  obtain ⟨sb, hsb⟩ : ∃ s, s = b.n := ⟨_, rfl⟩
  rw [← hsb] at HMb ⊢
  clear hsb
  have heq := fun a b c d W => run_eql_fault a b c d W
  have hne := fun a b c d W => run_neq_fault a b c d W
  have hf0 : fEq 0 0 0 0 = true := rfl
  go_enter Try.func5, Try.ntmps5
  go_wp2_with fail
  have hXa : Blk ((w.alloc (Obj.cells #[.int .i64 sa, .slice Aa na ca, .slice AFa nfa cfa] 25)).alloc (Obj.cells #[.int .i64 sb, .slice Ab nb cb, .slice AFb nfb cfb] 25)) (w.heap.size) 25 #[.int .i64 sa, .slice Aa na ca, .slice AFa nfa cfa] := ((Blk.at_ rfl).alloc _)
  have hXb : Blk ((w.alloc (Obj.cells #[.int .i64 sa, .slice Aa na ca, .slice AFa nfa cfa] 25)).alloc (Obj.cells #[.int .i64 sb, .slice Ab nb cb, .slice AFb nfb cfb] 25)) (w.heap.size + 1) 25 #[.int .i64 sb, .slice Ab nb cb, .slice AFb nfb cfb] := (Blk.at_ (by simp))
  refine (composition_ex _).mono ?_
  rintro e w1 ⟨rfl, hb1⟩
  have hbw : Below w.heap.size w w1 := (show Below w.heap.size w _ by go_grown).trans (hb1.mono (by simp <;> omega))
  have ba := hXa.below hb1 (by simp <;> omega)
  have bb := hXb.below hb1 (by simp <;> omega)
  clear hb1 hXa hXb
  obtain ⟨X, hX⟩ : ∃ z, z = w.heap.size := ⟨_, rfl⟩
  have hXw : w.heap.size ≤ X := by omega
  rw [← hX] at ba bb
  simp only [← hX]
  clear hX
  have HC1 := hide (fun W (B : Nat) (hB : B ≤ W.heap.size) (hA : MachAt W B (.agg #[.int .i64 sa, .slice Aa na ca, .slice AFa nfa cfa]) a) (hB' : MachAt W B (.agg #[.int .i64 sb, .slice Ab nb cb, .slice AFb nfb cfb]) b) => compose_any _ _ a b W B hB hA hB')
  obtain ⟨p1, hp1⟩ : ∃ z, z = (compF a b).1 := ⟨_, rfl⟩
  obtain ⟨q1, hq1⟩ : ∃ z, z = (compF a b).2 := ⟨_, rfl⟩
  rw [← hp1, ← hq1] at HC1
  have HPQ1 := hide (show (p1, q1) = compF a b by rw [hp1, hq1])
  clear hp1 hq1
  have qba0 := ba.cell 0
  have qba1 := ba.cell 1
  have qba2 := ba.cell 2
  simp at qba0 qba1 qba2
  have qbal := ba.lt
  have qbb0 := bb.cell 0
  have qbb1 := bb.cell 1
  have qbb2 := bb.cell 2
  simp at qbb0 qbb1 qbb2
  have qbbl := bb.lt
  go_wp2_with fail
  refine (HC1.out _ _ (Nat.le_refl _) ((HMa.out.below hbw hB).mono (show B ≤ _ by have := hbw.size; omega)) ((HMb.out.below hbw hB).mono (show B ≤ _ by have := hbw.size; omega))).mono ?_
  rintro e w3 ⟨v3, rfl, hT, hb3⟩
  obtain ⟨B1, n1, c1, BF1, nf1, cf1, rfl⟩ := agg_of hT
  obtain ⟨g1, hg1⟩ : ∃ g, g = (compR a b).n := ⟨_, rfl⟩
  rw [← hg1] at hT ⊢
  clear hg1
  clear qba0 qba1 qba2 qbal
  clear qbb0 qbb1 qbb2 qbbl
  replace ba := ba.below hb3 ba.lt
  replace bb := bb.below hb3 bb.lt
  replace hbw := hbw.trans (hb3.mono hbw.size)
  clear HC1 hb3
  go_upto_region 4 with fail
  generalize hWX : World.alloc _ _ = WX
  obtain ⟨M1, hM1⟩ : ∃ z, z = w3.heap.size := ⟨_, rfl⟩
  simp only [← hM1]
  have hl1 : X + 1 < M1 := by have := bb.lt; omega
  replace ba := (by rw [← hWX]; exact (ba.alloc _).alloc _ : Blk WX _ _ _)
  replace bb := (by rw [← hWX]; exact (bb.alloc _).alloc _ : Blk WX _ _ _)
  have bM1 : Blk WX M1 25 #[.int .i64 g1, .slice B1 n1 c1, .slice BF1 nf1 cf1] := by rw [← hWX]; exact (Blk.at_ (by simp [hM1])).alloc _
  have bF1 : Blk WX (M1 + 1) 28 #[.int .i64 p1, .int .i64 q1] := by rw [← hWX]; exact Blk.at_ (by simp [hM1])
  have HT1 := hide (by rw [← hWX]; exact (hT.alloc _).alloc _ : MachNew _ WX _ _)
  replace hbw : Below w.heap.size w WX := by rw [← hWX]; exact (hbw.alloc hbw.size _).alloc (by have := hbw.size; simp <;> omega) _
  clear hT hWX hM1
  have HQ2 := hide (fun W (B : Nat) (hB : B ≤ W.heap.size) (h : MachAt W B (.agg #[.int .i64 sa, .slice Aa na ca, .slice AFa nfa cfa]) a) => mfault_spec _ a W B hB h)
  obtain ⟨f2, hf2⟩ : ∃ z, z = (validate a).1 := ⟨_, rfl⟩
  obtain ⟨h2, hh2⟩ : ∃ z, z = (validate a).2 := ⟨_, rfl⟩
  rw [← hf2, ← hh2] at HQ2
  have HFH2 := hide (show (f2, h2) = validate a by rw [hf2, hh2])
  clear hf2 hh2
  have qba0 := ba.cell 0
  have qba1 := ba.cell 1
  have qba2 := ba.cell 2
  simp at qba0 qba1 qba2
  have qbal := ba.lt
  go_wp2_with fail
  refine (HQ2.out _ _ (Nat.le_refl _) ((HMa.out.below hbw hB).mono (by have := hbw.size; omega))).mono ?_
  rintro e w4 ⟨rfl, hb⟩
  clear qba0 qba1 qba2 qbal
  replace ba := ba.below hb ba.lt
  replace bb := bb.below hb bb.lt
  replace bM1 := bM1.below hb bM1.lt
  replace bF1 := bF1.below hb bF1.lt
  replace HT1 := hide (HT1.out.below hb (Nat.le_refl _))
  replace hbw := hbw.trans (hb.mono hbw.size)
  clear hb HQ2
  by_cases hz2 : validate a = (0, 0)
  · skip
    have hpq := HFH2.out
    rw [hz2] at hpq
    obtain ⟨rfl, rfl⟩ : f2 = 0 ∧ h2 = 0 := ⟨congrArg Prod.fst hpq, congrArg Prod.snd hpq⟩
    clear hpq
    go_upto_region 7 with fail
    generalize hWY : World.alloc _ _ = WY
    replace ba := (by rw [← hWY]; exact ba.alloc _ : Blk WY _ _ _)
    replace bb := (by rw [← hWY]; exact bb.alloc _ : Blk WY _ _ _)
    replace bM1 := (by rw [← hWY]; exact bM1.alloc _ : Blk WY _ _ _)
    replace bF1 := (by rw [← hWY]; exact bF1.alloc _ : Blk WY _ _ _)
    replace HT1 := hide (by rw [← hWY]; exact HT1.out.alloc _ : MachNew _ WY _ _)
    replace hbw := (by rw [← hWY]; exact hbw.alloc hbw.size _ : Below w.heap.size w WY)
    clear hWY
    have HQ3 := hide (fun W (B : Nat) (hB : B ≤ W.heap.size) (h : MachAt W B (.agg #[.int .i64 sb, .slice Ab nb cb, .slice AFb nfb cfb]) b) => mfault_spec _ b W B hB h)
    obtain ⟨f3, hf3⟩ : ∃ z, z = (validate b).1 := ⟨_, rfl⟩
    obtain ⟨h3, hh3⟩ : ∃ z, z = (validate b).2 := ⟨_, rfl⟩
    rw [← hf3, ← hh3] at HQ3
    have HFH3 := hide (show (f3, h3) = validate b by rw [hf3, hh3])
    clear hf3 hh3
    have qbb0 := bb.cell 0
    have qbb1 := bb.cell 1
    have qbb2 := bb.cell 2
    simp at qbb0 qbb1 qbb2
    have qbbl := bb.lt
    go_wp2_with fail
    refine (HQ3.out _ _ (Nat.le_refl _) ((HMb.out.below hbw hB).mono (by have := hbw.size; omega))).mono ?_
    rintro e w4 ⟨rfl, hb⟩
    clear qbb0 qbb1 qbb2 qbbl
    replace ba := ba.below hb ba.lt
    replace bb := bb.below hb bb.lt
    replace bM1 := bM1.below hb bM1.lt
    replace bF1 := bF1.below hb bF1.lt
    replace HT1 := hide (HT1.out.below hb (Nat.le_refl _))
    replace hbw := hbw.trans (hb.mono hbw.size)
    clear hb HQ3
    by_cases hz3 : validate b = (0, 0)
    · skip
      have hpq := HFH3.out
      rw [hz3] at hpq
      obtain ⟨rfl, rfl⟩ : f3 = 0 ∧ h3 = 0 := ⟨congrArg Prod.fst hpq, congrArg Prod.snd hpq⟩
      clear hpq HFH2 HFH3
      go_upto_region 10 with fail
      generalize hWY : World.alloc _ _ = WY
      replace ba := (by rw [← hWY]; exact ba.alloc _ : Blk WY _ _ _)
      replace bb := (by rw [← hWY]; exact bb.alloc _ : Blk WY _ _ _)
      replace bM1 := (by rw [← hWY]; exact bM1.alloc _ : Blk WY _ _ _)
      replace bF1 := (by rw [← hWY]; exact bF1.alloc _ : Blk WY _ _ _)
      replace HT1 := hide (by rw [← hWY]; exact HT1.out.alloc _ : MachNew _ WY _ _)
      replace hbw := (by rw [← hWY]; exact hbw.alloc hbw.size _ : Below w.heap.size w WY)
      clear hWY
      have hVa := valid_of hz2
      have hVb := valid_of hz3
      obtain ⟨esa, ena⟩ := mach_n HMa.out
      obtain ⟨esb, enb⟩ := mach_n HMb.out
      have hmr := mul_rng (x := sa) (y := sb) (by rw [esa]; exact hVa.n0) (by rw [esa]; exact hVa.n4) (by rw [esb]; exact hVb.n0) (by rw [esb]; exact hVb.n4)
      obtain ⟨P, hP⟩ : ∃ z, z = sa * sb := ⟨_, rfl⟩
      rw [← hP] at hmr
      obtain ⟨Q, hQ⟩ : ∃ z : Nat, z = na * nb := ⟨_, rfl⟩
      have hQr : Q ≤ 4000000 := by rw [hQ, ena, enb]; exact Nat.mul_le_mul hVa.len hVb.len
      have hQI : (na : Int) * (nb : Int) = (Q : Int) := by rw [hQ]; push_cast; rfl
      have hPI := hP.symm
      have HP := hide hP
      have HQQ := hide hQ
      have HVa := hide hVa
      have HVb := hide hVb
      have HEa := hide (And.intro esa ena)
      have HEb := hide (And.intro esb enb)
      clear hP hQ hVa hVb esa ena esb enb hz2 hz3
      have qba0 := ba.cell 0
      have qba1 := ba.cell 1
      have qba2 := ba.cell 2
      simp at qba0 qba1 qba2
      have qbal := ba.lt
      have qbb0 := bb.cell 0
      have qbb1 := bb.cell 1
      have qbb2 := bb.cell 2
      simp at qbb0 qbb1 qbb2
      have qbbl := bb.lt
      by_cases c1 : 120 < P
      · have t1 : decide (P > 120) = true := decide_eq_true (by omega)
        have t1' : decide (120 < P) = true := decide_eq_true (by omega)
        clear c1
        go_wp2
        exact bodyPost_ret (v := .bool true) (by simp [results, Try.results5, go_sem]) rfl ⟨rfl, hbw⟩
      have t1 : decide (P > 120) = false := decide_eq_false (by omega)
      have t1' : decide (120 < P) = false := decide_eq_false (by omega)
      by_cases c2 : 1500 < Q
      · have t2 : decide ((Q : Int) > 1500) = true := decide_eq_true (by omega)
        have t2' : decide ((1500 : Int) < (Q : Int)) = true := decide_eq_true (by omega)
        clear c1 c2
        go_wp2
        exact bodyPost_ret (v := .bool true) (by simp [results, Try.results5, go_sem]) rfl ⟨rfl, hbw⟩
      have t2 : decide ((Q : Int) > 1500) = false := decide_eq_false (by omega)
      have t2' : decide ((1500 : Int) < (Q : Int)) = false := decide_eq_false (by omega)
      have HAB := hide (show a.arcs.length * b.arcs.length ≤ 1500 by have h := HQQ.out; rw [HEa.out.2, HEb.out.2] at h; omega)
      have HNN := hide (show a.n * b.n ≤ 120 by have h := HP.out; rw [HEa.out.1, HEb.out.1] at h; omega)
      clear c1 c2
      have HC := hide (fun W (B : Nat) (hB : B ≤ W.heap.size) (h1 : MachAt W B (.agg #[.int .i64 sa, .slice Aa na ca, .slice AFa nfa cfa]) a) (h2 : MachAt W B (.agg #[.int .i64 sb, .slice Ab nb cb, .slice AFb nfb cfb]) b) => composed_any _ _ a b W B hB h1 h2 HVa.out HVb.out HAB.out HNN.out)
      rw [← compF_short HVa.out HVb.out HAB.out, ← HPQ1.out] at HC
      have HOR := hide (show orE (p1, q1) (compM a b) = compR a b by rw [HPQ1.out]; rfl)
      rw [HOR.out] at HC
      go_upto_region 12 with fail
      clear t1 t1' t2 t2' hPI hQI
      go_wp2_with fail
      refine (HC.out _ _ (Nat.le_refl _) ((HMa.out.below hbw hB).mono (show B ≤ _ by have := hbw.size; omega)) ((HMb.out.below hbw hB).mono (show B ≤ _ by have := hbw.size; omega))).mono ?_
      rintro e w5 ⟨v5, rfl, hT, hb⟩
      have hT' := hT
      obtain ⟨A5, AF5, n5, c5, nf5, cf5, rfl, -⟩ := hT'
      obtain ⟨g5, hg5⟩ : ∃ z, z = (compR a b).n := ⟨_, rfl⟩
      rw [← hg5] at hT ⊢
      clear hg5
      clear qba0 qba1 qba2 qbal
      clear qbb0 qbb1 qbb2 qbbl
      replace ba := ba.below hb ba.lt
      replace bb := bb.below hb bb.lt
      replace bM1 := bM1.below hb bM1.lt
      replace bF1 := bF1.below hb bF1.lt
      replace HT1 := hide (HT1.out.below hb (Nat.le_refl _))
      replace hbw := hbw.trans (hb.mono hbw.size)
      clear hb HC
      have HE := hide (fun W (B : Nat) (hB : B ≤ W.heap.size) (h1 : MachAt W B (.agg #[.int .i64 g1, .slice B1 n1 c1, .slice BF1 nf1 cf1]) (compR a b)) (h2 : MachAt W B (.agg #[.int .i64 g5, .slice A5 n5 c5, .slice AF5 nf5 cf5]) (compR a b)) => machines_any _ _ (compR a b) (compR a b) W B hB h1 h2)
      have ht : decide (compR a b = compR a b) = true := decide_eq_true rfl
      rw [ht] at HE
      clear ht
      have HT := hide hT
      clear hT
      have hs0 : fEq p1 q1 p1 q1 = true := fEq_self p1 q1
      have qbM10 := bM1.cell 0
      have qbM11 := bM1.cell 1
      have qbM12 := bM1.cell 2
      simp at qbM10 qbM11 qbM12
      have qbM1l := bM1.lt
      have qbF10 := bF1.cell 0
      have qbF11 := bF1.cell 1
      simp at qbF10 qbF11
      have qbF1l := bF1.lt
      go_wp2_with fail
      refine (HE.out _ _ (Nat.le_refl _) (((HT1.out.alloc _).alloc _).at_) ((HT.out.below (show Below w5.heap.size w5 _ by go_grown) (Nat.le_refl _)).mono (by simp <;> omega))).mono ?_
      rintro e w6 ⟨rfl, hb6⟩
      have hbz := (hbw.alloc hbw.size _).alloc (by have := hbw.size; simp <;> omega) _ |>.trans (hb6.mono (by have := hbw.size; simp <;> omega))
      go_wp2
      exact bodyPost_ret (v := .bool true) (by simp [results, Try.results5, go_sem]) rfl ⟨rfl, hbz⟩
    · skip
      have hcp := compF_badB (a := a) (b := b) hz2 hz3
      have hpq := HPQ1.out
      rw [hcp.1, ← HFH3.out] at hpq
      obtain ⟨rfl, rfl⟩ : p1 = f3 ∧ q1 = h3 := ⟨congrArg Prod.fst hpq, congrArg Prod.snd hpq⟩
      have hg0 : g1 = 0 := by rw [(mach_n HT1.out.at_).1]; exact hcp.2
      subst hg0
      have hz0 : fEq p1 q1 0 0 = false := by
        cases e : fEq p1 q1 0 0
        · rfl
        · have e2 : fEq (validate b).1 (validate b).2 0 0 = true := by rw [← HFH3.out]; exact e
          exact absurd (fEq0K.1 e2) hz3
      have hs0 : fEq p1 q1 p1 q1 = true := fEq_self p1 q1
      clear hpq hcp
      have qbM10 := bM1.cell 0
      have qbM11 := bM1.cell 1
      have qbM12 := bM1.cell 2
      simp at qbM10 qbM11 qbM12
      have qbM1l := bM1.lt
      have qbF10 := bF1.cell 0
      have qbF11 := bF1.cell 1
      simp at qbF10 qbF11
      have qbF1l := bF1.lt
      go_wp2
      exact bodyPost_ret (v := .bool true) (by simp [results, Try.results5, go_sem]) rfl ⟨rfl, hbw.alloc hbw.size _⟩
  · skip
    have hcp := compF_badA (b := b) hz2
    have hpq := HPQ1.out
    rw [hcp.1, ← HFH2.out] at hpq
    obtain ⟨rfl, rfl⟩ : p1 = f2 ∧ q1 = h2 := ⟨congrArg Prod.fst hpq, congrArg Prod.snd hpq⟩
    have hg0 : g1 = 0 := by rw [(mach_n HT1.out.at_).1]; exact hcp.2
    subst hg0
    have hz0 : fEq p1 q1 0 0 = false := by
      cases e : fEq p1 q1 0 0
      · rfl
      · have e2 : fEq (validate a).1 (validate a).2 0 0 = true := by rw [← HFH2.out]; exact e
        exact absurd (fEq0K.1 e2) hz2
    have hs0 : fEq p1 q1 p1 q1 = true := fEq_self p1 q1
    clear hpq hcp
    have qbM10 := bM1.cell 0
    have qbM11 := bM1.cell 1
    have qbM12 := bM1.cell 2
    simp at qbM10 qbM11 qbM12
    have qbM1l := bM1.lt
    have qbF10 := bF1.cell 0
    have qbF11 := bF1.cell 1
    simp at qbF10 qbF11
    have qbF1l := bF1.lt
    go_wp2
    exact bodyPost_ret (v := .bool true) (by simp [results, Try.results5, go_sem]) rfl ⟨rfl, hbw.alloc hbw.size _⟩
end Go.Proofs.Ytmgpcnkmmgkjgaa
