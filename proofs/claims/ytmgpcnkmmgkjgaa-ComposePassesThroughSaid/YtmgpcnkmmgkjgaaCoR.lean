/- The law ComposePassesThrough, walked: it returns true. Written by gen_cl.py. -/
import Derived.Test.YtmgpcnkmmgkjgaaCoE
import Derived.Test.YtmgpcnkmmgkjgaaWvC
import Derived.Test.YtmgpcnkmmgkjgaaWbP
import Derived.IntWalk
namespace Gm
set_option linter.unusedSimpArgs false
set_option linter.unusedVariables false
theorem wF_parts {a : Mach} {u v : List Int} (h : wF a u v = (0, 0)) : validate a = (0, 0) ∧ wordF u (-2) = (0, 0) ∧ wordF v (-3) = (0, 0) := by
  unfold wF at h
  by_cases hv : validate a = (0, 0)
  · rw [if_pos hv] at h
    by_cases g : wordF u (-2) = (0, 0)
    · rw [if_pos g] at h; exact ⟨hv, g, h⟩
    · rw [if_neg g] at h; exact absurd h g
  · rw [if_neg hv] at h; exact absurd h hv
theorem wF_of {a : Mach} {u v : List Int} (hv : validate a = (0, 0)) {i j : Int} (hu : wordF u i = (0, 0)) (ho : wordF v j = (0, 0)) : wF a u v = (0, 0) := by
  unfold wF; rw [if_pos hv, if_pos (wordF_ix hu _)]; exact wordF_ix ho _
theorem wv_nn {a : Mach} {u v : List Int} (h : 0 ≤ wv a u v) : wF a u v = (0, 0) ∧ wv a u v = wgt a u v := by
  by_cases hz : wF a u v = (0, 0)
  · exact ⟨hz, by unfold wv; rw [if_pos hz]⟩
  · unfold wv at h; rw [if_neg hz] at h; omega
theorem wv_eq {m m' : Mach} {u v : List Int} (h1 : validate m = (0, 0)) (h2 : validate m' = (0, 0)) (hw : wgt m u v = wgt m' u v) : wv m u v = wv m' u v := by
  unfold wv; rw [wF_valid h1 h2, hw]
theorem acc_of {m : Mach} {u v : List Int} (h : 0 ≤ wgt m u v) : ∃ d : Nat, wgt m u v = (d : Int) ∧ Acc m u v d := by
  rcases wgt_least m u v with ⟨e, _⟩ | ⟨n, e, hn, _⟩
  · omega
  · exact ⟨n, e, hn⟩
theorem wgt_le {m : Mach} {u v : List Int} {d : Nat} (h : Acc m u v d) : 0 ≤ wgt m u v ∧ wgt m u v ≤ (d : Int) := by
  rcases wgt_least m u v with ⟨_, g⟩ | ⟨n, e, _, g⟩
  · exact absurd h (g d)
  · have := g d h; omega
theorem pass_plain {a b : Mach} {u z v : List Int} (h : compF a b = (0, 0)) (hx : 0 ≤ wv a u z) (hy : 0 ≤ wv b z v) : 0 ≤ wv (compM a b) u v ∧ wv (compM a b) u v ≤ wv a u z + wv b z v ∧ wv a u z ≤ 384401000000 ∧ wv b z v ≤ 384401000000 := by
  obtain ⟨ha, hb, hc, _⟩ := compF_zero h
  obtain ⟨fx, ex⟩ := wv_nn hx
  obtain ⟨fy, ey⟩ := wv_nn hy
  obtain ⟨_, u1, z1⟩ := wF_parts fx
  obtain ⟨_, z2, v1⟩ := wF_parts fy
  have fz := wF_of hc u1 v1
  have ez : wv (compM a b) u v = wgt (compM a b) u v := by unfold wv; rw [if_pos fz]
  rw [ex] at hx
  rw [ey] at hy
  obtain ⟨d1, e1, A1⟩ := acc_of hx
  obtain ⟨d2, e2, A2⟩ := acc_of hy
  obtain ⟨d, hd, A⟩ := (acc_comp (rng_valid (valid_of ha)) (rng_valid (valid_of hb)) u v).1 (d1 + d2) ⟨z, d1, d2, rfl, A1, A2⟩
  have hl := wgt_le A
  have lu := (wordF_zero (l := u) (ix := -2) (by rw [u1])).2.1
  have lz := (wordF_zero (l := z) (ix := -3) (by rw [z1])).2.1
  have lv := (wordF_zero (l := v) (ix := -3) (by rw [v1])).2.1
  have s1 := wgt_small (valid_of ha) lu lz
  have s2 := wgt_small (valid_of hb) lz lv
  rw [ez, ex, ey]
  exact ⟨hl.1, by omega, s1, s2⟩
end Gm
namespace Go.Proofs.Ytmgpcnkmmgkjgaa
open Go.RowKit Gm Go.Sort Go.Shelf
set_option linter.unusedSimpArgs false
set_option linter.unusedVariables false
set_option maxRecDepth 100000 in
set_option maxHeartbeats 16000000 in
theorem passlaw_any (va vb u0 u1 u2 : Value) (a b : Mach) (l0 l1 l2 : List Int) (w : World) (B : Nat) (hB : B ≤ w.heap.size) (ha : MachAt w B va a) (hb : MachAt w B vb b) (hu0 : Nums w B u0 l0) (hu1 : Nums w B u1 l1) (hu2 : Nums w B u2 l2) :
    Calls Try.prog 7 #[va, vb, u0, u1, u2] w fun e w' => e = .returned (.bool true) ∧ Below w.heap.size w w' := by
  have HU0 := hide hu0
  obtain ⟨AU0, nu0, cu0, rfl, _⟩ := hu0
  have HU1 := hide hu1
  obtain ⟨AU1, nu1, cu1, rfl, _⟩ := hu1
  have HU2 := hide hu2
  obtain ⟨AU2, nu2, cu2, rfl, _⟩ := hu2
  have HMa := hide ha
  obtain ⟨Aa, AFa, na, ca, nfa, cfa, rfl, _⟩ := ha
  obtain ⟨sa, hsa⟩ : ∃ s, s = a.n := ⟨_, rfl⟩
  rw [← hsa] at HMa ⊢
  clear hsa
  have HMb := hide hb
  obtain ⟨Ab, AFb, nb, cb, nfb, cfb, rfl, _⟩ := hb
  obtain ⟨sb, hsb⟩ : ∃ s, s = b.n := ⟨_, rfl⟩
  rw [← hsb] at HMb ⊢
  clear hsb
  have heq := fun a b c d W => run_eql_fault a b c d W
  have hne := fun a b c d W => run_neq_fault a b c d W
  have hf0 : fEq 0 0 0 0 = true := rfl
  go_enter Try.func7, Try.ntmps7
  go_wp2_with fail
  have hXa : Blk ((w.alloc (Obj.cells #[.int .i64 sa, .slice Aa na ca, .slice AFa nfa cfa] 25)).alloc (Obj.cells #[.int .i64 sb, .slice Ab nb cb, .slice AFb nfb cfb] 25)) (w.heap.size) 25 #[.int .i64 sa, .slice Aa na ca, .slice AFa nfa cfa] := ((Blk.at_ rfl).alloc _)
  have hXb : Blk ((w.alloc (Obj.cells #[.int .i64 sa, .slice Aa na ca, .slice AFa nfa cfa] 25)).alloc (Obj.cells #[.int .i64 sb, .slice Ab nb cb, .slice AFb nfb cfb] 25)) (w.heap.size + 1) 25 #[.int .i64 sb, .slice Ab nb cb, .slice AFb nfb cfb] := (Blk.at_ (by simp))
  refine (composition_ex _).mono ?_
  rintro e w1 ⟨rfl, hb1⟩
  have hbw : Below w.heap.size w w1 := (show Below w.heap.size w _ by go_grown).trans (hb1.mono (by simp <;> omega))
  have ba := hXa.below hb1 (by simp <;> omega)
  have bb := hXb.below hb1 (by simp <;> omega)
  clear hb1 hXa hXb
  obtain ⟨X, hX⟩ : ∃ z, z = w.heap.size := ⟨_, rfl⟩
  have hXw : w.heap.size ≤ X := by omega
  rw [← hX] at ba bb
  simp only [← hX]
  clear hX
  go_wp2_with fail
  refine (weighed_ex _).mono ?_
  rintro e w2 ⟨rfl, hb2⟩
  replace ba := ba.below hb2 ba.lt
  replace bb := bb.below hb2 bb.lt
  replace hbw := hbw.trans (hb2.mono hbw.size)
  clear hb2
  have HC1 := hide (fun W (B : Nat) (hB : B ≤ W.heap.size) (hA : MachAt W B (.agg #[.int .i64 sa, .slice Aa na ca, .slice AFa nfa cfa]) a) (hB' : MachAt W B (.agg #[.int .i64 sb, .slice Ab nb cb, .slice AFb nfb cfb]) b) => compose_any _ _ a b W B hB hA hB')
  obtain ⟨p1, hp1⟩ : ∃ z, z = (compF a b).1 := ⟨_, rfl⟩
  obtain ⟨q1, hq1⟩ : ∃ z, z = (compF a b).2 := ⟨_, rfl⟩
  rw [← hp1, ← hq1] at HC1
  have HPQ1 := hide (show (p1, q1) = compF a b by rw [hp1, hq1])
  clear hp1 hq1
  have qba0 := ba.cell 0
  have qba1 := ba.cell 1
  have qba2 := ba.cell 2
  simp at qba0 qba1 qba2
  have qbal := ba.lt
  have qbb0 := bb.cell 0
  have qbb1 := bb.cell 1
  have qbb2 := bb.cell 2
  simp at qbb0 qbb1 qbb2
  have qbbl := bb.lt
  go_wp2_with fail
  refine (HC1.out _ _ (Nat.le_refl _) ((HMa.out.below hbw hB).mono (show B ≤ _ by have := hbw.size; omega)) ((HMb.out.below hbw hB).mono (show B ≤ _ by have := hbw.size; omega))).mono ?_
  rintro e w3 ⟨v3, rfl, hT, hb3⟩
  obtain ⟨B1, n1, c1, BF1, nf1, cf1, rfl⟩ := agg_of hT
  obtain ⟨g1, hg1⟩ : ∃ g, g = (compR a b).n := ⟨_, rfl⟩
  rw [← hg1] at hT ⊢
  clear hg1
  clear qba0 qba1 qba2 qbal
  clear qbb0 qbb1 qbb2 qbbl
  replace ba := ba.below hb3 ba.lt
  replace bb := bb.below hb3 bb.lt
  replace hbw := hbw.trans (hb3.mono hbw.size)
  clear HC1 hb3
  go_upto_region 4 with fail
  generalize hWX : World.alloc _ _ = WX
  obtain ⟨M1, hM1⟩ : ∃ z, z = w3.heap.size := ⟨_, rfl⟩
  simp only [← hM1]
  have hl1 : X + 1 < M1 := by have := bb.lt; omega
  replace ba := (by rw [← hWX]; exact (ba.alloc _).alloc _ : Blk WX _ _ _)
  replace bb := (by rw [← hWX]; exact (bb.alloc _).alloc _ : Blk WX _ _ _)
  have bM1 : Blk WX M1 25 #[.int .i64 g1, .slice B1 n1 c1, .slice BF1 nf1 cf1] := by rw [← hWX]; exact (Blk.at_ (by simp [hM1])).alloc _
  have bF1 : Blk WX (M1 + 1) 28 #[.int .i64 p1, .int .i64 q1] := by rw [← hWX]; exact Blk.at_ (by simp [hM1])
  have HT1 := hide (by rw [← hWX]; exact (hT.alloc _).alloc _ : MachNew _ WX _ _)
  replace hbw : Below w.heap.size w WX := by rw [← hWX]; exact (hbw.alloc hbw.size _).alloc (by have := hbw.size; simp <;> omega) _
  clear hT hWX hM1
  have qbF10 := bF1.cell 0
  have qbF11 := bF1.cell 1
  simp at qbF10 qbF11
  have qbF1l := bF1.lt
  by_cases hz1 : compF a b = (0, 0)
  · skip
    have hpq := HPQ1.out
    rw [hz1] at hpq
    obtain ⟨rfl, rfl⟩ : p1 = 0 ∧ q1 = 0 := ⟨congrArg Prod.fst hpq, congrArg Prod.snd hpq⟩
    have HZ1 := hide hz1
    have er1 : compR a b = compM a b := (compF_zero hz1).2.2.2
    rw [er1] at HT1
    clear hpq hz1 er1
    have HWx := hide (fun W (B : Nat) (hB : B ≤ W.heap.size) (hM : MachAt W B (.agg #[.int .i64 sa, .slice Aa na ca, .slice AFa nfa cfa]) a) (hU : Nums W B (.slice AU0 nu0 cu0) l0) (hO : Nums W B (.slice AU1 nu1 cu1) l1) => lweight_any _ _ _ a l0 l1 W B hB hM hU hO)
    obtain ⟨x, hx⟩ : ∃ z, z = wv a l0 l1 := ⟨_, rfl⟩
    rw [← hx] at HWx
    have HEx := hide hx
    clear hx
    have HWy := hide (fun W (B : Nat) (hB : B ≤ W.heap.size) (hM : MachAt W B (.agg #[.int .i64 sb, .slice Ab nb cb, .slice AFb nfb cfb]) b) (hU : Nums W B (.slice AU1 nu1 cu1) l1) (hO : Nums W B (.slice AU2 nu2 cu2) l2) => lweight_any _ _ _ b l1 l2 W B hB hM hU hO)
    obtain ⟨y, hy⟩ : ∃ z, z = wv b l1 l2 := ⟨_, rfl⟩
    rw [← hy] at HWy
    have HEy := hide hy
    clear hy
    go_upto_region 6 with fail
    have qba0 := ba.cell 0
    have qba1 := ba.cell 1
    have qba2 := ba.cell 2
    simp at qba0 qba1 qba2
    have qbal := ba.lt
    have qbb0 := bb.cell 0
    have qbb1 := bb.cell 1
    have qbb2 := bb.cell 2
    simp at qbb0 qbb1 qbb2
    have qbbl := bb.lt
    refine wp_mix (fun w' => w'.cell? ⟨X, 0, none⟩ = some (.int .i64 sa) ∧ w'.cell? ⟨X, 1, none⟩ = some (.slice Aa na ca) ∧ w'.cell? ⟨X, 2, none⟩ = some (.slice AFa nfa cfa) ∧ w'.cell? ⟨X + 1, 0, none⟩ = some (.int .i64 sb) ∧ w'.cell? ⟨X + 1, 1, none⟩ = some (.slice Ab nb cb) ∧ w'.cell? ⟨X + 1, 2, none⟩ = some (.slice AFb nfb cfb)) 7 [(0, false), (1, false), (2, false), (4, false), (5, false), (6, false), (3, true)] (by kernel_rfl) (by kernel_rfl) ?_ ?_
    · go_simp
    simp only [List.drop_succ_cons, List.drop_zero]
    repeat (refine mix_q (v := ?_) (by rfl) (by rfl) ?_ ?_; rotate_left; (focus (intro w' hC; (try dsimp only at hC); go_simp; (first | done | with_reducible rfl))); simp only [Act.put, List.setIfInBounds_toArray, List.set_cons_zero, List.set_cons_succ, List.getElem_toArray, List.getElem_cons_zero, List.getElem_cons_succ])
    refine mix_l (by rfl) (by rfl) (fun K hK => ?_)
    go_simp
    refine (HWx.out _ _ (Nat.le_refl _) ((HMa.out.below hbw.drew hB).mono (show B ≤ _ by have := hbw.drew.size; simp <;> omega)) ((HU0.out.below hbw.drew hB).mono (show B ≤ _ by have := hbw.drew.size; first | omega | (simp at this ⊢; omega))) ((HU1.out.below hbw.drew hB).mono (show B ≤ _ by have := hbw.drew.size; first | omega | (simp at this ⊢; omega)))).mono ?_
    rintro e w5 ⟨rfl, hb⟩
    replace ba := ba.drew.below hb ba.drew.lt
    replace bb := bb.drew.below hb bb.drew.lt
    replace bM1 := bM1.drew.below hb bM1.drew.lt
    replace bF1 := bF1.drew.below hb bF1.drew.lt
    replace HT1 := hide (HT1.out.drew.below hb (Nat.le_refl _))
    replace hbw := hbw.drew.trans (hb.mono hbw.drew.size)
    clear hb HWx
    clear qba0 qba1 qba2 qbal
    clear qbb0 qbb1 qbb2 qbbl
    have qba0 := ba.cell 0
    have qba1 := ba.cell 1
    have qba2 := ba.cell 2
    simp at qba0 qba1 qba2
    have qbal := ba.lt
    have qbb0 := bb.cell 0
    have qbb1 := bb.cell 1
    have qbb2 := bb.cell 2
    simp at qbb0 qbb1 qbb2
    have qbbl := bb.lt
    refine hK _ _ ⟨qba0, qba1, qba2, qbb0, qbb1, qbb2⟩ ?_
    clear hK K
    refine mix_nil ?_; try simp only [Act.put, List.setIfInBounds_toArray, List.set_cons_zero, List.set_cons_succ, List.getElem_toArray, List.getElem_cons_zero, List.getElem_cons_succ]
    go_wp2_with fail
    refine (HWy.out _ _ (Nat.le_refl _) ((HMb.out.below hbw hB).mono (show B ≤ _ by have := hbw.size; simp <;> omega)) ((HU1.out.below hbw hB).mono (show B ≤ _ by have := hbw.size; first | omega | (simp at this ⊢; omega))) ((HU2.out.below hbw hB).mono (show B ≤ _ by have := hbw.size; first | omega | (simp at this ⊢; omega)))).mono ?_
    rintro e w6 ⟨rfl, hb⟩
    replace ba := ba.below hb ba.lt
    replace bb := bb.below hb bb.lt
    replace bM1 := bM1.below hb bM1.lt
    replace bF1 := bF1.below hb bF1.lt
    replace HT1 := hide (HT1.out.below hb (Nat.le_refl _))
    replace hbw := hbw.trans (hb.mono hbw.size)
    clear hb HWy
    clear qba0 qba1 qba2 qbal
    clear qbb0 qbb1 qbb2 qbbl
    clear qbF10 qbF11 qbF1l
    go_wp2
    refine NoPanic.normal ?_
    by_cases hx : x < 0
    · have t1 : decide (x < 0) = true := decide_eq_true hx
      clear hx
      go_wp2
      exact bodyPost_ret (v := .bool true) (by simp [results, Try.results7, go_sem]) rfl ⟨rfl, hbw⟩
    have t1 : decide (x < 0) = false := decide_eq_false hx
    by_cases hy : y < 0
    · have t2 : decide (y < 0) = true := decide_eq_true hy
      clear hx hy
      go_wp2
      exact bodyPost_ret (v := .bool true) (by simp [results, Try.results7, go_sem]) rfl ⟨rfl, hbw⟩
    have t2 : decide (y < 0) = false := decide_eq_false hy
    have hpl := pass_plain (u := l0) (z := l1) (v := l2) HZ1.out (by rw [← HEx.out]; omega) (by rw [← HEy.out]; omega)
    have HW1 := hide (fun W (B : Nat) (hB : B ≤ W.heap.size) (hM : MachAt W B (.agg #[.int .i64 g1, .slice B1 n1 c1, .slice BF1 nf1 cf1]) (compM a b)) (hU : Nums W B (.slice AU0 nu0 cu0) l0) (hO : Nums W B (.slice AU2 nu2 cu2) l2) => lweight_any _ _ _ (compM a b) l0 l2 W B hB hM hU hO)
    obtain ⟨z, hz⟩ : ∃ z, z = wv (compM a b) l0 l2 := ⟨_, rfl⟩
    rw [← hz] at HW1
    rw [← hz, ← HEx.out, ← HEy.out] at hpl
    obtain ⟨z0, z1, z2, z3⟩ := hpl
    have wsum : IntKind.i64.wrap (x + y) = x + y := IntWalk.i64_in _ (by omega)
    have t3 : decide (z ≥ 0) = true := decide_eq_true z0
    have t3' : decide (0 ≤ z) = true := decide_eq_true z0
    have t4 : decide (z ≤ x + y) = true := decide_eq_true z1
    clear hz z0 z1 z2 z3 hx hy
    have qbM10 := bM1.cell 0
    have qbM11 := bM1.cell 1
    have qbM12 := bM1.cell 2
    simp at qbM10 qbM11 qbM12
    have qbM1l := bM1.lt
    go_wp2_with fail
    refine (HW1.out _ _ (Nat.le_refl _) (HT1.out.at_) ((HU0.out.below hbw hB).mono (by have := hbw.size; omega)) ((HU2.out.below hbw hB).mono (by have := hbw.size; omega))).mono ?_
    rintro e w7 ⟨rfl, hb⟩
    replace ba := ba.below hb ba.lt
    replace bb := bb.below hb bb.lt
    replace bM1 := bM1.below hb bM1.lt
    replace bF1 := bF1.below hb bF1.lt
    replace HT1 := hide (HT1.out.below hb (Nat.le_refl _))
    replace hbw := hbw.trans (hb.mono hbw.size)
    clear qbM10 qbM11 qbM12 qbM1l
    clear hb HW1
    go_wp2
    exact bodyPost_ret (v := .bool true) (by simp [results, Try.results7, go_sem]) rfl ⟨rfl, hbw⟩
  · skip
    have hpq := HPQ1.out
    have hz0 : fEq p1 q1 0 0 = false := by
      cases e : fEq p1 q1 0 0
      · rfl
      · have e2 : fEq (compF a b).1 (compF a b).2 0 0 = true := by rw [← hpq]; exact e
        exact absurd (fEq0K.1 e2) hz1
    clear hpq
    go_wp2
    exact bodyPost_ret (v := .bool true) (by simp [results, Try.results7, go_sem]) rfl ⟨rfl, hbw⟩
end Go.Proofs.Ytmgpcnkmmgkjgaa
