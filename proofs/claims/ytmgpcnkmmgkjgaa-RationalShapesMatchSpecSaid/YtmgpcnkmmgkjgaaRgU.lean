/- The reference's Unioned, walked. Written by gen_rg3.py. -/
import Derived.Test.YtmgpcnkmmgkjgaaRgP
import Derived.Test.YtmgpcnkmmgkjgaaUnW
import Derived.Test.YtmgpcnkmmgkjgaaMF
import Derived.IntWalk
namespace Go.Proofs.Ytmgpcnkmmgkjgaa
open Go.RowKit Gm Go.Sort Go.Shelf
set_option linter.unusedSimpArgs false
set_option linter.unusedVariables false
theorem fEq0b {p : Int × Int} (h : p ≠ (0, 0)) : fEq p.1 p.2 0 0 = false := by
  cases e : fEq p.1 p.2 0 0
  · rfl
  · exact absurd (fEq0R.1 e) h
theorem uni_perm (A B E1 E2 : List Arc) : (((([] ++ A) ++ B) ++ E1) ++ E2).Perm (E1 ++ E2 ++ A ++ B) := by
  rw [List.nil_append]
  simpa [List.append_assoc] using (List.perm_append_comm (l₁ := A ++ B) (l₂ := E1 ++ E2))
set_option maxRecDepth 100000 in
set_option maxHeartbeats 16000000 in
theorem runi_bad1 (va vb : Value) (a b : Mach) (w : World) (B : Nat) (hB : B ≤ w.heap.size) (ha : MachAt w B va a) (hb : MachAt w B vb b) (hz : validate a ≠ (0, 0)) :
    Calls Try.prog 20 #[va, vb] w fun e w' => e = .returned (.tuple #[.agg #[.int .i64 0, .slice none 0 0, .slice none 0 0], .agg #[.int .i64 (validate a).1, .int .i64 (validate a).2]]) ∧ Below w.heap.size w w' := by
  have HA := hide ha
  obtain ⟨A, AF, n, c, nf, cf, rfl, _⟩ := ha
  obtain ⟨A', AF', n', c', nf', cf', rfl, _⟩ := hb
  have hne := fun a b c d W => run_neq_fault a b c d W
  have hf0 : fEq 0 0 0 0 = true := rfl
  have hQ := fun W (hB : B ≤ W.heap.size) (h : MachAt W B (.agg #[.int .i64 a.n, .slice A n c, .slice AF nf cf]) a) => mfault_spec _ a W B hB h
  have hz0 : fEq (validate a).1 (validate a).2 0 0 = false := fEq0b hz
  obtain ⟨p, hp⟩ : ∃ p, p = (validate a).1 := ⟨_, rfl⟩
  obtain ⟨q, hq⟩ : ∃ p, p = (validate a).2 := ⟨_, rfl⟩
  rw [← hp, ← hq] at hQ hz0 ⊢
  have HQ := hide hQ
  clear hp hq hz hQ
  go_enter Try.func20, Try.ntmps20
  go_wp2_with fail
  refine (HQ.out _ (by simp <;> omega) (HA.out.below (show Below w.heap.size w _ by go_grown) hB)).mono ?_
  rintro e w1 ⟨rfl, hb1⟩
  have hbw1 : Below w.heap.size w w1 := Below.trans (show Below w.heap.size w _ by go_grown) (hb1.mono (by simp <;> omega))
  have bR1 : Blk w1 (w.heap.size + 1 + 1) 25 #[.int .i64 0, .slice none 0 0, .slice none 0 0] := ((Blk.at_ (by simp)).alloc _).below hb1 (by simp <;> omega)
  have bF1 : Blk w1 (w.heap.size + 1 + 1 + 1) 28 #[.int .i64 0, .int .i64 0] := (Blk.at_ (by simp)).below hb1 (by simp)
  clear hb1 HQ
  have q0 := bR1.cell 0
  have q1 := bR1.cell 1
  have q2 := bR1.cell 2
  have q3 := bF1.cell 0
  have q4 := bF1.cell 1
  have qf := bR1.frozen 0
  have qf1 := bR1.frozen 1
  have qf2 := bR1.frozen 2
  have qf3 := bF1.frozen 0
  have qf4 := bF1.frozen 1
  simp at q0 q1 q2 q3 q4
  have hs3 := bR1.lt
  have hs4 := bF1.lt
  have hs5 := hbw1.size
  clear bR1 bF1
  go_wp2
  refine wp_mix (fun w' => w'.cell? ⟨w1.heap.size, 0, none⟩ = some (.int .i64 p) ∧ w'.cell? ⟨w1.heap.size, 1, none⟩ = some (.int .i64 q)) 3 [(0, false), (1, false), (2, true)] (by kernel_rfl) (by kernel_rfl) ?_ ?_
  · go_simp
  simp only [List.drop_succ_cons, List.drop_zero]
  repeat (refine mix_q (v := ?_) (by rfl) (by rfl) ?_ ?_; rotate_left; (focus (intro w' hC; (try dsimp only at hC); go_simp; (first | done | with_reducible rfl))); simp only [Act.put, List.setIfInBounds_toArray, List.set_cons_zero, List.set_cons_succ, List.getElem_toArray, List.getElem_cons_zero, List.getElem_cons_succ])
  refine mix_l (by rfl) (by rfl) (fun K hK => ?_)
  go_simp
  refine hK _ _ (by go_simp) ?_
  clear hK K
  refine mix_nil ?_; try simp only [Act.put, List.setIfInBounds_toArray, List.set_cons_zero, List.set_cons_succ, List.getElem_toArray, List.getElem_cons_zero, List.getElem_cons_succ]
  go_wp2
  refine NoPanic.normal ?_
  go_wp2
  exact bodyPost_ret (v := .tuple #[.agg #[.int .i64 0, .slice none 0 0, .slice none 0 0], .agg #[.int .i64 p, .int .i64 q]]) (by simp [results, Try.results20, go_sem, q0, q1, q2, q3, q4, qf, qf1, qf2, qf3, qf4, hs3, hs4]) rfl ⟨rfl, by go_grown⟩
set_option maxRecDepth 100000 in
set_option maxHeartbeats 16000000 in
theorem runi_bad2 (va vb : Value) (a b : Mach) (w : World) (B : Nat) (hB : B ≤ w.heap.size) (ha : MachAt w B va a) (hb : MachAt w B vb b) (hv : validate a = (0, 0)) (hz : validate b ≠ (0, 0)) :
    Calls Try.prog 20 #[va, vb] w fun e w' => e = .returned (.tuple #[.agg #[.int .i64 0, .slice none 0 0, .slice none 0 0], .agg #[.int .i64 (validate b).1, .int .i64 (validate b).2]]) ∧ Below w.heap.size w w' := by
  have HA := hide ha
  have HB := hide hb
  obtain ⟨A, AF, n, c, nf, cf, rfl, _⟩ := ha
  obtain ⟨A', AF', n', c', nf', cf', rfl, _⟩ := hb
  have hne := fun a b c d W => run_neq_fault a b c d W
  have hf0 : fEq 0 0 0 0 = true := rfl
  have hQ := fun W (hB : B ≤ W.heap.size) (h : MachAt W B (.agg #[.int .i64 a.n, .slice A n c, .slice AF nf cf]) a) => mfault_spec _ a W B hB h
  have hQ2 := fun W (hB : B ≤ W.heap.size) (h : MachAt W B (.agg #[.int .i64 b.n, .slice A' n' c', .slice AF' nf' cf']) b) => mfault_spec _ b W B hB h
  rw [hv] at hQ
  have hz0 : fEq (validate b).1 (validate b).2 0 0 = false := fEq0b hz
  obtain ⟨p, hp⟩ : ∃ p, p = (validate b).1 := ⟨_, rfl⟩
  obtain ⟨q, hq⟩ : ∃ p, p = (validate b).2 := ⟨_, rfl⟩
  rw [← hp, ← hq] at hQ2 hz0 ⊢
  have HQ := hide hQ
  have HQ2 := hide hQ2
  clear hp hq hz hQ hQ2 hv
  go_enter Try.func20, Try.ntmps20
  go_wp2_with fail
  refine (HQ.out _ (by simp <;> omega) (HA.out.below (show Below w.heap.size w _ by go_grown) hB)).mono ?_
  rintro e w1 ⟨rfl, hb1⟩
  have hbw1 : Below w.heap.size w w1 := Below.trans (show Below w.heap.size w _ by go_grown) (hb1.mono (by simp <;> omega))
  have bY1 : Blk w1 (w.heap.size + 1) 25 #[.int .i64 b.n, .slice A' n' c', .slice AF' nf' cf'] := (((Blk.at_ (by simp)).alloc _).alloc _).below hb1 (by simp <;> omega)
  have bR1 : Blk w1 (w.heap.size + 1 + 1) 25 #[.int .i64 0, .slice none 0 0, .slice none 0 0] := ((Blk.at_ (by simp)).alloc _).below hb1 (by simp <;> omega)
  have bF1 : Blk w1 (w.heap.size + 1 + 1 + 1) 28 #[.int .i64 0, .int .i64 0] := (Blk.at_ (by simp)).below hb1 (by simp)
  clear hb1 HQ
  have y0 := bY1.cell 0
  have y1 := bY1.cell 1
  have y2 := bY1.cell 2
  simp at y0 y1 y2
  have lY := bY1.lt
  go_wp2_with fail
  refine (HQ2.out _ (by have := hbw1.size; simp <;> omega) (HB.out.below (hbw1.alloc hbw1.size _) hB)).mono ?_
  rintro e w2 ⟨rfl, hb2⟩
  have hbw2 := (hbw1.alloc hbw1.size _).trans (hb2.mono (by have := hbw1.size; simp <;> omega))
  have bR2 := (bR1.alloc _).below hb2 (by have := bR1.lt; simp <;> omega)
  have bF2 := (bF1.alloc _).below hb2 (by have := bF1.lt; simp <;> omega)
  clear hb2 HQ2 hbw1 bR1 bF1 bY1 y0 y1 y2 lY
  have q0 := bR2.cell 0
  have q1 := bR2.cell 1
  have q2 := bR2.cell 2
  have q3 := bF2.cell 0
  have q4 := bF2.cell 1
  have qf := bR2.frozen 0
  have qf1 := bR2.frozen 1
  have qf2 := bR2.frozen 2
  have qf3 := bF2.frozen 0
  have qf4 := bF2.frozen 1
  simp at q0 q1 q2 q3 q4
  have hs3 := bR2.lt
  have hs4 := bF2.lt
  have hs5 := hbw2.size
  clear bR2 bF2
  go_wp2
  refine wp_mix (fun w' => w'.cell? ⟨w2.heap.size, 0, none⟩ = some (.int .i64 p) ∧ w'.cell? ⟨w2.heap.size, 1, none⟩ = some (.int .i64 q)) 3 [(0, false), (1, false), (2, true)] (by kernel_rfl) (by kernel_rfl) ?_ ?_
  · go_simp
  simp only [List.drop_succ_cons, List.drop_zero]
  repeat (refine mix_q (v := ?_) (by rfl) (by rfl) ?_ ?_; rotate_left; (focus (intro w' hC; (try dsimp only at hC); go_simp; (first | done | with_reducible rfl))); simp only [Act.put, List.setIfInBounds_toArray, List.set_cons_zero, List.set_cons_succ, List.getElem_toArray, List.getElem_cons_zero, List.getElem_cons_succ])
  refine mix_l (by rfl) (by rfl) (fun K hK => ?_)
  go_simp
  refine hK _ _ (by go_simp) ?_
  clear hK K
  refine mix_nil ?_; try simp only [Act.put, List.setIfInBounds_toArray, List.set_cons_zero, List.set_cons_succ, List.getElem_toArray, List.getElem_cons_zero, List.getElem_cons_succ]
  go_wp2
  refine NoPanic.normal ?_
  go_wp2
  exact bodyPost_ret (v := .tuple #[.agg #[.int .i64 0, .slice none 0 0, .slice none 0 0], .agg #[.int .i64 p, .int .i64 q]]) (by simp [results, Try.results20, go_sem, q0, q1, q2, q3, q4, qf, qf1, qf2, qf3, qf4, hs3, hs4]) rfl ⟨rfl, by go_grown⟩
set_option maxRecDepth 100000 in
set_option maxHeartbeats 16000000 in
theorem runi_good (va vb : Value) (a b : Mach) (w : World) (B : Nat) (hB : B ≤ w.heap.size) (ha : MachAt w B va a) (hb : MachAt w B vb b) (hv : validate a = (0, 0)) (hv' : validate b = (0, 0)) :
    Calls Try.prog 20 #[va, vb] w fun e w' => ∃ v', e = .returned (.tuple #[v', .agg #[.int .i64 (uniF a b).1, .int .i64 (uniF a b).2]]) ∧ MachNew w.heap.size w' v' (uniR a b) ∧ Below w.heap.size w w' := by
  have HA := hide ha
  have HB := hide hb
  obtain ⟨A, AF, n, c, nf, cf, rfl, HN, HF, hnc, hnfc, hnb, hnfb, hA, hF⟩ := ha
  obtain ⟨A', AF', n', c', nf', cf', rfl, HN', HF', hnc', hnfc', hnb', hnfb', hA', hF'⟩ := hb
  have hne := fun a b c d W => run_neq_fault a b c d W
  have hf0 : fEq 0 0 0 0 = true := rfl
  have hV := valid_of hv
  have hV' := valid_of hv'
  have HV := hide hV
  have HV' := hide hV'
  have slen : ∀ m : Mach, Valid m → m.arcs.length + m.fins.length ≤ 2401 := fun m h => by
    have h1 := star_len h
    have h2 : (starArcs m).length = (if 0 < m.n then 1 else 0) + m.arcs.length + m.fins.length := by unfold starArcs; simp only [List.length_append, List.length_map]; split <;> simp
    omega
  have hlf := slen a hV
  have hlf' := slen b hV'
  rw [HN.out, HF.out] at hlf
  rw [HN'.out, HF'.out] at hlf'
  have HOKA := hide (show ∀ x ∈ a.arcs, 0 ≤ x.f ∧ x.f < 400 ∧ 0 ≤ x.t ∧ x.t < 400 from fun x hx => by have := okArc_iff (hV.okA hx); have := hV.n4; omega)
  have HOKF := hide (show ∀ x ∈ a.fins, 0 ≤ x.s ∧ x.s < 400 ∧ True ∧ True from fun x hx => by have := okFin_iff (hV.okF hx); have := hV.n4; exact ⟨by omega, by omega, trivial, trivial⟩)
  have HOKA' := hide (show ∀ x ∈ b.arcs, 0 ≤ x.f ∧ x.f < 400 ∧ 0 ≤ x.t ∧ x.t < 400 from fun x hx => by have := okArc_iff (hV'.okA hx); have := hV'.n4; omega)
  have HOKF' := hide (show ∀ x ∈ b.fins, 0 ≤ x.s ∧ x.s < 400 ∧ True ∧ True from fun x hx => by have := okFin_iff (hV'.okF hx); have := hV'.n4; exact ⟨by omega, by omega, trivial, trivial⟩)
  have hn0 := hV.n0
  have hn4 := hV.n4
  have hn0' := hV'.n0
  have hn4' := hV'.n4
  have HRA := hide hA
  have HRF := hide hF
  have HRA' := hide hA'
  have HRF' := hide hF'
  obtain ⟨ia, ha0, ha1, ha2, ha3⟩ := info_parts arc_info
  obtain ⟨iF, hF0, hF1, hF2, hF3⟩ := info_parts fin_info
  have hQ := fun W (hB : B ≤ W.heap.size) (h : MachAt W B (.agg #[.int .i64 a.n, .slice A n c, .slice AF nf cf]) a) => mfault_spec _ a W B hB h
  have hQ2 := fun W (hB : B ≤ W.heap.size) (h : MachAt W B (.agg #[.int .i64 b.n, .slice A' n' c', .slice AF' nf' cf']) b) => mfault_spec _ b W B hB h
  rw [hv] at hQ
  rw [hv'] at hQ2
  have HQ := hide hQ
  have HQ2 := hide hQ2
  have HTW := hide (show twoF a b = (0, 0) by unfold twoF; rw [if_pos hv]; exact hv')
  obtain ⟨dn, hdn⟩ : ∃ z, z = 1 + a.n := ⟨_, rfl⟩
  obtain ⟨n0, hn00⟩ : ∃ z, z = dn + b.n := ⟨_, rfl⟩
  have HDN := hide hdn
  have HN0 := hide (show n0 = 1 + a.n + b.n by rw [hn00, hdn])
  have hd1 : 1 ≤ dn := by omega
  have hd2 : dn ≤ 401 := by omega
  have hn01 : 0 ≤ n0 := by omega
  have hn02 : n0 ≤ 801 := by omega
  have hdn2 : 1 + a.n = dn := hdn.symm
  have hn03 : dn + b.n = n0 := hn00.symm
  have hwn : IntKind.i64.wrap dn = dn := IntWalk.i64_in _ (by omega)
  have hwn2 : IntKind.i64.wrap n0 = n0 := IntWalk.i64_in _ (by omega)
  clear hQ hQ2 hA hF hA' hF' hv hv' hV hV' slen hdn hn00
  go_enter Try.func20, Try.ntmps20
  go_wp2_with fail
  refine (HQ.out _ (by simp <;> omega) (HA.out.below (show Below w.heap.size w _ by go_grown) hB)).mono ?_
  rintro e w1 ⟨rfl, hb1⟩
  have hbw1 : Below w.heap.size w w1 := Below.trans (show Below w.heap.size w _ by go_grown) (hb1.mono (by simp <;> omega))
  have bX1 : Blk w1 w.heap.size 25 #[.int .i64 a.n, .slice A n c, .slice AF nf cf] := ((((Blk.at_ rfl).alloc _).alloc _).alloc _).below hb1 (by simp <;> omega)
  have bY1 : Blk w1 (w.heap.size + 1) 25 #[.int .i64 b.n, .slice A' n' c', .slice AF' nf' cf'] := (((Blk.at_ (by simp)).alloc _).alloc _).below hb1 (by simp <;> omega)
  have bR1 : Blk w1 (w.heap.size + 1 + 1) 25 #[.int .i64 0, .slice none 0 0, .slice none 0 0] := ((Blk.at_ (by simp)).alloc _).below hb1 (by simp <;> omega)
  have bF1 : Blk w1 (w.heap.size + 1 + 1 + 1) 28 #[.int .i64 0, .int .i64 0] := (Blk.at_ (by simp)).below hb1 (by simp)
  clear hb1 HQ
  have y0 := bY1.cell 0
  have y1 := bY1.cell 1
  have y2 := bY1.cell 2
  simp at y0 y1 y2
  have lY := bY1.lt
  go_wp2_with fail
  refine (HQ2.out _ (by have := hbw1.size; simp <;> omega) (HB.out.below (hbw1.alloc hbw1.size _) hB)).mono ?_
  rintro e w2 ⟨rfl, hb2⟩
  have hbw2 := (hbw1.alloc hbw1.size _).trans (hb2.mono (by have := hbw1.size; simp <;> omega))
  have bX2 := (bX1.alloc _).below hb2 (by have := bX1.lt; simp <;> omega)
  have bY2 := (bY1.alloc _).below hb2 (by have := bY1.lt; simp <;> omega)
  have bR2 := (bR1.alloc _).below hb2 (by have := bR1.lt; simp <;> omega)
  have bF2 := (bF1.alloc _).below hb2 (by have := bF1.lt; simp <;> omega)
  clear hb2 HQ2 hbw1 bR1 bF1 bX1 bY1 y0 y1 y2 lY
  have x0 := bX2.cell 0
  have y0 := bY2.cell 0
  simp at x0 y0
  have lX := bX2.lt
  have lY := bY2.lt
  go_upto_region 9 with fail
  generalize hW2 : World.alloc _ _ = W2
  obtain ⟨O, hO⟩ : ∃ z, z = w2.heap.size + 1 := ⟨_, rfl⟩
  obtain ⟨base, hbase⟩ : ∃ z, z = w2.heap.size + 1 + 1 := ⟨_, rfl⟩
  obtain ⟨G, hG⟩ : ∃ z, z = base := ⟨_, rfl⟩
  have HBW := hide (show Below w.heap.size w W2 by rw [← hW2]; exact (hbw2.alloc hbw2.size _).alloc (by have := hbw2.size; simp <;> omega) _)
  have HX2 := hide (show Blk W2 w.heap.size 25 #[.int .i64 a.n, .slice A n c, .slice AF nf cf] by rw [← hW2]; exact (bX2.alloc _).alloc _)
  have HY2 := hide (show Blk W2 (w.heap.size + 1) 25 #[.int .i64 b.n, .slice A' n' c', .slice AF' nf' cf'] by rw [← hW2]; exact (bY2.alloc _).alloc _)
  have HR2 := hide (show Blk W2 (w.heap.size + 1 + 1) 25 #[.int .i64 0, .slice none 0 0, .slice none 0 0] by rw [← hW2]; exact (bR2.alloc _).alloc _)
  have HF2 := hide (show Blk W2 (w.heap.size + 1 + 1 + 1) 28 #[.int .i64 0, .int .i64 0] by rw [← hW2]; exact (bF2.alloc _).alloc _)
  have bO : Blk W2 O 25 #[.int .i64 n0, .slice none 0 0, .slice none 0 0] := by rw [← hW2]; exact Blk.at_ (by simp [hO])
  have hbz : base ≤ W2.heap.size := by rw [← hW2, hbase]; simp
  have hp0 : w.heap.size + 1 + 1 + 1 < O := by have := bF2.lt; omega
  have hOb2 : O < base := by omega
  have hOG : O < G := by omega
  have hGb : G ≤ base := by omega
  have hmk : Mk W2 O base G n0 0 [] 0 [] := ⟨none, 0, none, 0, bO, World.ownsRow_nil _ _ _ _, World.ownsRow_nil _ _ _ _, by simp [Value.ownBlock]⟩
  have HMK := hide hmk
  have HBK := hide (Below.refl O W2)
  have HRA2 := hide ((HRA.out.below HBW.out hB).mono (show B ≤ w.heap.size by exact hB))
  have HRF2 := hide ((HRF.out.below HBW.out hB).mono (show B ≤ w.heap.size by exact hB))
  have HRA2' := hide ((HRA'.out.below HBW.out hB).mono (show B ≤ w.heap.size by exact hB))
  have HRF2' := hide ((HRF'.out.below HBW.out hB).mono (show B ≤ w.heap.size by exact hB))
  clear x0 y0 lX lY
  have x1 := HX2.out.cell 1
  simp at x1
  have lX := HX2.out.lt
  simp only [← hO]
  clear hmk hW2 hG hO hbase bX2 bY2 bR2 bF2 bO hdn2 hn03 hwn hwn2
  go_wp2
  clear x1 lX
  have HMK0 := hide (show Mk _ O base G n0 0 (([] : List Arc) ++ (a.arcs.take 0).map (shA 1)) 0 ([] : List Fnl) from by simpa using HMK.out)
  go_loopw [43] (fun iv wr => ∃ k : Nat, k ≤ n ∧ iv = .int .i64 k ∧ Hid (Mk wr O base G n0 k (([] : List Arc) ++ (a.arcs.take k).map (shA 1)) 0 ([] : List Fnl)) ∧ Hid (Below O W2 wr) ∧ base ≤ wr.heap.size) (fun iv _ => n - (intOf iv).toNat)
  case atStart => exact ⟨0, by omega, rfl, HMK0, HBK, hbz⟩
  case round =>
    clear HMK0 HMK HBK hbz
    obtain ⟨k, hk, rfl, HMK, HBK, hbz⟩ := hrel
    by_cases hkn : k < n
    · skip
      obtain ⟨A5, c5, AF5, cf5, bO5, hown5, hfin5, hfo5⟩ := HMK.out
      have lO := bO5.lt
      have o1 := bO5.cell 1
      have of1 := bO5.frozen 1
      simp at o1
      have HBKO := hide bO5
      have HOWN := hide hown5
      have HFIN := hide hfin5
      have HFO := hide hfo5
      have hlow : ∀ q, (Value.slice A5 k c5).ownBlock = some q → base ≤ q := fun q hq => (hown5.lt q hq).1
      have HLOW := hide hlow
      have hneO : (Value.slice A5 k c5).ownBlock ≠ some O := fun e => by have := hlow _ e; omega
      clear hlow HMK bO5 hown5 hfin5 hfo5
      obtain ⟨bb, off, x, rfl, hbB, d0, d1, d2, d3, d4, HX⟩ := arcs_at (HRA2.out.below HBK.out (by omega)) hkn
      have hkl : k < a.arcs.length := by rw [HN.out]; exact hkn
      obtain ⟨r0_, r1_, r2_, r3_⟩ := HOKA.out x (by rw [← HX.out]; simp [List.getD, hkl])
      have lb : bb < wr.heap.size := by omega
      have HTK := hide (take_push hkl HX.out)
      have w0_ : IntKind.i64.wrap (x.f + 1) = x.f + 1 := IntWalk.i64_in _ (by omega)
      have w1_ : IntKind.i64.wrap (x.t + 1) = x.t + 1 := IntWalk.i64_in _ (by omega)
      clear hkl HX
      go_wp2_with (at_builtin; refine wpList_append_own _ rfl (.tmp 48) (.tmp 62) 22 rfl base 45 ia _ 5 40 Try.underlying22 ha0 ha1 ha2 ha3 rfl (by omega) (.slice A5 k c5) k _ rfl ((HOWN.out.alloc _).alloc _) ⟨wr.heap.size + 1, 0, none⟩ 1 1 (arcRow [shA 1 x]) rfl (by rfl) (World.news_of_block (cs := (arcRow [shA 1 x]).toArray) (t := 45) (fr := (0, 0)) (Blk.at_ (by simp))) (arcRow_one _) (by simp only [maxLen]; omega) (by omega) (by simp <;> omega) ?_; intro v' w6 hown2 hg2 _; obtain ⟨Av, cv, rfl, hkcv, _⟩ := own_value hown2; have o1' := far_cell hg2 hneO (o := 1) (v := (.slice A5 k c5)) (by exact ((HBKO.out.alloc _).alloc _).cell 1); have bO6 := ((HBKO.out.alloc _).alloc _).grown hg2 (Ne.symm hneO); have of1' := bO6.frozen 1; have lO6 := bO6.lt)
      have hs6 := hg2.size
      simp at hs6
      go_roundw
      case rel => exact ⟨k + 1, by omega, by go_num, hide (by rw [HTK.out, List.map_append, ← List.append_assoc]; exact mk_pushA ((HBKO.out.alloc _).alloc _) ((HOWN.out.alloc _).alloc _) ((HFIN.out.alloc _).alloc _) HFO.out hg2 hown2 hOb2), hide ((((HBK.out.alloc (by omega) _).alloc (by simp <;> omega) _).grown hg2 (by simp <;> omega) (fun q hq => by have := HLOW.out q hq; omega)).setCell (by simp) _), by simp [World.setCell]; omega⟩
      case measure => simp [intOf]; omega
    · obtain rfl : n = k := by omega
      replace HMK := hide (show Mk wr O base G n0 n (([] : List Arc) ++ a.arcs.map (shA 1)) 0 ([] : List Fnl) by have h := HMK.out; rw [List.take_of_length_le (by rw [HN.out]; exact Nat.le_refl _)] at h; exact h)
      have bXX := HY2.out.below HBK.out (by omega)
      have x1 := bXX.cell 1
      simp at x1
      have lXX := bXX.lt
      go_wp2
      clear bXX x1 lXX
      have HMK0 := hide (show Mk _ O base G n0 (n + 0) ((([] : List Arc) ++ a.arcs.map (shA 1)) ++ (b.arcs.take 0).map (shA dn)) 0 ([] : List Fnl) from by simpa using HMK.out)
      go_loopw [69] (fun iv wr => ∃ k : Nat, k ≤ n' ∧ iv = .int .i64 k ∧ Hid (Mk wr O base G n0 (n + k) ((([] : List Arc) ++ a.arcs.map (shA 1)) ++ (b.arcs.take k).map (shA dn)) 0 ([] : List Fnl)) ∧ Hid (Below O W2 wr) ∧ base ≤ wr.heap.size) (fun iv _ => n' - (intOf iv).toNat)
      case atStart => exact ⟨0, by omega, rfl, HMK0, HBK, hbz⟩
      case round =>
        clear HMK0 HMK HBK hbz
        obtain ⟨k, hk, rfl, HMK, HBK, hbz⟩ := hrel
        by_cases hkn : k < n'
        · skip
          obtain ⟨A5, c5, AF5, cf5, bO5, hown5, hfin5, hfo5⟩ := HMK.out
          have lO := bO5.lt
          have o1 := bO5.cell 1
          have of1 := bO5.frozen 1
          simp at o1
          have HBKO := hide bO5
          have HOWN := hide hown5
          have HFIN := hide hfin5
          have HFO := hide hfo5
          have hlow : ∀ q, (Value.slice A5 (n + k) c5).ownBlock = some q → base ≤ q := fun q hq => (hown5.lt q hq).1
          have HLOW := hide hlow
          have hneO : (Value.slice A5 (n + k) c5).ownBlock ≠ some O := fun e => by have := hlow _ e; omega
          clear hlow HMK bO5 hown5 hfin5 hfo5
          obtain ⟨bb, off, x, rfl, hbB, d0, d1, d2, d3, d4, HX⟩ := arcs_at (HRA2'.out.below HBK.out (by omega)) hkn
          have hkl : k < b.arcs.length := by rw [HN'.out]; exact hkn
          obtain ⟨r0_, r1_, r2_, r3_⟩ := HOKA'.out x (by rw [← HX.out]; simp [List.getD, hkl])
          have lb : bb < wr.heap.size := by omega
          have HTK := hide (take_push hkl HX.out)
          have w0_ : IntKind.i64.wrap (x.f + dn) = x.f + dn := IntWalk.i64_in _ (by omega)
          have w1_ : IntKind.i64.wrap (x.t + dn) = x.t + dn := IntWalk.i64_in _ (by omega)
          clear hkl HX
          go_wp2_with (at_builtin; refine wpList_append_own _ rfl (.tmp 74) (.tmp 90) 22 rfl base 45 ia _ 5 40 Try.underlying22 ha0 ha1 ha2 ha3 rfl (by omega) (.slice A5 (n + k) c5) (n + k) _ rfl ((HOWN.out.alloc _).alloc _) ⟨wr.heap.size + 1, 0, none⟩ 1 1 (arcRow [shA dn x]) rfl (by rfl) (World.news_of_block (cs := (arcRow [shA dn x]).toArray) (t := 45) (fr := (0, 0)) (Blk.at_ (by simp))) (arcRow_one _) (by simp only [maxLen]; omega) (by omega) (by simp <;> omega) ?_; intro v' w6 hown2 hg2 _; obtain ⟨Av, cv, rfl, hkcv, _⟩ := own_value hown2; have o1' := far_cell hg2 hneO (o := 1) (v := (.slice A5 (n + k) c5)) (by exact ((HBKO.out.alloc _).alloc _).cell 1); have bO6 := ((HBKO.out.alloc _).alloc _).grown hg2 (Ne.symm hneO); have of1' := bO6.frozen 1; have lO6 := bO6.lt)
          have hs6 := hg2.size
          simp at hs6
          go_roundw
          case rel => exact ⟨k + 1, by omega, by go_num, hide (by rw [HTK.out, List.map_append, ← List.append_assoc]; exact mk_pushA ((HBKO.out.alloc _).alloc _) ((HOWN.out.alloc _).alloc _) ((HFIN.out.alloc _).alloc _) HFO.out hg2 hown2 hOb2), hide ((((HBK.out.alloc (by omega) _).alloc (by simp <;> omega) _).grown hg2 (by simp <;> omega) (fun q hq => by have := HLOW.out q hq; omega)).setCell (by simp) _), by simp [World.setCell]; omega⟩
          case measure => simp [intOf]; omega
        · obtain rfl : n' = k := by omega
          replace HMK := hide (show Mk wr O base G n0 (n + n') ((([] : List Arc) ++ a.arcs.map (shA 1)) ++ b.arcs.map (shA dn)) 0 ([] : List Fnl) by have h := HMK.out; rw [List.take_of_length_le (by rw [HN'.out]; exact Nat.le_refl _)] at h; exact h)
          have bXX := HX2.out.below HBK.out (by omega)
          have x1 := bXX.cell 2
          simp at x1
          have lXX := bXX.lt
          go_wp2
          clear bXX x1 lXX
          have HMK0 := hide (show Mk _ O base G n0 (n + n') ((([] : List Arc) ++ a.arcs.map (shA 1)) ++ b.arcs.map (shA dn)) 0 (([] : List Fnl) ++ (a.fins.take 0).map (shF 1)) from by simpa using HMK.out)
          go_loopw [97] (fun iv wr => ∃ k : Nat, k ≤ nf ∧ iv = .int .i64 k ∧ Hid (Mk wr O base G n0 (n + n') ((([] : List Arc) ++ a.arcs.map (shA 1)) ++ b.arcs.map (shA dn)) k (([] : List Fnl) ++ (a.fins.take k).map (shF 1))) ∧ Hid (Below O W2 wr) ∧ base ≤ wr.heap.size) (fun iv _ => nf - (intOf iv).toNat)
          case atStart => exact ⟨0, by omega, rfl, HMK0, HBK, hbz⟩
          case round =>
            clear HMK0 HMK HBK hbz
            obtain ⟨k, hk, rfl, HMK, HBK, hbz⟩ := hrel
            by_cases hkn : k < nf
            · skip
              obtain ⟨A5, c5, AF5, cf5, bO5, hown5, hfin5, hfo5⟩ := HMK.out
              have lO := bO5.lt
              have o1 := bO5.cell 2
              have of1 := bO5.frozen 2
              simp at o1
              have HBKO := hide bO5
              have HOWN := hide hown5
              have HFIN := hide hfin5
              have HFO := hide hfo5
              have hlow : ∀ q, (Value.slice AF5 k cf5).ownBlock = some q → G ≤ q := fun q hq => (hfin5.lt q hq).1
              have HLOW := hide hlow
              have hneO : (Value.slice AF5 k cf5).ownBlock ≠ some O := fun e => by have := hlow _ e; omega
              clear hlow HMK bO5 hown5 hfin5 hfo5
              obtain ⟨bb, off, x, rfl, hbB, d0, d1, HX⟩ := fins_at (HRF2.out.below HBK.out (by omega)) hkn
              have hkl : k < a.fins.length := by rw [HF.out]; exact hkn
              obtain ⟨r0_, r1_, r2_, r3_⟩ := HOKF.out x (by rw [← HX.out]; simp [List.getD, hkl])
              have lb : bb < wr.heap.size := by omega
              have HTK := hide (takeF_push hkl HX.out)
              have w0_ : IntKind.i64.wrap (x.s + 1) = x.s + 1 := IntWalk.i64_in _ (by omega)
              clear hkl HX
              go_wp2_with (at_builtin; refine wpList_append_own _ rfl (.tmp 102) (.tmp 109) 23 rfl G 51 iF _ 2 16 Try.underlying23 hF0 hF1 hF2 hF3 rfl (by omega) (.slice AF5 k cf5) k _ rfl ((HFIN.out.alloc _).alloc _) ⟨wr.heap.size + 1, 0, none⟩ 1 1 (finRow [shF 1 x]) rfl (by rfl) (World.news_of_block (cs := (finRow [shF 1 x]).toArray) (t := 51) (fr := (0, 0)) (Blk.at_ (by simp))) (finRow_one _) (by simp only [maxLen]; omega) (by omega) (by simp <;> omega) ?_; intro v' w6 hown2 hg2 _; obtain ⟨Av, cv, rfl, hkcv, _⟩ := own_value hown2; have o1' := far_cell hg2 hneO (o := 2) (v := (.slice AF5 k cf5)) (by exact ((HBKO.out.alloc _).alloc _).cell 2); have bO6 := ((HBKO.out.alloc _).alloc _).grown hg2 (Ne.symm hneO); have of1' := bO6.frozen 2; have lO6 := bO6.lt)
              have hs6 := hg2.size
              simp at hs6
              go_roundw
              case rel => exact ⟨k + 1, by omega, by go_num, hide (by rw [HTK.out, List.map_append, ← List.append_assoc]; exact mk_pushF ((HBKO.out.alloc _).alloc _) ((HOWN.out.alloc _).alloc _) ((HFIN.out.alloc _).alloc _) HFO.out hg2 hown2 hOb2 hOG), hide ((((HBK.out.alloc (by omega) _).alloc (by simp <;> omega) _).grown hg2 (by simp <;> omega) (fun q hq => by have := HLOW.out q hq; omega)).setCell (by simp) _), by simp [World.setCell]; omega⟩
              case measure => simp [intOf]; omega
            · obtain rfl : nf = k := by omega
              replace HMK := hide (show Mk wr O base G n0 (n + n') ((([] : List Arc) ++ a.arcs.map (shA 1)) ++ b.arcs.map (shA dn)) nf (([] : List Fnl) ++ a.fins.map (shF 1)) by have h := HMK.out; rw [List.take_of_length_le (by rw [HF.out]; exact Nat.le_refl _)] at h; exact h)
              have bXX := HY2.out.below HBK.out (by omega)
              have x1 := bXX.cell 2
              simp at x1
              have lXX := bXX.lt
              go_wp2
              clear bXX x1 lXX
              have HMK0 := hide (show Mk _ O base G n0 (n + n') ((([] : List Arc) ++ a.arcs.map (shA 1)) ++ b.arcs.map (shA dn)) (nf + 0) ((([] : List Fnl) ++ a.fins.map (shF 1)) ++ (b.fins.take 0).map (shF dn)) from by simpa using HMK.out)
              go_loopw [116] (fun iv wr => ∃ k : Nat, k ≤ nf' ∧ iv = .int .i64 k ∧ Hid (Mk wr O base G n0 (n + n') ((([] : List Arc) ++ a.arcs.map (shA 1)) ++ b.arcs.map (shA dn)) (nf + k) ((([] : List Fnl) ++ a.fins.map (shF 1)) ++ (b.fins.take k).map (shF dn))) ∧ Hid (Below O W2 wr) ∧ base ≤ wr.heap.size) (fun iv _ => nf' - (intOf iv).toNat)
              case atStart => exact ⟨0, by omega, rfl, HMK0, HBK, hbz⟩
              case round =>
                clear HMK0 HMK HBK hbz
                obtain ⟨k, hk, rfl, HMK, HBK, hbz⟩ := hrel
                by_cases hkn : k < nf'
                · skip
                  obtain ⟨A5, c5, AF5, cf5, bO5, hown5, hfin5, hfo5⟩ := HMK.out
                  have lO := bO5.lt
                  have o1 := bO5.cell 2
                  have of1 := bO5.frozen 2
                  simp at o1
                  have HBKO := hide bO5
                  have HOWN := hide hown5
                  have HFIN := hide hfin5
                  have HFO := hide hfo5
                  have hlow : ∀ q, (Value.slice AF5 (nf + k) cf5).ownBlock = some q → G ≤ q := fun q hq => (hfin5.lt q hq).1
                  have HLOW := hide hlow
                  have hneO : (Value.slice AF5 (nf + k) cf5).ownBlock ≠ some O := fun e => by have := hlow _ e; omega
                  clear hlow HMK bO5 hown5 hfin5 hfo5
                  obtain ⟨bb, off, x, rfl, hbB, d0, d1, HX⟩ := fins_at (HRF2'.out.below HBK.out (by omega)) hkn
                  have hkl : k < b.fins.length := by rw [HF'.out]; exact hkn
                  obtain ⟨r0_, r1_, r2_, r3_⟩ := HOKF'.out x (by rw [← HX.out]; simp [List.getD, hkl])
                  have lb : bb < wr.heap.size := by omega
                  have HTK := hide (takeF_push hkl HX.out)
                  have w0_ : IntKind.i64.wrap (x.s + dn) = x.s + dn := IntWalk.i64_in _ (by omega)
                  clear hkl HX
                  go_wp2_with (at_builtin; refine wpList_append_own _ rfl (.tmp 121) (.tmp 129) 23 rfl G 51 iF _ 2 16 Try.underlying23 hF0 hF1 hF2 hF3 rfl (by omega) (.slice AF5 (nf + k) cf5) (nf + k) _ rfl ((HFIN.out.alloc _).alloc _) ⟨wr.heap.size + 1, 0, none⟩ 1 1 (finRow [shF dn x]) rfl (by rfl) (World.news_of_block (cs := (finRow [shF dn x]).toArray) (t := 51) (fr := (0, 0)) (Blk.at_ (by simp))) (finRow_one _) (by simp only [maxLen]; omega) (by omega) (by simp <;> omega) ?_; intro v' w6 hown2 hg2 _; obtain ⟨Av, cv, rfl, hkcv, _⟩ := own_value hown2; have o1' := far_cell hg2 hneO (o := 2) (v := (.slice AF5 (nf + k) cf5)) (by exact ((HBKO.out.alloc _).alloc _).cell 2); have bO6 := ((HBKO.out.alloc _).alloc _).grown hg2 (Ne.symm hneO); have of1' := bO6.frozen 2; have lO6 := bO6.lt)
                  have hs6 := hg2.size
                  simp at hs6
                  go_roundw
                  case rel => exact ⟨k + 1, by omega, by go_num, hide (by rw [HTK.out, List.map_append, ← List.append_assoc]; exact mk_pushF ((HBKO.out.alloc _).alloc _) ((HOWN.out.alloc _).alloc _) ((HFIN.out.alloc _).alloc _) HFO.out hg2 hown2 hOb2 hOG), hide ((((HBK.out.alloc (by omega) _).alloc (by simp <;> omega) _).grown hg2 (by simp <;> omega) (fun q hq => by have := HLOW.out q hq; omega)).setCell (by simp) _), by simp [World.setCell]; omega⟩
                  case measure => simp [intOf]; omega
                · obtain rfl : nf' = k := by omega
                  replace HMK := hide (show Mk wr O base G n0 (n + n') ((([] : List Arc) ++ a.arcs.map (shA 1)) ++ b.arcs.map (shA dn)) (nf + nf') ((([] : List Fnl) ++ a.fins.map (shF 1)) ++ b.fins.map (shF dn)) by have h := HMK.out; rw [List.take_of_length_le (by rw [HF'.out]; exact Nat.le_refl _)] at h; exact h)
                  have HLEN1 := hide (show ((([] : List Arc) ++ a.arcs.map (shA 1)) ++ b.arcs.map (shA dn)).length = n + n' by simp only [List.length_append, List.length_map, List.length_nil, List.length_singleton, HN.out, HN'.out]; omega)
                  have bXX := HX2.out.below HBK.out (by omega)
                  have x0 := bXX.cell 0
                  simp at x0
                  have lXX := bXX.lt
                  go_upto_if 135 with fail
                  go_cut [9] from 10 (fun s9 wx => s9 = .pointer (some ⟨O, 0, none⟩) ∧ Hid (∃ q, q ≤ n + n' + 1 ∧ Mk wx O base G n0 q (((([] : List Arc) ++ a.arcs.map (shA 1)) ++ b.arcs.map (shA dn)) ++ (if 0 < a.n then [eps 0 1 0] else [])) (nf + nf') ((([] : List Fnl) ++ a.fins.map (shF 1)) ++ b.fins.map (shF dn)) ∧ (((([] : List Arc) ++ a.arcs.map (shA 1)) ++ b.arcs.map (shA dn)) ++ (if 0 < a.n then [eps 0 1 0] else [])).length = q ∧ Below O W2 wx ∧ base ≤ wx.heap.size))
                  case first =>
                    by_cases hpos : 0 < a.n
                    · skip
                      have tp : decide (a.n > 0) = true := decide_eq_true hpos
                      have tp' : decide (0 < a.n) = true := decide_eq_true hpos
                      obtain ⟨A5, c5, AF5, cf5, bO5, hown5, hfin5, hfo5⟩ := HMK.out
                      have lO := bO5.lt
                      have o1 := bO5.cell 1
                      have of1 := bO5.frozen 1
                      simp at o1
                      have HBKO := hide bO5
                      have HOWN := hide hown5
                      have HFIN := hide hfin5
                      have HFO := hide hfo5
                      have hlow : ∀ q, (Value.slice A5 (n + n') c5).ownBlock = some q → base ≤ q := fun q hq => (hown5.lt q hq).1
                      have HLOW := hide hlow
                      have hneO : (Value.slice A5 (n + n') c5).ownBlock ≠ some O := fun e => by have := hlow _ e; omega
                      have HPOS := hide hpos
                      clear hlow bO5 hown5 hfin5 hfo5
                      go_wp2_with (at_builtin; refine wpList_append_own _ rfl (.tmp 137) (.tmp 139) 22 rfl base 45 ia _ 5 40 Try.underlying22 ha0 ha1 ha2 ha3 rfl (by omega) (.slice A5 (n + n') c5) (n + n') _ rfl (HOWN.out.alloc _) ⟨wr.heap.size, 0, none⟩ 1 1 (arcRow [eps 0 1 0]) rfl (by rfl) (World.news_of_block (cs := (arcRow [eps 0 1 0]).toArray) (t := 45) (fr := (0, 0)) (Blk.at_ rfl)) (arcRow_one _) (by simp only [maxLen]; omega) (by omega) (by simp <;> omega) ?_; intro v' w6 hown2 hg2 _; obtain ⟨Av, cv, rfl, hkcv, _⟩ := own_value hown2; have o1' := far_cell hg2 hneO (o := 1) (v := .slice A5 (n + n') c5) (by exact (HBKO.out.alloc _).cell 1); have bO6 := (HBKO.out.alloc _).grown hg2 (Ne.symm hneO); have of1' := bO6.frozen 1; have lO6 := bO6.lt)
                      have hs6 := hg2.size
                      simp at hs6
                      have HG6 := hide hg2
                      have HW6 := hide hown2
                      clear hg2 hown2
                      go_meet
                      refine ⟨rfl, hide ⟨(n + n') + 1, by omega, ?_, ?_, ?_, ?_⟩⟩
                      · rw [if_pos HPOS.out]; exact mk_pushA (x := eps 0 1 0) (HBKO.out.alloc _) (HOWN.out.alloc _) (HFIN.out.alloc _) HFO.out HG6.out HW6.out hOb2
                      · rw [if_pos HPOS.out, List.length_append, HLEN1.out]; rfl
                      · exact ((((HBK.out.alloc (by omega) _).grown HG6.out (by simp <;> omega) (fun q hq => by have := HLOW.out q hq; omega))).setCell (p := ⟨O, 1, none⟩) (by simp) _)
                      · simp [World.setCell]; omega
                    · skip
                      have tp : decide (a.n > 0) = false := decide_eq_false hpos
                      have tp' : decide (0 < a.n) = false := decide_eq_false hpos
                      have HPOS := hide hpos
                      clear hpos
                      go_wp2
                      go_meet
                      refine ⟨rfl, hide ⟨(n + n'), by omega, ?_, ?_, HBK.out, hbz⟩⟩
                      · rw [if_neg (by have := HPOS.out; omega), List.append_nil]; exact HMK.out
                      · rw [if_neg (by have := HPOS.out; omega), List.append_nil]; exact HLEN1.out
                  case rest =>
                  obtain ⟨rfl, HU⟩ := hcut
                  obtain ⟨E1, hE1⟩ : ∃ E : List Arc, E = (if 0 < a.n then [eps 0 1 0] else []) := ⟨_, rfl⟩
                  rw [← hE1] at HU
                  have HE1 := hide hE1
                  clear hE1 HMK HBK hbz
                  obtain ⟨qq1, hq1, hm, hl, hb, hbz⟩ := HU.out
                  have HMK := hide hm
                  have HLEN2 := hide hl
                  have HBK := hide hb
                  clear hm hl hb HU
                  clear bXX x0 lXX
                  have bXX := HY2.out.below HBK.out (by omega)
                  have y0 := bXX.cell 0
                  simp at y0
                  have lXX := bXX.lt
                  go_upto_if 144 with fail
                  go_cut [9] from 10 (fun s9 wx => s9 = .pointer (some ⟨O, 0, none⟩) ∧ Hid (∃ q, q ≤ n + n' + 2 ∧ Mk wx O base G n0 q ((((([] : List Arc) ++ a.arcs.map (shA 1)) ++ b.arcs.map (shA dn)) ++ E1) ++ (if 0 < b.n then [eps 0 dn 0] else [])) (nf + nf') ((([] : List Fnl) ++ a.fins.map (shF 1)) ++ b.fins.map (shF dn)) ∧ ((((([] : List Arc) ++ a.arcs.map (shA 1)) ++ b.arcs.map (shA dn)) ++ E1) ++ (if 0 < b.n then [eps 0 dn 0] else [])).length = q ∧ Below O W2 wx ∧ base ≤ wx.heap.size))
                  case first =>
                    by_cases hpos : 0 < b.n
                    · skip
                      have tp : decide (b.n > 0) = true := decide_eq_true hpos
                      have tp' : decide (0 < b.n) = true := decide_eq_true hpos
                      obtain ⟨A5, c5, AF5, cf5, bO5, hown5, hfin5, hfo5⟩ := HMK.out
                      have lO := bO5.lt
                      have o1 := bO5.cell 1
                      have of1 := bO5.frozen 1
                      simp at o1
                      have HBKO := hide bO5
                      have HOWN := hide hown5
                      have HFIN := hide hfin5
                      have HFO := hide hfo5
                      have hlow : ∀ q, (Value.slice A5 qq1 c5).ownBlock = some q → base ≤ q := fun q hq => (hown5.lt q hq).1
                      have HLOW := hide hlow
                      have hneO : (Value.slice A5 qq1 c5).ownBlock ≠ some O := fun e => by have := hlow _ e; omega
                      have HPOS := hide hpos
                      clear hlow bO5 hown5 hfin5 hfo5
                      go_wp2_with (at_builtin; refine wpList_append_own _ rfl (.tmp 146) (.tmp 149) 22 rfl base 45 ia _ 5 40 Try.underlying22 ha0 ha1 ha2 ha3 rfl (by omega) (.slice A5 qq1 c5) qq1 _ rfl (HOWN.out.alloc _) ⟨wc.heap.size, 0, none⟩ 1 1 (arcRow [eps 0 dn 0]) rfl (by rfl) (World.news_of_block (cs := (arcRow [eps 0 dn 0]).toArray) (t := 45) (fr := (0, 0)) (Blk.at_ rfl)) (arcRow_one _) (by simp only [maxLen]; omega) (by omega) (by simp <;> omega) ?_; intro v' w6 hown2 hg2 _; obtain ⟨Av, cv, rfl, hkcv, _⟩ := own_value hown2; have o1' := far_cell hg2 hneO (o := 1) (v := .slice A5 qq1 c5) (by exact (HBKO.out.alloc _).cell 1); have bO6 := (HBKO.out.alloc _).grown hg2 (Ne.symm hneO); have of1' := bO6.frozen 1; have lO6 := bO6.lt)
                      have hs6 := hg2.size
                      simp at hs6
                      have HG6 := hide hg2
                      have HW6 := hide hown2
                      clear hg2 hown2
                      go_meet
                      refine ⟨rfl, hide ⟨qq1 + 1, by omega, ?_, ?_, ?_, ?_⟩⟩
                      · rw [if_pos HPOS.out]; exact mk_pushA (x := eps 0 dn 0) (HBKO.out.alloc _) (HOWN.out.alloc _) (HFIN.out.alloc _) HFO.out HG6.out HW6.out hOb2
                      · rw [if_pos HPOS.out, List.length_append, HLEN2.out]; rfl
                      · exact ((((HBK.out.alloc (by omega) _).grown HG6.out (by simp <;> omega) (fun q hq => by have := HLOW.out q hq; omega))).setCell (p := ⟨O, 1, none⟩) (by simp) _)
                      · simp [World.setCell]; omega
                    · skip
                      have tp : decide (b.n > 0) = false := decide_eq_false hpos
                      have tp' : decide (0 < b.n) = false := decide_eq_false hpos
                      have HPOS := hide hpos
                      clear hpos
                      go_wp2
                      go_meet
                      refine ⟨rfl, hide ⟨qq1, by omega, ?_, ?_, HBK.out, hbz⟩⟩
                      · rw [if_neg (by have := HPOS.out; omega), List.append_nil]; exact HMK.out
                      · rw [if_neg (by have := HPOS.out; omega), List.append_nil]; exact HLEN2.out
                  case rest =>
                  obtain ⟨rfl, HU⟩ := hcut
                  obtain ⟨E2, hE2⟩ : ∃ E : List Arc, E = (if 0 < b.n then [eps 0 dn 0] else []) := ⟨_, rfl⟩
                  rw [← hE2] at HU
                  have HE2 := hide hE2
                  clear hE2 HMK HBK hbz
                  obtain ⟨qq2, hq2, hm, hl, hb, hbz⟩ := HU.out
                  have HMK := hide hm
                  have HLEN3 := hide hl
                  have HBK := hide hb
                  clear hm hl hb HU
                  clear bXX y0 lXX
                  obtain ⟨Fb, hFb⟩ : ∃ z, z = w.heap.size + 1 + 1 + 1 := ⟨_, rfl⟩
                  obtain ⟨Rb, hRb⟩ : ∃ z, z = w.heap.size + 1 + 1 := ⟨_, rfl⟩
                  have hRF : Rb ≠ Fb := by omega
                  have hFR : Fb ≠ Rb := by omega
                  have hRw : w.heap.size ≤ Rb := by omega
                  have hFw : w.heap.size ≤ Fb := by omega
                  have hRG : Rb < G := by omega
                  have hFG : Fb < G := by omega
                  have hRO : Rb < O := by omega
                  have hFO2 : Fb < O := by omega
                  have hwG : w.heap.size ≤ G := by omega
                  have hwO : w.heap.size ≤ O := by omega
                  rw [← hFb] at HF2
                  rw [← hRb] at HR2
                  simp only [← hFb]
                  simp only [← hRb]
                  clear hFb hRb hp0
                  obtain ⟨A5, c5, AF5, cf5, bO5, hown5, hfin5, hfo5⟩ := HMK.out
                  have HP := hide (show (((((([] : List Arc) ++ a.arcs.map (shA 1)) ++ b.arcs.map (shA dn)) ++ E1) ++ E2)).Perm (uniArcs a b) from by have h := uni_perm (a.arcs.map (shA 1)) (b.arcs.map (shA dn)) E1 E2; unfold uniArcs; rw [← HDN.out, ← HE1.out, ← HE2.out]; exact h)
                  have HLQ := hide (show (((((([] : List Arc) ++ a.arcs.map (shA 1)) ++ b.arcs.map (shA dn)) ++ E1) ++ E2)).length = qq2 by exact HLEN3.out)
                  have HFR := hide (show (((([] : List Fnl) ++ a.fins.map (shF 1)) ++ b.fins.map (shF dn))).length = (nf + nf') by simp only [List.length_append, List.length_map, List.length_nil, HF.out, HF'.out]; omega)
                  have HRD := hide (Rd.of_own hown5 (fun i j hi hj => arcRow_at _ i j (by rw [HLQ.out]; exact hi) hj))
                  have HFI := hide (fun W (hW : W = wc) => rfin_any n0 (((((([] : List Arc) ++ a.arcs.map (shA 1)) ++ b.arcs.map (shA dn)) ++ E1) ++ E2)) qq2 c5 A5 AF5 (nf + nf') cf5 W HLQ.out ((HP.out.nodup_iff).2 (uni_nodup HV.out HV'.out)) (by omega) (by omega) (((([] : List Fnl) ++ a.fins.map (shF 1)) ++ b.fins.map (shF dn))) G (by rw [hW]; omega) (by rw [hW]; exact hfin5) HFR.out (by unfold big; omega) (by rw [hW]; exact HRD.out))
                  have o0 := bO5.cell 0
                  have o1 := bO5.cell 1
                  have o2 := bO5.cell 2
                  simp at o0 o1 o2
                  have lO := bO5.lt
                  clear HMK bO5 hown5 hfin5 hfo5 HRD
                  go_wp2_with fail
                  refine (HFI.out _ rfl).mono ?_
                  rintro e w9 ⟨v9, rfl, hM9, hb9⟩
                  obtain ⟨A9, n9, c9, AF9, nf9, cf9, rfl⟩ := agg_of hM9
                  have HM9 := hide hM9
                  have HBE := hide (HBW.out.trans ((HBK.out.trans (hb9.mono (by omega))).mono (by omega)))
                  have bR := (HR2.out.below HBK.out (by omega)).below hb9 (by omega)
                  have bF := (HF2.out.below HBK.out (by omega)).below hb9 (by omega)
                  have q0 := bR.cell 0
                  have q1 := bR.cell 1
                  have q2 := bR.cell 2
                  have q3 := bF.cell 0
                  have q4 := bF.cell 1
                  have qf := bR.frozen 0
                  have qf1 := bR.frozen 1
                  have qf2 := bR.frozen 2
                  have qf3 := bF.frozen 0
                  have qf4 := bF.frozen 1
                  simp at q0 q1 q2 q3 q4
                  have lR := bR.lt
                  have lF := bF.lt
                  clear hM9 hb9 bR bF o0 o1 o2 lO HFI
                  obtain ⟨g9, hg9⟩ : ∃ z, z = (finM n0 (((((([] : List Arc) ++ a.arcs.map (shA 1)) ++ b.arcs.map (shA dn)) ++ E1) ++ E2)) (((([] : List Fnl) ++ a.fins.map (shF 1)) ++ b.fins.map (shF dn)))).n := ⟨_, rfl⟩
                  rw [← hg9] at HM9 ⊢
                  obtain ⟨p9, hp9⟩ : ∃ z, z = (finF n0 qq2).1 := ⟨_, rfl⟩
                  obtain ⟨s9, hs9⟩ : ∃ z, z = (finF n0 qq2).2 := ⟨_, rfl⟩
                  rw [← hp9, ← hs9]
                  have HP9 := hide hp9
                  have HS9 := hide hs9
                  clear hg9 hp9 hs9
                  clear hnc hnfc hnb hnfb hnc' hnfc' hnb' hnfb' hlf hlf' hn0 hn4 hn0' hn4' hd1 hd2 hn01 hn02 hq1 hq2 hf0 hne ha0 ha1 ha2 ha3 hF0 hF1 hF2 hF3
                  go_wp21
                  refine bodyPost_ret (v := .tuple #[.agg #[.int .i64 g9, .slice A9 n9 c9, .slice AF9 nf9 cf9], .agg #[.int .i64 p9, .int .i64 s9]]) (by simp [results, Try.results20, go_sem, lR, lF, q0, q1, q2, q3, q4, qf, qf1, qf2, qf3, qf4]) rfl ⟨.agg #[.int .i64 g9, .slice A9 n9 c9, .slice AF9 nf9 cf9], ?_, ?_, ?_⟩
                  · have e1 : finF n0 qq2 = uniF a b := by rw [show uniF a b = finF (1 + a.n + b.n) (uniArcs a b).length by unfold uniF; rw [if_pos HTW.out], ← HP.out.length_eq, HLQ.out, HN0.out]
                    rw [HP9.out, HS9.out, e1]
                  · have e2 : finM n0 (((((([] : List Arc) ++ a.arcs.map (shA 1)) ++ b.arcs.map (shA dn)) ++ E1) ++ E2)) (((([] : List Fnl) ++ a.fins.map (shF 1)) ++ b.fins.map (shF dn))) = uniR a b := by rw [show uniR a b = finM (1 + a.n + b.n) (uniArcs a b) (uniFins a b) by unfold uniR; rw [if_pos HTW.out], show uniFins a b = ((([] : List Fnl) ++ a.fins.map (shF 1)) ++ b.fins.map (shF dn)) by unfold uniFins; rw [← HDN.out, List.nil_append]]; unfold finM; rw [HP.out.length_eq, srtA_congr HP.out, HN0.out]
                    rw [e2] at HM9
                    refine MachNew.mono (lo := G) ?_ (by omega)
                    refine MachNew.set (MachNew.set (MachNew.set (MachNew.set (MachNew.set HM9.out ?_ _) ?_ _) ?_ _) ?_ _) ?_ _ <;> (dsimp only; omega)
                  · refine Below.setCell (Below.setCell (Below.setCell (Below.setCell (Below.setCell HBE.out ?_ _) ?_ _) ?_ _) ?_ _) ?_ _ <;> (dsimp only; omega)
/-- The reference's Unioned, at any two machines. -/
theorem runi_any (va vb : Value) (a b : Mach) (w : World) (B : Nat) (hB : B ≤ w.heap.size) (ha : MachAt w B va a) (hb : MachAt w B vb b) :
    Calls Try.prog 20 #[va, vb] w fun e w' => ∃ v', e = .returned (.tuple #[v', .agg #[.int .i64 (uniF a b).1, .int .i64 (uniF a b).2]]) ∧ MachNew w.heap.size w' v' (uniR a b) ∧ Below w.heap.size w w' := by
  by_cases hz : validate a = (0, 0)
  · by_cases hz2 : validate b = (0, 0)
    · exact runi_good va vb a b w B hB ha hb hz hz2
    · have e0 : twoF a b = validate b := by unfold twoF; rw [if_pos hz]
      have e1 : uniF a b = validate b := by unfold uniF; rw [e0, if_neg hz2]
      have e2 : uniR a b = emptyM := by unfold uniR; rw [e0, if_neg hz2]
      rw [e1, e2]
      exact (runi_bad2 va vb a b w B hB ha hb hz hz2).mono fun e w' ⟨he, hb⟩ => ⟨_, he, MachNew.empty _ _, hb⟩
  · have e0 : twoF a b = validate a := by unfold twoF; rw [if_neg hz]
    have e1 : uniF a b = validate a := by unfold uniF; rw [e0, if_neg hz]
    have e2 : uniR a b = emptyM := by unfold uniR; rw [e0, if_neg hz]
    rw [e1, e2]
    exact (runi_bad1 va vb a b w B hB ha hb hz).mono fun e w' ⟨he, hb⟩ => ⟨_, he, MachNew.empty _ _, hb⟩
end Go.Proofs.Ytmgpcnkmmgkjgaa
