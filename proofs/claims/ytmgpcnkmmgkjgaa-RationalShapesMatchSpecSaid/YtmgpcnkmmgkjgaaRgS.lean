/- The reference's Starred, walked. Written by gen_rg3.py. -/
import Derived.Test.YtmgpcnkmmgkjgaaRgP
import Derived.Test.YtmgpcnkmmgkjgaaStW
import Derived.Test.YtmgpcnkmmgkjgaaMF
import Derived.IntWalk
namespace Go.Proofs.Ytmgpcnkmmgkjgaa
open Go.RowKit Gm Go.Sort Go.Shelf
set_option linter.unusedSimpArgs false
set_option linter.unusedVariables false
set_option maxRecDepth 100000 in
set_option maxHeartbeats 16000000 in
theorem rstar_bad (va : Value) (a : Mach) (w : World) (B : Nat) (hB : B ≤ w.heap.size) (ha : MachAt w B va a) (hz : validate a ≠ (0, 0)) :
    Calls Try.prog 24 #[va] w fun e w' => e = .returned (.tuple #[.agg #[.int .i64 0, .slice none 0 0, .slice none 0 0], .agg #[.int .i64 (validate a).1, .int .i64 (validate a).2]]) ∧ Below w.heap.size w w' := by
  have HA := hide ha
  obtain ⟨A, AF, n, c, nf, cf, rfl, _⟩ := ha
  have hne := fun a b c d W => run_neq_fault a b c d W
  have hf0 : fEq 0 0 0 0 = true := rfl
  have hQ := fun W (hB : B ≤ W.heap.size) (h : MachAt W B (.agg #[.int .i64 a.n, .slice A n c, .slice AF nf cf]) a) => mfault_spec _ a W B hB h
  have hz0 : fEq (validate a).1 (validate a).2 0 0 = false := by
    cases e : fEq (validate a).1 (validate a).2 0 0
    · rfl
    · exact absurd (fEq0R.1 e) hz
  obtain ⟨p, hp⟩ : ∃ p, p = (validate a).1 := ⟨_, rfl⟩
  obtain ⟨q, hq⟩ : ∃ p, p = (validate a).2 := ⟨_, rfl⟩
  rw [← hp, ← hq] at hQ hz0 ⊢
  have HQ := hide hQ
  clear hp hq hz hQ
  go_enter Try.func24, Try.ntmps24
  go_wp2_with fail
  refine (HQ.out _ (by simp <;> omega) (HA.out.below (show Below w.heap.size w _ by go_grown) hB)).mono ?_
  rintro e w1 ⟨rfl, hb1⟩
  have hbw1 : Below w.heap.size w w1 := Below.trans (show Below w.heap.size w _ by go_grown) (hb1.mono (by simp <;> omega))
  have bR1 : Blk w1 (w.heap.size + 1) 25 #[.int .i64 0, .slice none 0 0, .slice none 0 0] := ((Blk.at_ (by simp)).alloc _).below hb1 (by simp <;> omega)
  have bF1 : Blk w1 (w.heap.size + 1 + 1) 28 #[.int .i64 0, .int .i64 0] := (Blk.at_ (by simp)).below hb1 (by simp)
  clear hb1 HQ
  have q0 := bR1.cell 0
  have q1 := bR1.cell 1
  have q2 := bR1.cell 2
  have q3 := bF1.cell 0
  have q4 := bF1.cell 1
  have qf := bR1.frozen 0
  have qf1 := bR1.frozen 1
  have qf2 := bR1.frozen 2
  have qf3 := bF1.frozen 0
  have qf4 := bF1.frozen 1
  simp at q0 q1 q2 q3 q4
  have hs3 := bR1.lt
  have hs4 := bF1.lt
  have hs5 := hbw1.size
  clear bR1 bF1
  go_wp2
  refine wp_mix (fun w' => w'.cell? ⟨w1.heap.size, 0, none⟩ = some (.int .i64 p) ∧ w'.cell? ⟨w1.heap.size, 1, none⟩ = some (.int .i64 q)) 3 [(0, false), (1, false), (2, true)] (by kernel_rfl) (by kernel_rfl) ?_ ?_
  · go_simp
  simp only [List.drop_succ_cons, List.drop_zero]
  repeat (refine mix_q (v := ?_) (by rfl) (by rfl) ?_ ?_; rotate_left; (focus (intro w' hC; (try dsimp only at hC); go_simp; (first | done | with_reducible rfl))); simp only [Act.put, List.setIfInBounds_toArray, List.set_cons_zero, List.set_cons_succ, List.getElem_toArray, List.getElem_cons_zero, List.getElem_cons_succ])
  refine mix_l (by rfl) (by rfl) (fun K hK => ?_)
  go_simp
  refine hK _ _ (by go_simp) ?_
  clear hK K
  refine mix_nil ?_; try simp only [Act.put, List.setIfInBounds_toArray, List.set_cons_zero, List.set_cons_succ, List.getElem_toArray, List.getElem_cons_zero, List.getElem_cons_succ]
  go_wp2
  refine NoPanic.normal ?_
  go_wp2
  exact bodyPost_ret (v := .tuple #[.agg #[.int .i64 0, .slice none 0 0, .slice none 0 0], .agg #[.int .i64 p, .int .i64 q]]) (by simp [results, Try.results24, go_sem, q0, q1, q2, q3, q4, qf, qf1, qf2, qf3, qf4, hs3, hs4]) rfl ⟨rfl, by go_grown⟩
set_option maxRecDepth 100000 in
set_option maxHeartbeats 16000000 in
theorem rstar_good (va : Value) (a : Mach) (w : World) (B : Nat) (hB : B ≤ w.heap.size) (ha : MachAt w B va a) (hv : validate a = (0, 0)) :
    Calls Try.prog 24 #[va] w fun e w' => ∃ v', e = .returned (.tuple #[v', .agg #[.int .i64 (starF a).1, .int .i64 (starF a).2]]) ∧ MachNew w.heap.size w' v' (starR a) ∧ Below w.heap.size w w' := by
  have HA := hide ha
  obtain ⟨A, AF, n, c, nf, cf, rfl, HN, HF, hnc, hnfc, hnb, hnfb, hA, hF⟩ := ha
  have hne := fun a b c d W => run_neq_fault a b c d W
  have hf0 : fEq 0 0 0 0 = true := rfl
  have hV := valid_of hv
  have HV := hide hV
  have HSL := hide (star_len hV)
  have hlen := hV.len
  rw [HN.out] at hlen
  have hlf : n + nf ≤ 2401 := by
    have h1 := star_len hV
    have h2 : (starArcs a).length = (if 0 < a.n then 1 else 0) + a.arcs.length + a.fins.length := by unfold starArcs; simp only [List.length_append, List.length_map]; split <;> simp
    rw [HN.out, HF.out] at h2
    omega
  have HOKA := hide (show ∀ x ∈ a.arcs, 0 ≤ x.f ∧ x.f < 400 ∧ 0 ≤ x.t ∧ x.t < 400 from fun x hx => by have := okArc_iff (hV.okA hx); have := hV.n4; omega)
  have HOKF := hide (show ∀ x ∈ a.fins, 0 ≤ x.s ∧ x.s < 400 ∧ True ∧ True from fun x hx => by have := okFin_iff (hV.okF hx); have := hV.n4; exact ⟨by omega, by omega, trivial, trivial⟩)
  have hn0 := hV.n0
  have hn4 := hV.n4
  have HRA := hide hA
  have HRF := hide hF
  obtain ⟨ia, ha0, ha1, ha2, ha3⟩ := info_parts arc_info
  obtain ⟨iF, hF0, hF1, hF2, hF3⟩ := info_parts fin_info
  have hQ := fun W (hB : B ≤ W.heap.size) (h : MachAt W B (.agg #[.int .i64 a.n, .slice A n c, .slice AF nf cf]) a) => mfault_spec _ a W B hB h
  rw [hv] at hQ
  have HQ := hide hQ
  have HVV := hide hv
  have hwn : IntKind.i64.wrap (1 + a.n) = 1 + a.n := IntWalk.i64_in _ (by omega)
  clear hQ hA hF hv hV
  go_enter Try.func24, Try.ntmps24
  go_wp2_with fail
  refine (HQ.out _ (by simp <;> omega) (HA.out.below (show Below w.heap.size w _ by go_grown) hB)).mono ?_
  rintro e w1 ⟨rfl, hb1⟩
  have hbw1 : Below w.heap.size w w1 := Below.trans (show Below w.heap.size w _ by go_grown) (hb1.mono (by simp <;> omega))
  have bX1 : Blk w1 w.heap.size 25 #[.int .i64 a.n, .slice A n c, .slice AF nf cf] := (((Blk.at_ rfl).alloc _).alloc _).below hb1 (by simp <;> omega)
  have bR1 : Blk w1 (w.heap.size + 1) 25 #[.int .i64 0, .slice none 0 0, .slice none 0 0] := ((Blk.at_ (by simp)).alloc _).below hb1 (by simp <;> omega)
  have bF1 : Blk w1 (w.heap.size + 1 + 1) 28 #[.int .i64 0, .int .i64 0] := (Blk.at_ (by simp)).below hb1 (by simp)
  clear hb1 HQ
  have x0 := bX1.cell 0
  simp at x0
  have lX := bX1.lt
  go_upto_region 5 with fail
  generalize hW2 : World.alloc _ _ = W2
  obtain ⟨G, hG⟩ : ∃ z, z = w1.heap.size + 1 := ⟨_, rfl⟩
  obtain ⟨O, hO⟩ : ∃ z, z = w1.heap.size + 1 + 1 := ⟨_, rfl⟩
  obtain ⟨base, hbase⟩ : ∃ z, z = w1.heap.size + 1 + 1 + 1 := ⟨_, rfl⟩
  obtain ⟨n0, hn0e⟩ : ∃ z, z = 1 + a.n := ⟨_, rfl⟩
  have HBW := hide (show Below w.heap.size w W2 by rw [← hW2]; exact ((hbw1.alloc hbw1.size _).alloc (by have := hbw1.size; simp; omega) _).alloc (by have := hbw1.size; simp; omega) _)
  have HX2 := hide (show Blk W2 w.heap.size 25 #[.int .i64 a.n, .slice A n c, .slice AF nf cf] by rw [← hW2]; exact (((bX1.alloc _).alloc _).alloc _))
  have HR2 := hide (show Blk W2 (w.heap.size + 1) 25 #[.int .i64 0, .slice none 0 0, .slice none 0 0] by rw [← hW2]; exact (((bR1.alloc _).alloc _).alloc _))
  have HF2 := hide (show Blk W2 (w.heap.size + 1 + 1) 28 #[.int .i64 0, .int .i64 0] by rw [← hW2]; exact (((bF1.alloc _).alloc _).alloc _))
  have bG : Blk W2 G 51 #[.int .i64 0, .int .i64 0] := by rw [← hW2]; exact (Blk.at_ (by simp [hG])).alloc _
  have bO : Blk W2 O 25 #[.int .i64 n0, .slice none 0 0, .slice (some ⟨G, 0, none⟩) 1 1] := by rw [← hW2, hn0e, hG]; exact Blk.at_ (by simp [hO])
  have hbz : base ≤ W2.heap.size := by rw [← hW2, hbase]; simp
  have hp0 : w.heap.size + 1 + 1 < G := by have := bF1.lt; omega
  have hGO : G < O := by omega
  have hOb2 : O < base := by omega
  have hn00 : 0 ≤ n0 := by omega
  have HN0 := hide hn0e
  have hmk : Mk W2 O base G n0 0 [] 1 [⟨0, 0⟩] := ⟨none, 0, _, 1, bO, World.ownsRow_nil _ _ _ _, own_of_fin bG, by simp [Value.ownBlock]; omega⟩
  have HMK := hide hmk
  clear hmk
  have HBK := hide (Below.refl O W2)
  have HRA2 := hide ((HRA.out.below HBW.out hB).mono (show B ≤ w.heap.size by exact hB))
  have HRF2 := hide ((HRF.out.below HBW.out hB).mono (show B ≤ w.heap.size by exact hB))
  have x1 := HX2.out.cell 1
  simp at x1
  have lX := HX2.out.lt
  simp only [← hO]
  clear hW2 hG hO hbase hn0e bX1 bR1 bF1 bG bO x0
  go_wp2
  clear x1 lX
  have HMK0 := hide (show Mk _ O base G n0 0 (([] : List Arc) ++ (a.arcs.take 0).map (shA 1)) 1 [⟨0, 0⟩] from by simpa using HMK.out)
  go_loopw [26] (fun iv wr => ∃ k : Nat, k ≤ n ∧ iv = .int .i64 k ∧ Hid (Mk wr O base G n0 k (([] : List Arc) ++ (a.arcs.take k).map (shA 1)) 1 [⟨0, 0⟩]) ∧ Hid (Below O W2 wr) ∧ base ≤ wr.heap.size) (fun iv _ => n - (intOf iv).toNat)
  case atStart => exact ⟨0, by omega, rfl, HMK0, HBK, hbz⟩
  case round =>
    clear HMK0 HMK HBK hbz
    obtain ⟨k, hk, rfl, HMK, HBK, hbz⟩ := hrel
    by_cases hkn : k < n
    · skip
      obtain ⟨A5, c5, AF5, cf5, bO5, hown5, hfin5, hfo5⟩ := HMK.out
      have lO := bO5.lt
      have o1 := bO5.cell 1
      have of1 := bO5.frozen 1
      simp at o1
      have HBKO := hide bO5
      have HOWN := hide hown5
      have HFIN := hide hfin5
      have HFO := hide hfo5
      have hlow : ∀ q, (Value.slice A5 k c5).ownBlock = some q → base ≤ q := fun q hq => (hown5.lt q hq).1
      have HLOW := hide hlow
      have hneO : (Value.slice A5 k c5).ownBlock ≠ some O := fun e => by have := hlow _ e; omega
      clear hlow HMK bO5 hown5 hfin5 hfo5
      obtain ⟨bb, off, x, rfl, hbB, d0, d1, d2, d3, d4, HX⟩ := arcs_at (HRA2.out.below HBK.out (by omega)) hkn
      have hkl : k < a.arcs.length := by rw [HN.out]; exact hkn
      obtain ⟨r0_, r1_, r2_, r3_⟩ := HOKA.out x (by rw [← HX.out]; simp [List.getD, hkl])
      have lb : bb < wr.heap.size := by omega
      have HTK := hide (take_push hkl HX.out)
      have w0_ : IntKind.i64.wrap (x.f + 1) = x.f + 1 := IntWalk.i64_in _ (by omega)
      have w1_ : IntKind.i64.wrap (x.t + 1) = x.t + 1 := IntWalk.i64_in _ (by omega)
      clear hkl HX
      go_wp2_with (at_builtin; refine wpList_append_own _ rfl (.tmp 31) (.tmp 45) 22 rfl base 45 ia _ 5 40 Try.underlying22 ha0 ha1 ha2 ha3 rfl (by omega) (.slice A5 k c5) k _ rfl ((HOWN.out.alloc _).alloc _) ⟨wr.heap.size + 1, 0, none⟩ 1 1 (arcRow [shA 1 x]) rfl (by rfl) (World.news_of_block (cs := (arcRow [shA 1 x]).toArray) (t := 45) (fr := (0, 0)) (Blk.at_ (by simp))) (arcRow_one _) (by simp only [maxLen]; omega) (by omega) (by simp <;> omega) ?_; intro v' w6 hown2 hg2 _; obtain ⟨Av, cv, rfl, hkcv, _⟩ := own_value hown2; have o1' := far_cell hg2 hneO (o := 1) (v := (.slice A5 k c5)) (by exact ((HBKO.out.alloc _).alloc _).cell 1); have bO6 := ((HBKO.out.alloc _).alloc _).grown hg2 (Ne.symm hneO); have of1' := bO6.frozen 1; have lO6 := bO6.lt)
      have hs6 := hg2.size
      simp at hs6
      go_roundw
      case rel => exact ⟨k + 1, by omega, by go_num, hide (by rw [HTK.out, List.map_append, ← List.append_assoc]; exact mk_pushA ((HBKO.out.alloc _).alloc _) ((HOWN.out.alloc _).alloc _) ((HFIN.out.alloc _).alloc _) HFO.out hg2 hown2 hOb2), hide ((((HBK.out.alloc (by omega) _).alloc (by simp <;> omega) _).grown hg2 (by simp <;> omega) (fun q hq => by have := HLOW.out q hq; omega)).setCell (by simp) _), by simp [World.setCell]; omega⟩
      case measure => simp [intOf]; omega
    · obtain rfl : n = k := by omega
      replace HMK := hide (show Mk wr O base G n0 n (([] : List Arc) ++ a.arcs.map (shA 1)) 1 [⟨0, 0⟩] by have h := HMK.out; rw [List.take_of_length_le (by rw [HN.out]; exact Nat.le_refl _)] at h; exact h)
      have bX := HX2.out.below HBK.out (by omega)
      have x2 := bX.cell 2
      simp at x2
      have lX := bX.lt
      go_wp2
      clear bX x2 lX
      have HMK0 := hide (show Mk _ O base G n0 (n + 0) ((([] : List Arc) ++ a.arcs.map (shA 1)) ++ (a.fins.take 0).map (fun x => eps (x.s + 1) 0 x.w)) 1 [⟨0, 0⟩] from by simpa using HMK.out)
      go_loopw [52] (fun iv wr => ∃ k : Nat, k ≤ nf ∧ iv = .int .i64 k ∧ Hid (Mk wr O base G n0 (n + k) ((([] : List Arc) ++ a.arcs.map (shA 1)) ++ (a.fins.take k).map (fun x => eps (x.s + 1) 0 x.w)) 1 [⟨0, 0⟩]) ∧ Hid (Below O W2 wr) ∧ base ≤ wr.heap.size) (fun iv _ => nf - (intOf iv).toNat)
      case atStart => exact ⟨0, by omega, rfl, HMK0, HBK, hbz⟩
      case round =>
        clear HMK0 HMK HBK hbz
        obtain ⟨k, hk, rfl, HMK, HBK, hbz⟩ := hrel
        by_cases hkn : k < nf
        · skip
          obtain ⟨A5, c5, AF5, cf5, bO5, hown5, hfin5, hfo5⟩ := HMK.out
          have lO := bO5.lt
          have o1 := bO5.cell 1
          have of1 := bO5.frozen 1
          simp at o1
          have HBKO := hide bO5
          have HOWN := hide hown5
          have HFIN := hide hfin5
          have HFO := hide hfo5
          have hlow : ∀ q, (Value.slice A5 (n + k) c5).ownBlock = some q → base ≤ q := fun q hq => (hown5.lt q hq).1
          have HLOW := hide hlow
          have hneO : (Value.slice A5 (n + k) c5).ownBlock ≠ some O := fun e => by have := hlow _ e; omega
          clear hlow HMK bO5 hown5 hfin5 hfo5
          obtain ⟨bb, off, x, rfl, hbB, d0, d1, HX⟩ := fins_at (HRF2.out.below HBK.out (by omega)) hkn
          have hkl : k < a.fins.length := by rw [HF.out]; exact hkn
          obtain ⟨r0_, r1_, r2_, r3_⟩ := HOKF.out x (by rw [← HX.out]; simp [List.getD, hkl])
          have lb : bb < wr.heap.size := by omega
          have HTK := hide (takeF_push hkl HX.out)
          have w0_ : IntKind.i64.wrap (x.s + 1) = x.s + 1 := IntWalk.i64_in _ (by omega)
          clear hkl HX
          go_wp2_with (at_builtin; refine wpList_append_own _ rfl (.tmp 57) (.tmp 64) 22 rfl base 45 ia _ 5 40 Try.underlying22 ha0 ha1 ha2 ha3 rfl (by omega) (.slice A5 (n + k) c5) (n + k) _ rfl ((HOWN.out.alloc _).alloc _) ⟨wr.heap.size + 1, 0, none⟩ 1 1 (arcRow [eps (x.s + 1) 0 x.w]) rfl (by rfl) (World.news_of_block (cs := (arcRow [eps (x.s + 1) 0 x.w]).toArray) (t := 45) (fr := (0, 0)) (Blk.at_ (by simp))) (arcRow_one _) (by simp only [maxLen]; omega) (by omega) (by simp <;> omega) ?_; intro v' w6 hown2 hg2 _; obtain ⟨Av, cv, rfl, hkcv, _⟩ := own_value hown2; have o1' := far_cell hg2 hneO (o := 1) (v := (.slice A5 (n + k) c5)) (by exact ((HBKO.out.alloc _).alloc _).cell 1); have bO6 := ((HBKO.out.alloc _).alloc _).grown hg2 (Ne.symm hneO); have of1' := bO6.frozen 1; have lO6 := bO6.lt)
          have hs6 := hg2.size
          simp at hs6
          go_roundw
          case rel => exact ⟨k + 1, by omega, by go_num, hide (by rw [HTK.out, List.map_append, ← List.append_assoc]; exact mk_pushA ((HBKO.out.alloc _).alloc _) ((HOWN.out.alloc _).alloc _) ((HFIN.out.alloc _).alloc _) HFO.out hg2 hown2 hOb2), hide ((((HBK.out.alloc (by omega) _).alloc (by simp <;> omega) _).grown hg2 (by simp <;> omega) (fun q hq => by have := HLOW.out q hq; omega)).setCell (by simp) _), by simp [World.setCell]; omega⟩
          case measure => simp [intOf]; omega
        · obtain rfl : nf = k := by omega
          replace HMK := hide (show Mk wr O base G n0 (n + nf) ((([] : List Arc) ++ a.arcs.map (shA 1)) ++ a.fins.map (fun x => eps (x.s + 1) 0 x.w)) 1 [⟨0, 0⟩] by have h := HMK.out; rw [List.take_of_length_le (by rw [HF.out]; exact Nat.le_refl _)] at h; exact h)
          have bX := HX2.out.below HBK.out (by omega)
          have x0 := bX.cell 0
          simp at x0
          have lX := bX.lt
          have heps : (a.fins.map fun x => eps (x.s + 1) 0 x.w) = a.fins.map fun x => eps (1 + x.s) 0 x.w := List.map_congr_left fun x _ => by rw [Int.add_comm]
          have HEPS := hide heps
          clear heps
          by_cases hpos : 0 < a.n
          · skip
            have tp : decide (a.n > 0) = true := decide_eq_true hpos
            have tp' : decide (0 < a.n) = true := decide_eq_true hpos
            obtain ⟨A5, c5, AF5, cf5, bO5, hown5, hfin5, hfo5⟩ := HMK.out
            have lO := bO5.lt
            have o1 := bO5.cell 1
            have of1 := bO5.frozen 1
            simp at o1
            have HBKO := hide bO5
            have HOWN := hide hown5
            have HFIN := hide hfin5
            have HFO := hide hfo5
            have hlow : ∀ q, (Value.slice A5 (n + nf) c5).ownBlock = some q → base ≤ q := fun q hq => (hown5.lt q hq).1
            have HLOW := hide hlow
            have hneO : (Value.slice A5 (n + nf) c5).ownBlock ≠ some O := fun e => by have := hlow _ e; omega
            clear hlow HMK bO5 hown5 hfin5 hfo5
            go_upto_region 17 with (at_builtin; refine wpList_append_own _ rfl (.tmp 72) (.tmp 74) 22 rfl base 45 ia _ 5 40 Try.underlying22 ha0 ha1 ha2 ha3 rfl (by omega) (.slice A5 (n + nf) c5) (n + nf) _ rfl (HOWN.out.alloc _) ⟨wr.heap.size, 0, none⟩ 1 1 (arcRow [eps 0 1 0]) rfl (by rfl) (World.news_of_block (cs := (arcRow [eps 0 1 0]).toArray) (t := 45) (fr := (0, 0)) (Blk.at_ rfl)) (arcRow_one _) (by simp only [maxLen]; omega) (by omega) (by simp <;> omega) ?_; intro v' w6 hown2 hg2 _; obtain ⟨Av, cv, rfl, hkcv, _⟩ := own_value hown2; have o1' := far_cell hg2 hneO (o := 1) (v := .slice A5 (n + nf) c5) (by exact (HBKO.out.alloc _).cell 1); have bO6 := (HBKO.out.alloc _).grown hg2 (Ne.symm hneO); have of1' := bO6.frozen 1; have lO6 := bO6.lt)
            have hs6 := hg2.size
            simp at hs6
            have HMK := hide (mk_pushA (x := eps 0 1 0) (HBKO.out.alloc _) (HOWN.out.alloc _) (HFIN.out.alloc _) HFO.out hg2 hown2 hOb2)
            replace HBK := hide ((((HBK.out.alloc (by omega) _).grown hg2 (by simp <;> omega) (fun q hq => by have := HLOW.out q hq; omega))).setCell (p := ⟨O, 1, none⟩) (by simp) (.slice Av ((n + nf) + 1) cv))
            replace hbz : base ≤ (w6.setCell ⟨O, 1, none⟩ (.slice Av ((n + nf) + 1) cv)).heap.size := by simp [World.setCell]; omega
            clear hg2 hown2 bO6 o1' of1' lO6 hs6 o1 of1 lO hneO HBKO HOWN HFIN HFO HLOW
            generalize hWX : World.setCell w6 _ _ = wr at *
            clear hWX
            clear tp tp' x0 lX bX
            obtain ⟨A5, c5, AF5, cf5, bO5, hown5, hfin5, hfo5⟩ := HMK.out
            have HP := hide (show (((([] : List Arc) ++ a.arcs.map (shA 1)) ++ a.fins.map (fun x => eps (x.s + 1) 0 x.w)) ++ [eps 0 1 0]).Perm (starArcs a) from by rw [HEPS.out]; unfold starArcs; rw [if_pos hpos, List.nil_append, List.append_assoc [eps 0 1 0]]; exact List.perm_append_comm)
            have HLQ := hide (show (((([] : List Arc) ++ a.arcs.map (shA 1)) ++ a.fins.map (fun x => eps (x.s + 1) 0 x.w)) ++ [eps 0 1 0]).length = (n + nf + 1) by simp only [List.length_append, List.length_map, List.length_nil, List.length_singleton, HN.out, HF.out]; omega)
            have HFR := hide (show ([(⟨0, 0⟩ : Fnl)]).length = 1 by rfl)
            have HRD := hide (Rd.of_own hown5 (fun i j hi hj => arcRow_at _ i j (by rw [HLQ.out]; exact hi) hj))
            have HFI := hide (fun W (hW : W = wr) => rfin_any n0 (((([] : List Arc) ++ a.arcs.map (shA 1)) ++ a.fins.map (fun x => eps (x.s + 1) 0 x.w)) ++ [eps 0 1 0]) (n + nf + 1) c5 A5 AF5 1 cf5 W HLQ.out ((HP.out.nodup_iff).2 (star_nodup HV.out)) (by omega) (by omega) ([(⟨0, 0⟩ : Fnl)]) G (by rw [hW]; omega) (by rw [hW]; exact hfin5) HFR.out (by unfold big; omega) (by rw [hW]; exact HRD.out))
            have o0 := bO5.cell 0
            have o1 := bO5.cell 1
            have o2 := bO5.cell 2
            simp at o0 o1 o2
            have lO := bO5.lt
            clear HMK bO5 hown5 hfin5 hfo5 HRD
            go_wp2_with fail
            refine (HFI.out _ rfl).mono ?_
            rintro e w9 ⟨v9, rfl, hM9, hb9⟩
            obtain ⟨A9, n9, c9, AF9, nf9, cf9, rfl⟩ := agg_of hM9
            have HM9 := hide hM9
            have HBE := hide (HBW.out.trans ((HBK.out.trans (hb9.mono (by omega))).mono (by omega)))
            have bR := (HR2.out.below HBK.out (by omega)).below hb9 (by omega)
            have bF := (HF2.out.below HBK.out (by omega)).below hb9 (by omega)
            have q0 := bR.cell 0
            have q1 := bR.cell 1
            have q2 := bR.cell 2
            have q3 := bF.cell 0
            have q4 := bF.cell 1
            have qf := bR.frozen 0
            have qf1 := bR.frozen 1
            have qf2 := bR.frozen 2
            have qf3 := bF.frozen 0
            have qf4 := bF.frozen 1
            simp at q0 q1 q2 q3 q4
            have lR := bR.lt
            have lF := bF.lt
            clear hM9 hb9 bR bF o0 o1 o2 lO HFI
            obtain ⟨g9, hg9⟩ : ∃ z, z = (finM n0 (((([] : List Arc) ++ a.arcs.map (shA 1)) ++ a.fins.map (fun x => eps (x.s + 1) 0 x.w)) ++ [eps 0 1 0]) ([(⟨0, 0⟩ : Fnl)])).n := ⟨_, rfl⟩
            rw [← hg9] at HM9 ⊢
            obtain ⟨p9, hp9⟩ : ∃ z, z = (finF n0 (n + nf + 1)).1 := ⟨_, rfl⟩
            obtain ⟨s9, hs9⟩ : ∃ z, z = (finF n0 (n + nf + 1)).2 := ⟨_, rfl⟩
            rw [← hp9, ← hs9]
            have HP9 := hide hp9
            have HS9 := hide hs9
            clear hg9 hp9 hs9
            go_wp2
            refine bodyPost_ret (v := .tuple #[.agg #[.int .i64 g9, .slice A9 n9 c9, .slice AF9 nf9 cf9], .agg #[.int .i64 p9, .int .i64 s9]]) (by simp [results, Try.results24, go_sem, lR, lF, q0, q1, q2, q3, q4, qf, qf1, qf2, qf3, qf4]) rfl ⟨.agg #[.int .i64 g9, .slice A9 n9 c9, .slice AF9 nf9 cf9], ?_, ?_, ?_⟩
            · have e1 : finF n0 (n + nf + 1) = starF a := by rw [show starF a = finF (1 + a.n) (starArcs a).length by unfold starF; rw [if_pos HVV.out], ← HP.out.length_eq, HLQ.out, HN0.out]
              rw [HP9.out, HS9.out, e1]
            · have e2 : finM n0 (((([] : List Arc) ++ a.arcs.map (shA 1)) ++ a.fins.map (fun x => eps (x.s + 1) 0 x.w)) ++ [eps 0 1 0]) ([(⟨0, 0⟩ : Fnl)]) = starR a := by rw [show starR a = finM (1 + a.n) (starArcs a) [⟨0, 0⟩] by unfold starR; rw [if_pos HVV.out]]; unfold finM; rw [HP.out.length_eq, srtA_congr HP.out, HN0.out]
              rw [e2] at HM9
              refine MachNew.mono (lo := G) ?_ (by omega)
              refine MachNew.set (MachNew.set (MachNew.set (MachNew.set (MachNew.set HM9.out ?_ _) ?_ _) ?_ _) ?_ _) ?_ _ <;> (dsimp only; omega)
            · refine Below.setCell (Below.setCell (Below.setCell (Below.setCell (Below.setCell HBE.out ?_ _) ?_ _) ?_ _) ?_ _) ?_ _ <;> (dsimp only; omega)
          · skip
            have tp : decide (a.n > 0) = false := decide_eq_false hpos
            have tp' : decide (0 < a.n) = false := decide_eq_false hpos
            go_upto_region 17 with fail
            clear tp tp' x0 lX bX
            obtain ⟨A5, c5, AF5, cf5, bO5, hown5, hfin5, hfo5⟩ := HMK.out
            have HP := hide (show (((([] : List Arc) ++ a.arcs.map (shA 1)) ++ a.fins.map (fun x => eps (x.s + 1) 0 x.w))).Perm (starArcs a) from by rw [HEPS.out]; unfold starArcs; rw [if_neg hpos])
            have HLQ := hide (show (((([] : List Arc) ++ a.arcs.map (shA 1)) ++ a.fins.map (fun x => eps (x.s + 1) 0 x.w))).length = (n + nf) by simp only [List.length_append, List.length_map, List.length_nil, List.length_singleton, HN.out, HF.out]; omega)
            have HFR := hide (show ([(⟨0, 0⟩ : Fnl)]).length = 1 by rfl)
            have HRD := hide (Rd.of_own hown5 (fun i j hi hj => arcRow_at _ i j (by rw [HLQ.out]; exact hi) hj))
            have HFI := hide (fun W (hW : W = wr) => rfin_any n0 (((([] : List Arc) ++ a.arcs.map (shA 1)) ++ a.fins.map (fun x => eps (x.s + 1) 0 x.w))) (n + nf) c5 A5 AF5 1 cf5 W HLQ.out ((HP.out.nodup_iff).2 (star_nodup HV.out)) (by omega) (by omega) ([(⟨0, 0⟩ : Fnl)]) G (by rw [hW]; omega) (by rw [hW]; exact hfin5) HFR.out (by unfold big; omega) (by rw [hW]; exact HRD.out))
            have o0 := bO5.cell 0
            have o1 := bO5.cell 1
            have o2 := bO5.cell 2
            simp at o0 o1 o2
            have lO := bO5.lt
            clear HMK bO5 hown5 hfin5 hfo5 HRD
            go_wp2_with fail
            refine (HFI.out _ rfl).mono ?_
            rintro e w9 ⟨v9, rfl, hM9, hb9⟩
            obtain ⟨A9, n9, c9, AF9, nf9, cf9, rfl⟩ := agg_of hM9
            have HM9 := hide hM9
            have HBE := hide (HBW.out.trans ((HBK.out.trans (hb9.mono (by omega))).mono (by omega)))
            have bR := (HR2.out.below HBK.out (by omega)).below hb9 (by omega)
            have bF := (HF2.out.below HBK.out (by omega)).below hb9 (by omega)
            have q0 := bR.cell 0
            have q1 := bR.cell 1
            have q2 := bR.cell 2
            have q3 := bF.cell 0
            have q4 := bF.cell 1
            have qf := bR.frozen 0
            have qf1 := bR.frozen 1
            have qf2 := bR.frozen 2
            have qf3 := bF.frozen 0
            have qf4 := bF.frozen 1
            simp at q0 q1 q2 q3 q4
            have lR := bR.lt
            have lF := bF.lt
            clear hM9 hb9 bR bF o0 o1 o2 lO HFI
            obtain ⟨g9, hg9⟩ : ∃ z, z = (finM n0 (((([] : List Arc) ++ a.arcs.map (shA 1)) ++ a.fins.map (fun x => eps (x.s + 1) 0 x.w))) ([(⟨0, 0⟩ : Fnl)])).n := ⟨_, rfl⟩
            rw [← hg9] at HM9 ⊢
            obtain ⟨p9, hp9⟩ : ∃ z, z = (finF n0 (n + nf)).1 := ⟨_, rfl⟩
            obtain ⟨s9, hs9⟩ : ∃ z, z = (finF n0 (n + nf)).2 := ⟨_, rfl⟩
            rw [← hp9, ← hs9]
            have HP9 := hide hp9
            have HS9 := hide hs9
            clear hg9 hp9 hs9
            go_wp2
            refine bodyPost_ret (v := .tuple #[.agg #[.int .i64 g9, .slice A9 n9 c9, .slice AF9 nf9 cf9], .agg #[.int .i64 p9, .int .i64 s9]]) (by simp [results, Try.results24, go_sem, lR, lF, q0, q1, q2, q3, q4, qf, qf1, qf2, qf3, qf4]) rfl ⟨.agg #[.int .i64 g9, .slice A9 n9 c9, .slice AF9 nf9 cf9], ?_, ?_, ?_⟩
            · have e1 : finF n0 (n + nf) = starF a := by rw [show starF a = finF (1 + a.n) (starArcs a).length by unfold starF; rw [if_pos HVV.out], ← HP.out.length_eq, HLQ.out, HN0.out]
              rw [HP9.out, HS9.out, e1]
            · have e2 : finM n0 (((([] : List Arc) ++ a.arcs.map (shA 1)) ++ a.fins.map (fun x => eps (x.s + 1) 0 x.w))) ([(⟨0, 0⟩ : Fnl)]) = starR a := by rw [show starR a = finM (1 + a.n) (starArcs a) [⟨0, 0⟩] by unfold starR; rw [if_pos HVV.out]]; unfold finM; rw [HP.out.length_eq, srtA_congr HP.out, HN0.out]
              rw [e2] at HM9
              refine MachNew.mono (lo := G) ?_ (by omega)
              refine MachNew.set (MachNew.set (MachNew.set (MachNew.set (MachNew.set HM9.out ?_ _) ?_ _) ?_ _) ?_ _) ?_ _ <;> (dsimp only; omega)
            · refine Below.setCell (Below.setCell (Below.setCell (Below.setCell (Below.setCell HBE.out ?_ _) ?_ _) ?_ _) ?_ _) ?_ _ <;> (dsimp only; omega)
/-- The reference's Starred, at any machine. -/
theorem rstar_any (va : Value) (a : Mach) (w : World) (B : Nat) (hB : B ≤ w.heap.size) (ha : MachAt w B va a) :
    Calls Try.prog 24 #[va] w fun e w' => ∃ v', e = .returned (.tuple #[v', .agg #[.int .i64 (starF a).1, .int .i64 (starF a).2]]) ∧ MachNew w.heap.size w' v' (starR a) ∧ Below w.heap.size w w' := by
  by_cases hz : validate a = (0, 0)
  · exact rstar_good va a w B hB ha hz
  · have e1 : starF a = validate a := by unfold starF; rw [if_neg hz]
    have e2 : starR a = emptyM := by unfold starR; rw [if_neg hz]
    rw [e1, e2]
    exact (rstar_bad va a w B hB ha hz).mono fun e w' ⟨he, hb⟩ => ⟨_, he, MachNew.empty _ _, hb⟩
end Go.Proofs.Ytmgpcnkmmgkjgaa
