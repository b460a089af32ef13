/- The reference's Changed, walked for each of its three ways. Written by gen_cg.py. -/
import Derived.Test.YtmgpcnkmmgkjgaaChD
import Derived.Test.YtmgpcnkmmgkjgaaSdW
namespace Go.Proofs.Ytmgpcnkmmgkjgaa
open Go.RowKit Gm Go.Sort Go.Shelf
set_option linter.unusedSimpArgs false
set_option linter.unusedVariables false
theorem sameA_red : sameA true = likeA := funext fun a => funext fun b => by unfold sameA; rw [if_pos rfl]
theorem own_belowG {w w' : World} {base sz n : Nat} {e : TypeId} {v : Value} {xs : List Value} (h : w.ownsRow base e sz v n xs) (hb : Below w.heap.size w w') : w'.ownsRow base e sz v n xs :=
  h.kept (row := none) ⟨hb.os, hb.tape, hb.output, hb.size, fun k hk _ => hb.block k hk⟩ (by cases v.ownBlock <;> simp)
set_option maxRecDepth 100000 in
set_option maxHeartbeats 16000000 in
theorem rch1_any (va : Value) (a : Mach) (w : World) (B : Nat) (hB : B ≤ w.heap.size) (ha : MachAt w B va a) (hv : Valid a) :
    Calls Try.prog 17 #[va, .int .i64 1] w fun e w' => ∃ v', e = .returned v' ∧ MachAt w' w'.heap.size v' (chM 1 a) ∧ Below w.heap.size w w' := by
  obtain ⟨A, AF, n, c, nf, cf, rfl, HN, HF, hnc, hnfc, hnb, hnfb, hA, hF⟩ := ha
  have hlen := hv.len
  rw [HN.out] at hlen
  have HRA := hide hA
  have HRF := hide hF
  obtain ⟨ia, ha0, ha1, ha2, ha3⟩ := info_parts arc_info
  clear hA hF hv
  go_enter Try.func17, Try.ntmps17
  go_upto_region 2 with fail
  generalize hW2 : World.alloc _ _ = W2
  obtain ⟨O, hO⟩ : ∃ z, z = w.heap.size + 1 + 1 := ⟨_, rfl⟩
  have HX2 := hide (show Blk W2 w.heap.size 25 #[.int .i64 a.n, .slice A n c, .slice AF nf cf] by rw [← hW2]; exact ((Blk.at_ rfl).alloc _).alloc _)
  have HR2 := hide (show Blk W2 (w.heap.size + 1) 25 #[.int .i64 0, .slice none 0 0, .slice none 0 0] by rw [← hW2]; exact (Blk.at_ (by simp)).alloc _)
  have HO2 := hide (show Blk W2 O 25 #[.int .i64 a.n, .slice none 0 0, .slice AF nf cf] by rw [← hW2]; exact Blk.at_ (by simp [hO]))
  have HBW := hide (show Below w.heap.size w W2 by rw [← hW2]; go_grown)
  have hz2 : O + 1 ≤ W2.heap.size := by rw [← hW2, hO]; simp
  have hOw : w.heap.size + 1 < O := by omega
  have HRA2 := hide (HRA.out.below HBW.out hB)
  have HRF2 := hide (HRF.out.below HBW.out hB)
  have x1 := HX2.out.cell 1
  simp at x1
  have lX := HX2.out.lt
  simp only [← hO]
  clear hW2 hO
  go_wp2
  clear x1 lX
  go_loopw [18] (fun iv wr => ∃ (k : Nat) (A5 : Option Addr) (c5 : Nat), k ≤ n ∧ iv = .int .i64 k ∧ Hid (Blk wr O 25 #[.int .i64 a.n, .slice A5 k c5, .slice AF nf cf]) ∧ Hid (wr.ownsRow (O + 1) 45 5 (.slice A5 k c5) k (arcRow ((a.arcs.take k).map (chA 1)))) ∧ Hid (Below O W2 wr) ∧ O + 1 ≤ wr.heap.size) (fun iv _ => n - (intOf iv).toNat)
  case atStart => exact ⟨0, none, 0, by omega, rfl, HO2, hide (World.ownsRow_nil _ _ _ _), hide (Below.refl _ _), hz2⟩
  case round =>
    clear HO2 hz2
    obtain ⟨k, A5, c5, hk, rfl, HO, HOWN, HBK, hz⟩ := hrel
    by_cases hkn : k < n
    · obtain ⟨bb, off, x, rfl, hbB, d0, d1, d2, d3, d4, HX⟩ := arcs_at (HRA2.out.below HBK.out (by omega)) hkn
      have hkl : k < a.arcs.length := by rw [HN.out]; exact hkn
      have HTK := hide (take_push hkl HX.out)
      have lb : bb < wr.heap.size := by omega
      have hneO : (Value.slice A5 k c5).ownBlock ≠ some O := fun e => by have := (HOWN.out.lt O e).1; omega
      have HLOW := hide (show ∀ q, (Value.slice A5 k c5).ownBlock = some q → O ≤ q from fun q hq => by have := (HOWN.out.lt q hq).1; omega)
      clear hkl HX
      go_wp2
      go_quiet (fail)
      go_upto_region 13 with fail
      generalize hW6 : World.setCell _ _ _ = W6
      obtain ⟨X9, hX9⟩ : ∃ z, z = wr.heap.size := ⟨_, rfl⟩
      have hb6 : Below wr.heap.size wr W6 := by rw [← hW6]; exact ((below_drewN ((Below.refl _ _).alloc (Nat.le_refl _) _) nq).setCell (by exact Nat.le_refl _) _).setCell (by exact Nat.le_refl _) _
      have bA6 : Blk W6 X9 45 #[.int .i64 x.f, .int .i64 x.t, .int .i64 x.o, .int .i64 x.i, .int .i64 x.w] := by rw [← hW6, hX9]; exact (by simpa using ((show Blk ((wr.alloc (Obj.cells #[.int .i64 x.f, .int .i64 x.t, .int .i64 x.i, .int .i64 x.o, .int .i64 x.w] 45)).drewN nq) wr.heap.size 45 #[.int .i64 x.f, .int .i64 x.t, .int .i64 x.i, .int .i64 x.o, .int .i64 x.w] from Blk.at_ rfl).set_ 2 (.int .i64 x.o)).set_ 3 (.int .i64 x.i))
      have bO6 := HO.out.below hb6 HO.out.lt
      have HOWN6 := hide (own_belowG HOWN.out hb6)
      have HB6 := hide (HBK.out.trans (hb6.mono (by omega)))
      have hs6 := hb6.size
      have hXO : O < X9 := by omega
      have a0 := bA6.cell 0
      have a1 := bA6.cell 1
      have a2 := bA6.cell 2
      have a3 := bA6.cell 3
      have a4 := bA6.cell 4
      have o1 := bO6.cell 1
      simp at a0 a1 a2 a3 a4 o1
      have lA6 := bA6.lt
      have lO6 := bO6.lt
      have HO6 := hide bO6
      simp only [← hX9]
      clear hW6 hX9 hb6 bA6 bO6 d0 d1 d2 d3 d4 HO HOWN HBK
      go_wp2_with (at_builtin; refine wpList_append_own _ rfl (.tmp 42) (.tmp 44) 22 rfl (O + 1) 45 ia _ 5 40 Try.underlying22 ha0 ha1 ha2 ha3 rfl (by omega) (.slice A5 k c5) k _ rfl (HOWN6.out.alloc _) ⟨W6.heap.size, 0, none⟩ 1 1 (arcRow [chA 1 x]) rfl (by rfl) (World.news_of_block (cs := (arcRow [chA 1 x]).toArray) (t := 45) (fr := (0, 0)) (Blk.at_ rfl)) (arcRow_one _) (by simp only [maxLen]; omega) (by omega) (by simp <;> omega) ?_; intro v' w8 hown2 hg2 _; obtain ⟨Av, cv, rfl, hkcv, _⟩ := own_value hown2; have bO8 := (HO6.out.alloc _).grown hg2 (Ne.symm hneO); have of1' := bO8.frozen 1; have lO8 := bO8.lt; have o1' := bO8.cell 1; simp at o1')
      have hs8 := hg2.size
      simp at hs8
      have HBO8 := hide (bO8.set_ 1 (.slice Av (k + 1) cv))
      have hown3 : w8.ownsRow (O + 1) 45 5 (.slice Av (k + 1) cv) (k + 1) (arcRow ((a.arcs.take (k + 1)).map (chA 1))) := by rw [HTK.out, List.map_append, arcRow_append]; exact hown2
      have HOWN8 := hide (ownsRow_setCell_below hown3 (a := ⟨O, 1, none⟩) (Nat.lt_succ_self O) (.slice Av (k + 1) cv))
      have HG2 := hide hg2
      clear hown2 hown3 hg2 bO8
      go_roundw
      case rel => exact ⟨k + 1, Av, cv, by omega, by go_num, hide (by simpa using HBO8.out), HOWN8, hide (((HB6.out.alloc (by omega) _).grown HG2.out (by simp <;> omega) (fun q hq => HLOW.out q hq)).setCell (by exact Nat.le_refl _) _), by simp [World.setCell]; omega⟩
      case measure => simp [intOf]; omega
    · obtain rfl : n = k := by omega
      have hend : a.arcs.take n = a.arcs := List.take_of_length_le (by rw [HN.out]; exact Nat.le_refl _)
      rw [hend] at HOWN
      have HLQ := hide (show (a.arcs.map (chA 1)).length = n by rw [List.length_map, HN.out])
      have HRD := hide (Rd.of_own HOWN.out (fun i j hi hj => arcRow_at _ i j (by rw [HLQ.out]; exact hi) hj))
      have HSR := hide (fun W (hW : W = wr) => sorted_any A5 n c5 true (a.arcs.map (chA 1)) W wr.heap.size (by rw [hW]; exact Nat.le_refl _) HLQ.out (by omega) (by rw [hW]; exact HRD.out))
      have o1 := HO.out.cell 1
      simp at o1
      have lO := HO.out.lt
      clear hend HOWN HRD
      go_wp2_with fail
      refine (HSR.out _ rfl).mono ?_
      rintro e w9 ⟨A9, c9, rfl, hown9, hb9⟩
      rw [sameA_red] at hown9 ⊢
      obtain ⟨RL, hRL⟩ : ∃ z, z = compact likeA (srtA (a.arcs.map (chA 1))) := ⟨_, rfl⟩
      rw [← hRL] at hown9 ⊢
      obtain ⟨n9, hn9⟩ : ∃ z, z = RL.length := ⟨_, rfl⟩
      rw [← hn9] at hown9 ⊢
      obtain ⟨A9', c9', hv9, hnc9, hcm9⟩ := own_value hown9
      obtain ⟨rfl, rfl⟩ : A9 = A9' ∧ c9 = c9' := by injection hv9 with e1 e2 e3; exact ⟨e1, e3⟩
      clear hv9
      have hl9 : n9 ≤ n := by rw [hn9, hRL, ← HLQ.out]; exact Nat.le_trans (compact_len likeA _) (Nat.le_of_eq (srtA_perm _).length_eq)
      have HRL := hide hRL
      have HN9 := hide hn9
      have bO9 := HO.out.below hb9 lO
      have hb9' : Below O W2 w9 := HBK.out.trans (hb9.mono (by omega))
      have bR := HR2.out.below hb9' (by omega)
      have HBE := hide (HBW.out.trans (hb9'.mono (by omega)))
      have HOW9 := hide (ownsRow_setCell_below (ownsRow_setCell_below (ownsRow_setCell_below (ownsRow_setCell_below hown9 (a := ⟨O, 1, none⟩) (by dsimp only; omega) (.slice A9 n9 c9)) (a := ⟨w.heap.size + 1, 0, none⟩) (by dsimp only; omega) (.int .i64 a.n)) (a := ⟨w.heap.size + 1, 1, none⟩) (by dsimp only; omega) (.slice A9 n9 c9)) (a := ⟨w.heap.size + 1, 2, none⟩) (by dsimp only; omega) (.slice AF nf cf))
      have o0 := bO9.cell 0
      have o1 := bO9.cell 1
      have o2 := bO9.cell 2
      have of1 := bO9.frozen 1
      have lO9 := bO9.lt
      have q0 := bR.cell 0
      have q1 := bR.cell 1
      have q2 := bR.cell 2
      have qf := bR.frozen 0
      have qf1 := bR.frozen 1
      have qf2 := bR.frozen 2
      have lR := bR.lt
      simp at o0 o1 o2 q0 q1 q2
      have hRO : w.heap.size + 1 ≠ O := by omega
      have hOR : O ≠ w.heap.size + 1 := by omega
      have HBE' := hide ((((HBE.out.setCell (p := ⟨O, 1, none⟩) (by dsimp only; omega) (.slice A9 n9 c9)).setCell (p := ⟨w.heap.size + 1, 0, none⟩) (by dsimp only; omega) (.int .i64 a.n)).setCell (p := ⟨w.heap.size + 1, 1, none⟩) (by dsimp only; omega) (.slice A9 n9 c9)).setCell (p := ⟨w.heap.size + 1, 2, none⟩) (by dsimp only; omega) (.slice AF nf cf))
      clear hb9 hb9' bO9 bR hown9 hRL hn9 HBE HSR HO HBK lO
      go_wp21
      refine bodyPost_ret (v := .agg #[.int .i64 a.n, .slice A9 n9 c9, .slice AF nf cf]) (by simp [results, Try.results17, go_sem, lR, q0, q1, q2, qf, qf1, qf2, hRO, hOR]) rfl ⟨_, rfl, ?_, HBE'.out⟩
      have e9 : chM 1 a = ⟨a.n, RL, a.fins⟩ := by unfold chM; rw [HRL.out]
      rw [e9]
      refine ⟨A9, AF, n9, c9, nf, cf, rfl, hide HN9.out.symm, HF, hnc9, hnfc, by unfold big; omega, hnfb, ?_, ?_⟩
      · exact Rd.of_own HOW9.out (fun i j hi hj => arcRow_at _ i j (by show i < RL.length; rw [← HN9.out]; exact hi) hj)
      · exact (HRF.out.below HBE'.out hB).mono (by have := HBE'.out.size; omega)
set_option maxRecDepth 100000 in
set_option maxHeartbeats 16000000 in
theorem rch2_any (va : Value) (a : Mach) (w : World) (B : Nat) (hB : B ≤ w.heap.size) (ha : MachAt w B va a) (hv : Valid a) :
    Calls Try.prog 17 #[va, .int .i64 2] w fun e w' => ∃ v', e = .returned v' ∧ MachAt w' w'.heap.size v' (chM 2 a) ∧ Below w.heap.size w w' := by
  obtain ⟨A, AF, n, c, nf, cf, rfl, HN, HF, hnc, hnfc, hnb, hnfb, hA, hF⟩ := ha
  have hlen := hv.len
  rw [HN.out] at hlen
  have HRA := hide hA
  have HRF := hide hF
  obtain ⟨ia, ha0, ha1, ha2, ha3⟩ := info_parts arc_info
  clear hA hF hv
  go_enter Try.func17, Try.ntmps17
  go_upto_region 2 with fail
  generalize hW2 : World.alloc _ _ = W2
  obtain ⟨O, hO⟩ : ∃ z, z = w.heap.size + 1 + 1 := ⟨_, rfl⟩
  have HX2 := hide (show Blk W2 w.heap.size 25 #[.int .i64 a.n, .slice A n c, .slice AF nf cf] by rw [← hW2]; exact ((Blk.at_ rfl).alloc _).alloc _)
  have HR2 := hide (show Blk W2 (w.heap.size + 1) 25 #[.int .i64 0, .slice none 0 0, .slice none 0 0] by rw [← hW2]; exact (Blk.at_ (by simp)).alloc _)
  have HO2 := hide (show Blk W2 O 25 #[.int .i64 a.n, .slice none 0 0, .slice AF nf cf] by rw [← hW2]; exact Blk.at_ (by simp [hO]))
  have HBW := hide (show Below w.heap.size w W2 by rw [← hW2]; go_grown)
  have hz2 : O + 1 ≤ W2.heap.size := by rw [← hW2, hO]; simp
  have hOw : w.heap.size + 1 < O := by omega
  have HRA2 := hide (HRA.out.below HBW.out hB)
  have HRF2 := hide (HRF.out.below HBW.out hB)
  have x1 := HX2.out.cell 1
  simp at x1
  have lX := HX2.out.lt
  simp only [← hO]
  clear hW2 hO
  go_wp2
  clear x1 lX
  go_loopw [18] (fun iv wr => ∃ (k : Nat) (A5 : Option Addr) (c5 : Nat), k ≤ n ∧ iv = .int .i64 k ∧ Hid (Blk wr O 25 #[.int .i64 a.n, .slice A5 k c5, .slice AF nf cf]) ∧ Hid (wr.ownsRow (O + 1) 45 5 (.slice A5 k c5) k (arcRow ((a.arcs.take k).map (chA 2)))) ∧ Hid (Below O W2 wr) ∧ O + 1 ≤ wr.heap.size) (fun iv _ => n - (intOf iv).toNat)
  case atStart => exact ⟨0, none, 0, by omega, rfl, HO2, hide (World.ownsRow_nil _ _ _ _), hide (Below.refl _ _), hz2⟩
  case round =>
    clear HO2 hz2
    obtain ⟨k, A5, c5, hk, rfl, HO, HOWN, HBK, hz⟩ := hrel
    by_cases hkn : k < n
    · obtain ⟨bb, off, x, rfl, hbB, d0, d1, d2, d3, d4, HX⟩ := arcs_at (HRA2.out.below HBK.out (by omega)) hkn
      have hkl : k < a.arcs.length := by rw [HN.out]; exact hkn
      have HTK := hide (take_push hkl HX.out)
      have lb : bb < wr.heap.size := by omega
      have hneO : (Value.slice A5 k c5).ownBlock ≠ some O := fun e => by have := (HOWN.out.lt O e).1; omega
      have HLOW := hide (show ∀ q, (Value.slice A5 k c5).ownBlock = some q → O ≤ q from fun q hq => by have := (HOWN.out.lt q hq).1; omega)
      clear hkl HX
      go_wp2
      go_quiet (fail)
      go_upto_region 13 with fail
      generalize hW6 : World.setCell _ _ _ = W6
      obtain ⟨X9, hX9⟩ : ∃ z, z = wr.heap.size := ⟨_, rfl⟩
      have hb6 : Below wr.heap.size wr W6 := by rw [← hW6]; exact (below_drewN ((Below.refl _ _).alloc (Nat.le_refl _) _) nq).setCell (by exact Nat.le_refl _) _
      have bA6 : Blk W6 X9 45 #[.int .i64 x.f, .int .i64 x.t, .int .i64 x.i, .int .i64 x.i, .int .i64 x.w] := by rw [← hW6, hX9]; exact (by simpa using (show Blk ((wr.alloc (Obj.cells #[.int .i64 x.f, .int .i64 x.t, .int .i64 x.i, .int .i64 x.o, .int .i64 x.w] 45)).drewN nq) wr.heap.size 45 #[.int .i64 x.f, .int .i64 x.t, .int .i64 x.i, .int .i64 x.o, .int .i64 x.w] from Blk.at_ rfl).set_ 3 (.int .i64 x.i))
      have bO6 := HO.out.below hb6 HO.out.lt
      have HOWN6 := hide (own_belowG HOWN.out hb6)
      have HB6 := hide (HBK.out.trans (hb6.mono (by omega)))
      have hs6 := hb6.size
      have hXO : O < X9 := by omega
      have a0 := bA6.cell 0
      have a1 := bA6.cell 1
      have a2 := bA6.cell 2
      have a3 := bA6.cell 3
      have a4 := bA6.cell 4
      have o1 := bO6.cell 1
      simp at a0 a1 a2 a3 a4 o1
      have lA6 := bA6.lt
      have lO6 := bO6.lt
      have HO6 := hide bO6
      simp only [← hX9]
      clear hW6 hX9 hb6 bA6 bO6 d0 d1 d2 d3 d4 HO HOWN HBK
      go_wp2_with (at_builtin; refine wpList_append_own _ rfl (.tmp 42) (.tmp 44) 22 rfl (O + 1) 45 ia _ 5 40 Try.underlying22 ha0 ha1 ha2 ha3 rfl (by omega) (.slice A5 k c5) k _ rfl (HOWN6.out.alloc _) ⟨W6.heap.size, 0, none⟩ 1 1 (arcRow [chA 2 x]) rfl (by rfl) (World.news_of_block (cs := (arcRow [chA 2 x]).toArray) (t := 45) (fr := (0, 0)) (Blk.at_ rfl)) (arcRow_one _) (by simp only [maxLen]; omega) (by omega) (by simp <;> omega) ?_; intro v' w8 hown2 hg2 _; obtain ⟨Av, cv, rfl, hkcv, _⟩ := own_value hown2; have bO8 := (HO6.out.alloc _).grown hg2 (Ne.symm hneO); have of1' := bO8.frozen 1; have lO8 := bO8.lt; have o1' := bO8.cell 1; simp at o1')
      have hs8 := hg2.size
      simp at hs8
      have HBO8 := hide (bO8.set_ 1 (.slice Av (k + 1) cv))
      have hown3 : w8.ownsRow (O + 1) 45 5 (.slice Av (k + 1) cv) (k + 1) (arcRow ((a.arcs.take (k + 1)).map (chA 2))) := by rw [HTK.out, List.map_append, arcRow_append]; exact hown2
      have HOWN8 := hide (ownsRow_setCell_below hown3 (a := ⟨O, 1, none⟩) (Nat.lt_succ_self O) (.slice Av (k + 1) cv))
      have HG2 := hide hg2
      clear hown2 hown3 hg2 bO8
      go_roundw
      case rel => exact ⟨k + 1, Av, cv, by omega, by go_num, hide (by simpa using HBO8.out), HOWN8, hide (((HB6.out.alloc (by omega) _).grown HG2.out (by simp <;> omega) (fun q hq => HLOW.out q hq)).setCell (by exact Nat.le_refl _) _), by simp [World.setCell]; omega⟩
      case measure => simp [intOf]; omega
    · obtain rfl : n = k := by omega
      have hend : a.arcs.take n = a.arcs := List.take_of_length_le (by rw [HN.out]; exact Nat.le_refl _)
      rw [hend] at HOWN
      have HLQ := hide (show (a.arcs.map (chA 2)).length = n by rw [List.length_map, HN.out])
      have HRD := hide (Rd.of_own HOWN.out (fun i j hi hj => arcRow_at _ i j (by rw [HLQ.out]; exact hi) hj))
      have HSR := hide (fun W (hW : W = wr) => sorted_any A5 n c5 true (a.arcs.map (chA 2)) W wr.heap.size (by rw [hW]; exact Nat.le_refl _) HLQ.out (by omega) (by rw [hW]; exact HRD.out))
      have o1 := HO.out.cell 1
      simp at o1
      have lO := HO.out.lt
      clear hend HOWN HRD
      go_wp2_with fail
      refine (HSR.out _ rfl).mono ?_
      rintro e w9 ⟨A9, c9, rfl, hown9, hb9⟩
      rw [sameA_red] at hown9 ⊢
      obtain ⟨RL, hRL⟩ : ∃ z, z = compact likeA (srtA (a.arcs.map (chA 2))) := ⟨_, rfl⟩
      rw [← hRL] at hown9 ⊢
      obtain ⟨n9, hn9⟩ : ∃ z, z = RL.length := ⟨_, rfl⟩
      rw [← hn9] at hown9 ⊢
      obtain ⟨A9', c9', hv9, hnc9, hcm9⟩ := own_value hown9
      obtain ⟨rfl, rfl⟩ : A9 = A9' ∧ c9 = c9' := by injection hv9 with e1 e2 e3; exact ⟨e1, e3⟩
      clear hv9
      have hl9 : n9 ≤ n := by rw [hn9, hRL, ← HLQ.out]; exact Nat.le_trans (compact_len likeA _) (Nat.le_of_eq (srtA_perm _).length_eq)
      have HRL := hide hRL
      have HN9 := hide hn9
      have bO9 := HO.out.below hb9 lO
      have hb9' : Below O W2 w9 := HBK.out.trans (hb9.mono (by omega))
      have bR := HR2.out.below hb9' (by omega)
      have HBE := hide (HBW.out.trans (hb9'.mono (by omega)))
      have HOW9 := hide (ownsRow_setCell_below (ownsRow_setCell_below (ownsRow_setCell_below (ownsRow_setCell_below hown9 (a := ⟨O, 1, none⟩) (by dsimp only; omega) (.slice A9 n9 c9)) (a := ⟨w.heap.size + 1, 0, none⟩) (by dsimp only; omega) (.int .i64 a.n)) (a := ⟨w.heap.size + 1, 1, none⟩) (by dsimp only; omega) (.slice A9 n9 c9)) (a := ⟨w.heap.size + 1, 2, none⟩) (by dsimp only; omega) (.slice AF nf cf))
      have o0 := bO9.cell 0
      have o1 := bO9.cell 1
      have o2 := bO9.cell 2
      have of1 := bO9.frozen 1
      have lO9 := bO9.lt
      have q0 := bR.cell 0
      have q1 := bR.cell 1
      have q2 := bR.cell 2
      have qf := bR.frozen 0
      have qf1 := bR.frozen 1
      have qf2 := bR.frozen 2
      have lR := bR.lt
      simp at o0 o1 o2 q0 q1 q2
      have hRO : w.heap.size + 1 ≠ O := by omega
      have hOR : O ≠ w.heap.size + 1 := by omega
      have HBE' := hide ((((HBE.out.setCell (p := ⟨O, 1, none⟩) (by dsimp only; omega) (.slice A9 n9 c9)).setCell (p := ⟨w.heap.size + 1, 0, none⟩) (by dsimp only; omega) (.int .i64 a.n)).setCell (p := ⟨w.heap.size + 1, 1, none⟩) (by dsimp only; omega) (.slice A9 n9 c9)).setCell (p := ⟨w.heap.size + 1, 2, none⟩) (by dsimp only; omega) (.slice AF nf cf))
      clear hb9 hb9' bO9 bR hown9 hRL hn9 HBE HSR HO HBK lO
      go_wp21
      refine bodyPost_ret (v := .agg #[.int .i64 a.n, .slice A9 n9 c9, .slice AF nf cf]) (by simp [results, Try.results17, go_sem, lR, q0, q1, q2, qf, qf1, qf2, hRO, hOR]) rfl ⟨_, rfl, ?_, HBE'.out⟩
      have e9 : chM 2 a = ⟨a.n, RL, a.fins⟩ := by unfold chM; rw [HRL.out]
      rw [e9]
      refine ⟨A9, AF, n9, c9, nf, cf, rfl, hide HN9.out.symm, HF, hnc9, hnfc, by unfold big; omega, hnfb, ?_, ?_⟩
      · exact Rd.of_own HOW9.out (fun i j hi hj => arcRow_at _ i j (by show i < RL.length; rw [← HN9.out]; exact hi) hj)
      · exact (HRF.out.below HBE'.out hB).mono (by have := HBE'.out.size; omega)
set_option maxRecDepth 100000 in
set_option maxHeartbeats 16000000 in
theorem rch3_any (va : Value) (a : Mach) (w : World) (B : Nat) (hB : B ≤ w.heap.size) (ha : MachAt w B va a) (hv : Valid a) :
    Calls Try.prog 17 #[va, .int .i64 3] w fun e w' => ∃ v', e = .returned v' ∧ MachAt w' w'.heap.size v' (chM 3 a) ∧ Below w.heap.size w w' := by
  obtain ⟨A, AF, n, c, nf, cf, rfl, HN, HF, hnc, hnfc, hnb, hnfb, hA, hF⟩ := ha
  have hlen := hv.len
  rw [HN.out] at hlen
  have HRA := hide hA
  have HRF := hide hF
  obtain ⟨ia, ha0, ha1, ha2, ha3⟩ := info_parts arc_info
  clear hA hF hv
  go_enter Try.func17, Try.ntmps17
  go_upto_region 2 with fail
  generalize hW2 : World.alloc _ _ = W2
  obtain ⟨O, hO⟩ : ∃ z, z = w.heap.size + 1 + 1 := ⟨_, rfl⟩
  have HX2 := hide (show Blk W2 w.heap.size 25 #[.int .i64 a.n, .slice A n c, .slice AF nf cf] by rw [← hW2]; exact ((Blk.at_ rfl).alloc _).alloc _)
  have HR2 := hide (show Blk W2 (w.heap.size + 1) 25 #[.int .i64 0, .slice none 0 0, .slice none 0 0] by rw [← hW2]; exact (Blk.at_ (by simp)).alloc _)
  have HO2 := hide (show Blk W2 O 25 #[.int .i64 a.n, .slice none 0 0, .slice AF nf cf] by rw [← hW2]; exact Blk.at_ (by simp [hO]))
  have HBW := hide (show Below w.heap.size w W2 by rw [← hW2]; go_grown)
  have hz2 : O + 1 ≤ W2.heap.size := by rw [← hW2, hO]; simp
  have hOw : w.heap.size + 1 < O := by omega
  have HRA2 := hide (HRA.out.below HBW.out hB)
  have HRF2 := hide (HRF.out.below HBW.out hB)
  have x1 := HX2.out.cell 1
  simp at x1
  have lX := HX2.out.lt
  simp only [← hO]
  clear hW2 hO
  go_wp2
  clear x1 lX
  go_loopw [18] (fun iv wr => ∃ (k : Nat) (A5 : Option Addr) (c5 : Nat), k ≤ n ∧ iv = .int .i64 k ∧ Hid (Blk wr O 25 #[.int .i64 a.n, .slice A5 k c5, .slice AF nf cf]) ∧ Hid (wr.ownsRow (O + 1) 45 5 (.slice A5 k c5) k (arcRow ((a.arcs.take k).map (chA 3)))) ∧ Hid (Below O W2 wr) ∧ O + 1 ≤ wr.heap.size) (fun iv _ => n - (intOf iv).toNat)
  case atStart => exact ⟨0, none, 0, by omega, rfl, HO2, hide (World.ownsRow_nil _ _ _ _), hide (Below.refl _ _), hz2⟩
  case round =>
    clear HO2 hz2
    obtain ⟨k, A5, c5, hk, rfl, HO, HOWN, HBK, hz⟩ := hrel
    by_cases hkn : k < n
    · obtain ⟨bb, off, x, rfl, hbB, d0, d1, d2, d3, d4, HX⟩ := arcs_at (HRA2.out.below HBK.out (by omega)) hkn
      have hkl : k < a.arcs.length := by rw [HN.out]; exact hkn
      have HTK := hide (take_push hkl HX.out)
      have lb : bb < wr.heap.size := by omega
      have hneO : (Value.slice A5 k c5).ownBlock ≠ some O := fun e => by have := (HOWN.out.lt O e).1; omega
      have HLOW := hide (show ∀ q, (Value.slice A5 k c5).ownBlock = some q → O ≤ q from fun q hq => by have := (HOWN.out.lt q hq).1; omega)
      clear hkl HX
      go_wp2
      go_quiet (fail)
      go_upto_region 13 with fail
      generalize hW6 : World.setCell _ _ _ = W6
      obtain ⟨X9, hX9⟩ : ∃ z, z = wr.heap.size := ⟨_, rfl⟩
      have hb6 : Below wr.heap.size wr W6 := by rw [← hW6]; exact (below_drewN ((Below.refl _ _).alloc (Nat.le_refl _) _) nq).setCell (by exact Nat.le_refl _) _
      have bA6 : Blk W6 X9 45 #[.int .i64 x.f, .int .i64 x.t, .int .i64 x.o, .int .i64 x.o, .int .i64 x.w] := by rw [← hW6, hX9]; exact (by simpa using (show Blk ((wr.alloc (Obj.cells #[.int .i64 x.f, .int .i64 x.t, .int .i64 x.i, .int .i64 x.o, .int .i64 x.w] 45)).drewN nq) wr.heap.size 45 #[.int .i64 x.f, .int .i64 x.t, .int .i64 x.i, .int .i64 x.o, .int .i64 x.w] from Blk.at_ rfl).set_ 2 (.int .i64 x.o))
      have bO6 := HO.out.below hb6 HO.out.lt
      have HOWN6 := hide (own_belowG HOWN.out hb6)
      have HB6 := hide (HBK.out.trans (hb6.mono (by omega)))
      have hs6 := hb6.size
      have hXO : O < X9 := by omega
      have a0 := bA6.cell 0
      have a1 := bA6.cell 1
      have a2 := bA6.cell 2
      have a3 := bA6.cell 3
      have a4 := bA6.cell 4
      have o1 := bO6.cell 1
      simp at a0 a1 a2 a3 a4 o1
      have lA6 := bA6.lt
      have lO6 := bO6.lt
      have HO6 := hide bO6
      simp only [← hX9]
      clear hW6 hX9 hb6 bA6 bO6 d0 d1 d2 d3 d4 HO HOWN HBK
      go_wp2_with (at_builtin; refine wpList_append_own _ rfl (.tmp 42) (.tmp 44) 22 rfl (O + 1) 45 ia _ 5 40 Try.underlying22 ha0 ha1 ha2 ha3 rfl (by omega) (.slice A5 k c5) k _ rfl (HOWN6.out.alloc _) ⟨W6.heap.size, 0, none⟩ 1 1 (arcRow [chA 3 x]) rfl (by rfl) (World.news_of_block (cs := (arcRow [chA 3 x]).toArray) (t := 45) (fr := (0, 0)) (Blk.at_ rfl)) (arcRow_one _) (by simp only [maxLen]; omega) (by omega) (by simp <;> omega) ?_; intro v' w8 hown2 hg2 _; obtain ⟨Av, cv, rfl, hkcv, _⟩ := own_value hown2; have bO8 := (HO6.out.alloc _).grown hg2 (Ne.symm hneO); have of1' := bO8.frozen 1; have lO8 := bO8.lt; have o1' := bO8.cell 1; simp at o1')
      have hs8 := hg2.size
      simp at hs8
      have HBO8 := hide (bO8.set_ 1 (.slice Av (k + 1) cv))
      have hown3 : w8.ownsRow (O + 1) 45 5 (.slice Av (k + 1) cv) (k + 1) (arcRow ((a.arcs.take (k + 1)).map (chA 3))) := by rw [HTK.out, List.map_append, arcRow_append]; exact hown2
      have HOWN8 := hide (ownsRow_setCell_below hown3 (a := ⟨O, 1, none⟩) (Nat.lt_succ_self O) (.slice Av (k + 1) cv))
      have HG2 := hide hg2
      clear hown2 hown3 hg2 bO8
      go_roundw
      case rel => exact ⟨k + 1, Av, cv, by omega, by go_num, hide (by simpa using HBO8.out), HOWN8, hide (((HB6.out.alloc (by omega) _).grown HG2.out (by simp <;> omega) (fun q hq => HLOW.out q hq)).setCell (by exact Nat.le_refl _) _), by simp [World.setCell]; omega⟩
      case measure => simp [intOf]; omega
    · obtain rfl : n = k := by omega
      have hend : a.arcs.take n = a.arcs := List.take_of_length_le (by rw [HN.out]; exact Nat.le_refl _)
      rw [hend] at HOWN
      have HLQ := hide (show (a.arcs.map (chA 3)).length = n by rw [List.length_map, HN.out])
      have HRD := hide (Rd.of_own HOWN.out (fun i j hi hj => arcRow_at _ i j (by rw [HLQ.out]; exact hi) hj))
      have HSR := hide (fun W (hW : W = wr) => sorted_any A5 n c5 true (a.arcs.map (chA 3)) W wr.heap.size (by rw [hW]; exact Nat.le_refl _) HLQ.out (by omega) (by rw [hW]; exact HRD.out))
      have o1 := HO.out.cell 1
      simp at o1
      have lO := HO.out.lt
      clear hend HOWN HRD
      go_wp2_with fail
      refine (HSR.out _ rfl).mono ?_
      rintro e w9 ⟨A9, c9, rfl, hown9, hb9⟩
      rw [sameA_red] at hown9 ⊢
      obtain ⟨RL, hRL⟩ : ∃ z, z = compact likeA (srtA (a.arcs.map (chA 3))) := ⟨_, rfl⟩
      rw [← hRL] at hown9 ⊢
      obtain ⟨n9, hn9⟩ : ∃ z, z = RL.length := ⟨_, rfl⟩
      rw [← hn9] at hown9 ⊢
      obtain ⟨A9', c9', hv9, hnc9, hcm9⟩ := own_value hown9
      obtain ⟨rfl, rfl⟩ : A9 = A9' ∧ c9 = c9' := by injection hv9 with e1 e2 e3; exact ⟨e1, e3⟩
      clear hv9
      have hl9 : n9 ≤ n := by rw [hn9, hRL, ← HLQ.out]; exact Nat.le_trans (compact_len likeA _) (Nat.le_of_eq (srtA_perm _).length_eq)
      have HRL := hide hRL
      have HN9 := hide hn9
      have bO9 := HO.out.below hb9 lO
      have hb9' : Below O W2 w9 := HBK.out.trans (hb9.mono (by omega))
      have bR := HR2.out.below hb9' (by omega)
      have HBE := hide (HBW.out.trans (hb9'.mono (by omega)))
      have HOW9 := hide (ownsRow_setCell_below (ownsRow_setCell_below (ownsRow_setCell_below (ownsRow_setCell_below hown9 (a := ⟨O, 1, none⟩) (by dsimp only; omega) (.slice A9 n9 c9)) (a := ⟨w.heap.size + 1, 0, none⟩) (by dsimp only; omega) (.int .i64 a.n)) (a := ⟨w.heap.size + 1, 1, none⟩) (by dsimp only; omega) (.slice A9 n9 c9)) (a := ⟨w.heap.size + 1, 2, none⟩) (by dsimp only; omega) (.slice AF nf cf))
      have o0 := bO9.cell 0
      have o1 := bO9.cell 1
      have o2 := bO9.cell 2
      have of1 := bO9.frozen 1
      have lO9 := bO9.lt
      have q0 := bR.cell 0
      have q1 := bR.cell 1
      have q2 := bR.cell 2
      have qf := bR.frozen 0
      have qf1 := bR.frozen 1
      have qf2 := bR.frozen 2
      have lR := bR.lt
      simp at o0 o1 o2 q0 q1 q2
      have hRO : w.heap.size + 1 ≠ O := by omega
      have hOR : O ≠ w.heap.size + 1 := by omega
      have HBE' := hide ((((HBE.out.setCell (p := ⟨O, 1, none⟩) (by dsimp only; omega) (.slice A9 n9 c9)).setCell (p := ⟨w.heap.size + 1, 0, none⟩) (by dsimp only; omega) (.int .i64 a.n)).setCell (p := ⟨w.heap.size + 1, 1, none⟩) (by dsimp only; omega) (.slice A9 n9 c9)).setCell (p := ⟨w.heap.size + 1, 2, none⟩) (by dsimp only; omega) (.slice AF nf cf))
      clear hb9 hb9' bO9 bR hown9 hRL hn9 HBE HSR HO HBK lO
      go_wp21
      refine bodyPost_ret (v := .agg #[.int .i64 a.n, .slice A9 n9 c9, .slice AF nf cf]) (by simp [results, Try.results17, go_sem, lR, q0, q1, q2, qf, qf1, qf2, hRO, hOR]) rfl ⟨_, rfl, ?_, HBE'.out⟩
      have e9 : chM 3 a = ⟨a.n, RL, a.fins⟩ := by unfold chM; rw [HRL.out]
      rw [e9]
      refine ⟨A9, AF, n9, c9, nf, cf, rfl, hide HN9.out.symm, HF, hnc9, hnfc, by unfold big; omega, hnfb, ?_, ?_⟩
      · exact Rd.of_own HOW9.out (fun i j hi hj => arcRow_at _ i j (by show i < RL.length; rw [← HN9.out]; exact hi) hj)
      · exact (HRF.out.below HBE'.out hB).mono (by have := HBE'.out.size; omega)
end Go.Proofs.Ytmgpcnkmmgkjgaa
