/- rational.Star, walked. -/
import Derived.Test.YtmgpcnkmmgkjgaaUnW
namespace Go.Proofs.Ytmgpcnkmmgkjgaa
open Go.RowKit Gm Go.Sort Go.Shelf
set_option linter.unusedSimpArgs false
set_option linter.unusedVariables false
def starF (m : Mach) : Int × Int := if validate m = (0, 0) then finF (1 + m.n) (starArcs m).length else validate m
def starR (m : Mach) : Mach := if validate m = (0, 0) then finM (1 + m.n) (starArcs m) [⟨0, 0⟩] else emptyM
/-- A machine in the making: in block O, its arcs l in blocks from base on. -/
def Us (W2 wx : World) (O base : Nat) (N : Int) (vf : Value) (l : List Arc) : Prop := ∃ A c, Blk wx O 25 #[.int .i64 N, .slice A l.length c, vf] ∧ wx.ownsRow base 45 5 (.slice A l.length c) l.length (arcRow l) ∧ Below O W2 wx ∧ base ≤ wx.heap.size
theorem own_of_fin {w : World} {g : Nat} (h : Blk w g 51 #[.int .i64 0, .int .i64 0]) : w.ownsRow g 51 2 (.slice (some ⟨g, 0, none⟩) 1 1) 1 (finRow [⟨0, 0⟩]) :=
  ⟨rfl, .inr ⟨g, 1, #[.int .i64 0, .int .i64 0], rfl, Nat.le_refl _, h, Nat.le_refl _, by simp [maxLen], rfl, rfl⟩⟩
set_option maxRecDepth 100000 in
set_option maxHeartbeats 2000000 in
theorem star_bad (va : Value) (a : Mach) (w : World) (B : Nat) (hB : B ≤ w.heap.size) (ha : MachAt w B va a) (hz : validate a ≠ (0, 0)) :
    Calls Try.prog 23 #[va] w fun e w' => e = .returned (.tuple #[.agg #[.int .i64 0, .slice none 0 0, .slice none 0 0], .agg #[.int .i64 (validate a).1, .int .i64 (validate a).2]]) ∧ Below w.heap.size w w' := by
  have HA := hide ha
  obtain ⟨A, AF, n, c, nf, cf, rfl, _⟩ := ha
  have hne := fun a b c d W => run_neq_fault a b c d W
  have HT := hide (fun W (hB : B ≤ W.heap.size) (h : MachAt W B (.agg #[.int .i64 a.n, .slice A n c, .slice AF nf cf]) a) => validate_any _ a W B hB h)
  have hz0 : fEq (validate a).1 (validate a).2 0 0 = false := by
    cases e : fEq (validate a).1 (validate a).2 0 0
    · rfl
    · exact absurd (fEq0R.1 e) hz
  obtain ⟨p, hp⟩ : ∃ p, p = (validate a).1 := ⟨_, rfl⟩
  obtain ⟨q, hq⟩ : ∃ p, p = (validate a).2 := ⟨_, rfl⟩
  rw [← hp, ← hq] at HT hz0 ⊢
  clear hp hq hz
  go_enter Try.func23, Try.ntmps23
  go_wp2_with fail
  refine (HT.out _ (by simp; omega) (HA.out.below (show Below w.heap.size w _ by go_grown) hB)).mono ?_
  rintro e w1 ⟨rfl, hb1⟩
  have hbw1 : Below w.heap.size w w1 := Below.trans (show Below w.heap.size w _ by go_grown) (hb1.mono (by simp; omega))
  have bR1 : Blk w1 (w.heap.size + 1) 25 #[.int .i64 0, .slice none 0 0, .slice none 0 0] := ((Blk.at_ (by simp)).alloc _).below hb1 (by simp)
  have bF1 : Blk w1 (w.heap.size + 1 + 1) 28 #[.int .i64 0, .int .i64 0] := (Blk.at_ (by simp)).below hb1 (by simp)
  clear hb1 HT HA
  have q0 := bR1.cell 0
  have q1 := bR1.cell 1
  have q2 := bR1.cell 2
  have q3 := bF1.cell 0
  have q4 := bF1.cell 1
  have qf := bR1.frozen 0
  have qf1 := bR1.frozen 1
  have qf2 := bR1.frozen 2
  have qf3 := bF1.frozen 0
  have qf4 := bF1.frozen 1
  simp at q0 q1 q2 q3 q4
  have hs3 := bR1.lt
  have hs4 := bF1.lt
  have hs5 := hbw1.size
  go_wp2
  refine wp_mix (fun w' => w'.cell? ⟨w1.heap.size, 0, none⟩ = some (.int .i64 p) ∧ w'.cell? ⟨w1.heap.size, 1, none⟩ = some (.int .i64 q)) 3 [(0, false), (1, false), (2, true)] (by kernel_rfl) (by kernel_rfl) ?_ ?_
  · go_simp
  simp only [List.drop_succ_cons, List.drop_zero]
  repeat (refine mix_q (v := ?_) (by rfl) (by rfl) ?_ ?_; rotate_left; (focus (intro w' hC; (try dsimp only at hC); go_simp; (first | done | with_reducible rfl))); simp only [Act.put, List.setIfInBounds_toArray, List.set_cons_zero, List.set_cons_succ])
  refine mix_l (by rfl) (by rfl) (fun K hK => ?_)
  go_simp
  refine hK _ _ (by go_simp) ?_
  clear hK K
  refine mix_nil ?_; try simp only [Act.put, List.setIfInBounds_toArray, List.set_cons_zero, List.set_cons_succ]
  go_wp2
  refine NoPanic.normal ?_
  go_wp2
  exact bodyPost_ret (v := .tuple #[.agg #[.int .i64 0, .slice none 0 0, .slice none 0 0], .agg #[.int .i64 p, .int .i64 q]]) (by simp [results, Try.results23, go_sem, q0, q1, q2, q3, q4, qf, qf1, qf2, qf3, qf4, hs3, hs4]) rfl ⟨rfl, by go_grown⟩
set_option maxRecDepth 100000 in
set_option maxHeartbeats 8000000 in
theorem star_good (va : Value) (a : Mach) (w : World) (B : Nat) (hB : B ≤ w.heap.size) (ha : MachAt w B va a) (hz : validate a = (0, 0)) :
    Calls Try.prog 23 #[va] w fun e w' => ∃ v', e = .returned (.tuple #[v', .agg #[.int .i64 (finF (1 + a.n) (starArcs a).length).1, .int .i64 (finF (1 + a.n) (starArcs a).length).2]]) ∧ MachNew w.heap.size w' v' (finM (1 + a.n) (starArcs a) [⟨0, 0⟩]) ∧ Below w.heap.size w w' := by
  have HA := hide ha
  have hVa := valid_of hz
  have HVA := hide hVa
  obtain ⟨A, AF, n, c, nf, cf, rfl, HN, HF, hnc, hnfc, hnb, hnfb, hAa, hFa⟩ := ha
  have hne := fun a b c d W => run_neq_fault a b c d W
  have hf0 : fEq 0 0 0 0 = true := rfl
  have hT := fun W (hB : B ≤ W.heap.size) (h : MachAt W B (.agg #[.int .i64 a.n, .slice A n c, .slice AF nf cf]) a) => validate_any _ a W B hB h
  rw [hz] at hT
  have HT := hide hT
  have HFA := hide hFa
  obtain ⟨an0, an4⟩ : 0 ≤ a.n ∧ a.n ≤ 400 := ⟨hVa.n0, hVa.n4⟩
  have hla := hVa.len
  have hfa := hVa.finLen
  rw [HF.out] at hfa
  have HRA := hide (show ∀ x ∈ a.arcs, 0 ≤ x.f ∧ x.f ≤ 1000 ∧ 0 ≤ x.t ∧ x.t ≤ 1000 from fun x hx => by have := okArc_iff (hVa.okA hx); omega)
  have HSA := hide (show ∀ x ∈ a.fins, 0 ≤ x.s ∧ x.s ≤ 1000 from fun x hx => by have := okFin_iff (hVa.okF hx); omega)
  obtain ⟨ia, ha0, ha1, ha2, ha3⟩ := info_parts arc_info
  obtain ⟨sa, hsa⟩ : ∃ s, s = a.n := ⟨_, rfl⟩
  have HAS := hide hsa
  rw [← hsa] at HA HT an0 an4 ⊢
  clear hz hVa hT hFa hAa hsa hnb hnfb
  go_enter Try.func23, Try.ntmps23
  go_wp2_with fail
  refine (HT.out _ (by simp; omega) (HA.out.below (show Below w.heap.size w _ by go_grown) hB)).mono ?_
  rintro e w1 ⟨rfl, hb1⟩
  have hbw1 : Below w.heap.size w w1 := Below.trans (show Below w.heap.size w _ by go_grown) (hb1.mono (by simp; omega))
  have bA1 : Blk w1 w.heap.size 25 #[.int .i64 sa, .slice A n c, .slice AF nf cf] := (((Blk.new w _ _).alloc _).alloc _).below hb1 (by simp; omega)
  have bR1 : Blk w1 (w.heap.size + 1) 25 #[.int .i64 0, .slice none 0 0, .slice none 0 0] := ((Blk.at_ (by simp)).alloc _).below hb1 (by simp)
  have bF1 : Blk w1 (w.heap.size + 1 + 1) 28 #[.int .i64 0, .int .i64 0] := (Blk.at_ (by simp)).below hb1 (by simp)
  have x0 := bA1.cell 0
  simp at x0
  have lF := bF1.lt
  have lA := bA1.lt
  have lA2 : w.heap.size < w1.heap.size + 1 := by omega
  have lA3 : w.heap.size < w1.heap.size + 1 + 1 := by omega
  clear hb1 HT
  go_upto_if 23 with fail
  generalize hW2 : World.alloc _ _ = W2
  obtain ⟨G, hG⟩ : ∃ O, O = w1.heap.size + 1 := ⟨_, rfl⟩
  obtain ⟨O, hO⟩ : ∃ O, O = w1.heap.size + 1 + 1 := ⟨_, rfl⟩
  obtain ⟨base, hbase⟩ : ∃ O, O = w1.heap.size + 1 + 1 + 1 := ⟨_, rfl⟩
  have HA2 := hide (show Blk W2 w.heap.size 25 #[.int .i64 sa, .slice A n c, .slice AF nf cf] by rw [← hW2]; exact ((bA1.alloc _).alloc _).alloc _)
  have HR2 := hide (show Blk W2 (w.heap.size + 1) 25 #[.int .i64 0, .slice none 0 0, .slice none 0 0] by rw [← hW2]; exact ((bR1.alloc _).alloc _).alloc _)
  have HF2' := hide (show Blk W2 (w.heap.size + 1 + 1) 28 #[.int .i64 0, .int .i64 0] by rw [← hW2]; exact ((bF1.alloc _).alloc _).alloc _)
  have HG2 := hide (show Blk W2 G 51 #[.int .i64 0, .int .i64 0] by rw [← hW2]; exact (Blk.at_ (by rw [hG]; simp)).alloc _)
  have bO2 : Blk W2 O 25 #[.int .i64 (1 + sa), .slice none 0 0, .slice (some ⟨G, 0, none⟩) 1 1] := by rw [← hW2, hG]; exact Blk.at_ (by rw [hO]; simp)
  have HBW2 := hide (show Below w.heap.size w W2 by rw [← hW2]; exact ((hbw1.alloc hbw1.size _).alloc (by have := hbw1.size; simp; omega) _).alloc (by have := hbw1.size; simp; omega) _)
  have hz2 : W2.heap.size = base := by rw [← hW2, hbase]; simp
  have hOb : base = O + 1 := by omega
  have hGO : O = G + 1 := by omega
  have hpO : w.heap.size + 1 + 1 < G := by omega
  rw [← hO]
  have hOb2 : O < base := by omega
  have hGO2 : G < O := by omega
  have lO : O < W2.heap.size := by omega
  have hbz2 : base ≤ W2.heap.size := by omega
  have o1 := bO2.cell 1
  have fo1 := bO2.frozen 1
  simp at o1
  have x0 := HA2.out.cell 0
  simp at x0
  have lA : w.heap.size < W2.heap.size := by omega
  clear hW2 hz2 hOb hGO hbase hO hG bA1 bR1 bF1 lF lA2 lA3 hbw1
  go_cut [5] from 6 (fun s5 wx => s5 = .pointer (some ⟨O, 0, none⟩) ∧ Hid (Us W2 wx O base (1 + sa) (.slice (some ⟨G, 0, none⟩) 1 1) (if 0 < a.n then [eps 0 1 0] else [])))
  case first =>
    by_cases hpos : 0 < sa
    · have tp : decide (sa > 0) = true := decide_eq_true hpos
      have tp' : decide (0 < sa) = true := decide_eq_true hpos
      have HL := hide (show (if 0 < a.n then [eps 0 1 0] else []) = [eps 0 1 0] from if_pos (by rw [← HAS.out]; exact hpos))
      go_wp2_with (at_builtin; refine wpList_append_own _ rfl (.tmp 25) (.tmp 27) 22 rfl base 45 ia _ 5 40 Try.underlying22 ha0 ha1 ha2 ha3 rfl (by omega) (.slice none 0 0) 0 [] rfl (World.ownsRow_nil _ _ _ _) ⟨W2.heap.size, 0, none⟩ 1 1 (arcRow [eps 0 1 0]) rfl (by rfl) (World.news_of_block (cs := (arcRow [eps 0 1 0]).toArray) (t := 45) (fr := (0, 0)) (Blk.at_ (by simp))) (arcRow_one _) (by simp [maxLen]) (by omega) (by simp; omega) ?_; intro v' w6 hown2 hg2 _; obtain ⟨Av, cv, rfl, hkcv, _⟩ := own_value hown2; have o1' := hg2.cell (a := ⟨O, 1, none⟩) (v := .slice none 0 0) (by go_simp) (by simp [Value.ownBlock]); have bO6 := (bO2.alloc _).grown hg2 (by simp [Value.ownBlock]); have of1' := bO6.frozen 1; have lO6 := bO6.lt)
      have HG2' := hide hg2
      have HO2 := hide hown2
      have HBO := hide bO6
      have hs6 := hg2.size
      simp at hs6
      clear hg2 hown2 bO6
      go_meet
      refine ⟨rfl, hide ?_⟩
      rw [HL.out]
      exact ⟨Av, cv, HBO.out.set_ 1 _, ownsRow_setCell_below (by simpa using HO2.out) (by simp; omega) _, (((Below.refl O W2).alloc (by omega) _).grown HG2'.out (by simp; omega) (fun k hk => by simp [Value.ownBlock] at hk)).setCell (by simp) _, by simp [World.setCell]; omega⟩
    · have tp : decide (sa > 0) = false := decide_eq_false hpos
      have tp' : decide (0 < sa) = false := decide_eq_false hpos
      have HL := hide (show (if 0 < a.n then [eps 0 1 0] else []) = ([] : List Arc) from if_neg (by rw [← HAS.out]; exact hpos))
      have hpos' : sa ≤ 0 := by omega
      go_wp2
      go_meet
      refine ⟨rfl, hide ?_⟩
      rw [HL.out]
      exact ⟨none, 0, bO2, World.ownsRow_nil _ _ _ _, Below.refl _ _, hbz2⟩
  case rest =>
  obtain ⟨rfl, HU1⟩ := hcut
  obtain ⟨l1, hl1⟩ : ∃ l : List Arc, l = (if 0 < a.n then [eps 0 1 0] else []) := ⟨_, rfl⟩
  have hk1 : l1.length ≤ 1 := by rw [hl1]; split <;> simp
  rw [← hl1] at HU1
  have HL1 := hide hl1
  obtain ⟨A2, c2, bO, hown, hbO, hbz⟩ := HU1.out
  have bA := HA2.out.below hbO (by omega)
  have bR := HR2.out.below hbO (by omega)
  have bF := HF2'.out.below hbO (by omega)
  have bG := HG2.out.below hbO (by omega)
  have hbw := HBW2.out.trans (hbO.mono (by omega))
  have HBW := hide hbw
  have HO := hide hown
  have o1 := bO.cell 1
  have x0 := bA.cell 0
  have x1 := bA.cell 1
  have x2 := bA.cell 2
  simp at x0 x1 x2 o1
  have lA := bA.lt
  have lO := bO.lt
  clear hl1 HU1 hbO hbw hown HA2 HR2 HF2' HG2 HBW2 bO2 hbz2
  go_wp2_with fail
  refine (add_own a 1 l1 l1.length base _ _ _ hbz ((HA.out.below HBW.out hB).mono (by omega)) rfl (by omega) hla HRA.out (by omega) HO.out).mono ?_
  rintro e w4 ⟨v4, rfl, hown4, hb4⟩
  obtain ⟨A4, c4, rfl, hkc4, _⟩ := own_value hown4
  have hbz4 := hb4.size
  have bO4 := bO.below hb4 (by omega)
  have bA4 := bA.below hb4 (by omega)
  have bR4 := bR.below hb4 (by omega)
  have bF4 := bF.below hb4 (by omega)
  have bG4 := bG.below hb4 (by omega)
  have HBW4 := hide (HBW.out.trans (hb4.mono (by omega)))
  have HO4 := hide hown4
  clear x0 x1 x2 o1 lA lO bO bA bR bF bG hb4 hown4 HO HBW
  have o1 := bO4.cell 1
  have fo1 := bO4.frozen 1
  simp at o1
  have lO4 := bO4.lt
  go_upto_region 8 with fail
  generalize hW5 : World.setCell _ _ _ = W5
  obtain ⟨K, hK⟩ : ∃ K, K = l1.length + a.arcs.length := ⟨_, rfl⟩
  obtain ⟨L, hL⟩ : ∃ L : List Arc, L = l1 ++ a.arcs.map (shA 1) := ⟨_, rfl⟩
  have HK := hide hK
  have HL := hide hL
  have hK4 : K ≤ 4000 := by omega
  rw [← hK, ← hL] at HO4
  rw [← hK] at hkc4 hW5
  have HO5 := hide (show W5.ownsRow base 45 5 (.slice A4 (K + 0) c4) (K + 0) (arcRow (L ++ (a.fins.take 0).map (fun x => eps (1 + x.s) 0 x.w))) by rw [← hW5]; simpa using ownsRow_setCell_below HO4.out (by simpa using hOb2) _)
  have HBO5 := hide (show Blk W5 O 25 #[.int .i64 (1 + sa), .slice A4 (K + 0) c4, .slice (some ⟨G, 0, none⟩) 1 1] by rw [← hW5]; exact bO4.set_ 1 _)
  have HBA5 := hide (show Blk W5 w.heap.size 25 #[.int .i64 sa, .slice A n c, .slice AF nf cf] by rw [← hW5]; exact bA4.far (by dsimp only; omega) _)
  have HBR5 := hide (show Blk W5 (w.heap.size + 1) 25 #[.int .i64 0, .slice none 0 0, .slice none 0 0] by rw [← hW5]; exact bR4.far (by dsimp only; omega) _)
  have HBF5 := hide (show Blk W5 (w.heap.size + 1 + 1) 28 #[.int .i64 0, .int .i64 0] by rw [← hW5]; exact bF4.far (by dsimp only; omega) _)
  have HBG5 := hide (show Blk W5 G 51 #[.int .i64 0, .int .i64 0] by rw [← hW5]; exact bG4.far (by dsimp only; omega) _)
  have HBW5 := hide (show Below w.heap.size w W5 by rw [← hW5]; exact HBW4.out.setCell (by dsimp only; omega) _)
  have hbz5 : base ≤ W5.heap.size := by rw [← hW5]; simp [World.setCell]; omega
  have HOL := hide (⟨A4, c4, HBO5.out, HO5.out⟩ : ∃ A c, Blk W5 O 25 #[.int .i64 (1 + sa), .slice A (K + 0) c, .slice (some ⟨G, 0, none⟩) 1 1] ∧ W5.ownsRow base 45 5 (.slice A (K + 0) c) (K + 0) (arcRow (L ++ (a.fins.take 0).map (fun x => eps (1 + x.s) 0 x.w))))
  clear hW5 hK hL bO4 bA4 bR4 bF4 bG4 HO4 HBW4 o1 fo1 lO4 HO5 HBO5
  have x2 := HBA5.out.cell 2
  simp at x2
  have lA := HBA5.out.lt
  go_wp2
  go_loopw [38] (fun iv wr => ∃ k : Nat, k ≤ nf ∧ iv = .int .i64 k ∧ Hid (∃ A c, Blk wr O 25 #[.int .i64 (1 + sa), .slice A (K + k) c, .slice (some ⟨G, 0, none⟩) 1 1] ∧ wr.ownsRow base 45 5 (.slice A (K + k) c) (K + k) (arcRow (L ++ (a.fins.take k).map (fun x => eps (1 + x.s) 0 x.w)))) ∧ Hid (Below O W5 wr) ∧ base ≤ wr.heap.size) (fun iv _ => nf - (intOf iv).toNat)
  case atStart => exact ⟨0, by omega, rfl, HOL, hide (Below.refl _ _), hbz5⟩
  case round =>
    clear x2 lA HOL
    obtain ⟨k, hk, rfl, HOL, HBL, hz⟩ := hrel
    obtain ⟨A5, c5, bO5, hown5⟩ := HOL.out
    have lO := bO5.lt
    have o1 := bO5.cell 1
    simp at o1
    have HBKO := hide bO5
    have HOWN := hide hown5
    have hlow : ∀ q, (Value.slice A5 (K + k) c5).ownBlock = some q → base ≤ q := fun q hq => (hown5.lt q hq).1
    have HLOW := hide hlow
    have hneO : (Value.slice A5 (K + k) c5).ownBlock ≠ some O := fun e => by have := hlow _ e; omega
    clear hlow HOL bO5 hown5
    by_cases hkn : k < nf
    · obtain ⟨bb, off, x, rfl, hbB, d0, d1, HX⟩ := fins_at ((HFA.out.below HBW5.out hB).below HBL.out (by have := HBW5.out.size; omega)) hkn
      have hkl : k < a.fins.length := by rw [HF.out]; exact hkn
      obtain ⟨r0, r1⟩ := HSA.out x (by rw [← HX.out]; simp [List.getD, hkl])
      have lb : bb < wr.heap.size := by omega
      have HTK := hide (takeF_push hkl HX.out)
      go_wp2_with (at_builtin; refine wpList_append_own _ rfl (.tmp 43) (.tmp 50) 22 rfl base 45 ia _ 5 40 Try.underlying22 ha0 ha1 ha2 ha3 rfl (by omega) (.slice A5 (K + k) c5) (K + k) _ rfl ((HOWN.out.alloc _).alloc _) ⟨wr.heap.size + 1, 0, none⟩ 1 1 (arcRow [eps (1 + x.s) 0 x.w]) rfl (by rfl) (World.news_of_block (cs := (arcRow [eps (1 + x.s) 0 x.w]).toArray) (t := 45) (fr := (0, 0)) (Blk.at_ (by simp))) (arcRow_one _) (by simp only [maxLen]; omega) (by omega) (by simp; omega) ?_; intro v' w6 hown2 hg2 _; obtain ⟨Av, cv, rfl, hkcv, _⟩ := own_value hown2; have o1' := far_cell hg2 hneO (o := 1) (v := .slice A5 (K + k) c5) (by go_simp); have bO6 := ((HBKO.out.alloc _).alloc _).grown hg2 (Ne.symm hneO); have of1' := bO6.frozen 1; have lO6 := bO6.lt)
      have hs6 := hg2.size
      simp at hs6
      go_roundw
      case rel => exact ⟨k + 1, by omega, by go_num, hide ⟨Av, cv, by simpa [Nat.add_assoc] using bO6.set_ 1 (.slice Av (K + k + 1) cv), ownsRow_setCell_below (by
          rw [HTK.out, List.map_append, ← List.append_assoc, arcRow_append]
          simpa [Nat.add_assoc] using hown2) (by simpa using hOb2) _⟩, hide ((((HBL.out.alloc (by omega) _).alloc (by simp; omega) _).grown hg2 (by simp; omega) (fun q hq => by have := HLOW.out q hq; omega)).setCell (by simp) _), by simp [World.setCell]; omega⟩
      case measure => simp [intOf]; omega
    · obtain rfl : k = nf := by omega
      have hend : a.fins.take k = a.fins := List.take_of_length_le (by rw [HF.out]; exact Nat.le_refl _)
      have hown := HOWN.out
      rw [hend] at hown
      obtain ⟨L2, hL2⟩ : ∃ L2 : List Arc, L2 = L ++ a.fins.map (fun x => eps (1 + x.s) 0 x.w) := ⟨_, rfl⟩
      rw [← hL2] at hown
      have HO6 := hide (own_monoB hown (show G ≤ base by omega))
      have HBR := hide (HBR5.out.below HBL.out (by omega))
      have HBF := hide (HBF5.out.below HBL.out (by omega))
      have HFG := hide (own_of_fin (HBG5.out.below HBL.out (by omega)))
      have HBW6 := hide (HBW5.out.trans (HBL.out.mono (by omega)))
      have o0 := HBKO.out.cell 0
      have o2 := HBKO.out.cell 2
      simp at o0 o2
      have hLU : L2 = starArcs a := by rw [hL2, HL.out, HL1.out]; rfl
      have hLK : L2.length = K + k := by have h := HF.out; rw [hL2, HL.out, HK.out]; simp only [List.length_append, List.length_map]; omega
      have hnd : L2.Nodup := by rw [hLU]; exact star_nodup HVA.out
      have HFIN := hide (finish_any (1 + sa) L2 [⟨0, 0⟩] (K + k) 1 G (.slice A5 (K + k) c5) (.slice (some ⟨G, 0, none⟩) 1 1) wr (by omega) hLK (by omega) hnd (by omega) rfl (by omega) HO6.out HFG.out)
      have HLU := hide hLU
      have HLK := hide hLK
      clear hend hown hL2 hLU hLK hnd HOWN HBA5 HBR5 HBF5
      go_wp2_with fail
      refine HFIN.out.mono ?_
      rintro e w10 ⟨v10, rfl, hM, hb10⟩
      obtain ⟨A10, n10, c10, AF10, nf10, cf10, rfl⟩ := agg_of hM
      have bR10 := HBR.out.below hb10 (by omega)
      have bF10 := HBF.out.below hb10 (by omega)
      have hbw10 := HBW6.out.trans (hb10.mono (by omega))
      have HM := hide hM
      have q0 := bR10.cell 0
      have q1 := bR10.cell 1
      have q2 := bR10.cell 2
      have q3 := bF10.cell 0
      have q4 := bF10.cell 1
      have qf := bR10.frozen 0
      have qf1 := bR10.frozen 1
      have qf2 := bR10.frozen 2
      have qf3 := bF10.frozen 0
      have qf4 := bF10.frozen 1
      simp at q0 q1 q2 q3 q4
      have lR := bR10.lt
      have lF := bF10.lt
      have HEK := hide (show finF (1 + sa) (K + k) = finF (1 + sa) (starArcs a).length by rw [← HLK.out, HLU.out])
      clear hM hb10 HFIN o0 o1 o2 lO bR10 bF10
      go_wp2
      rw [← HEK.out]
      refine bodyPost_ret (v := .tuple #[.agg #[.int .i64 (finM (1 + sa) L2 [⟨0, 0⟩]).n, .slice A10 n10 c10, .slice AF10 nf10 cf10], .agg #[.int .i64 (finF (1 + sa) (K + k)).1, .int .i64 (finF (1 + sa) (K + k)).2]]) (by simp [results, Try.results23, go_sem, lR, lF, q0, q1, q2, q3, q4, qf, qf1, qf2, qf3, qf4]) rfl ⟨_, rfl, ?_, ?_⟩
      · have e : finM (1 + sa) (starArcs a) [⟨0, 0⟩] = finM (1 + sa) L2 [⟨0, 0⟩] := by rw [HLU.out]
        rw [e]
        refine MachNew.mono (lo := G) ?_ (by omega)
        refine MachNew.set (MachNew.set (MachNew.set (MachNew.set (MachNew.set HM.out ?_ _) ?_ _) ?_ _) ?_ _) ?_ _ <;> (dsimp only; omega)
      · refine Below.setCell (Below.setCell (Below.setCell (Below.setCell (Below.setCell hbw10 ?_ _) ?_ _) ?_ _) ?_ _) ?_ _ <;> (dsimp only; omega)
/-- rational.Star, at any machine. -/
theorem star_any (va : Value) (a : Mach) (w : World) (B : Nat) (hB : B ≤ w.heap.size) (ha : MachAt w B va a) :
    Calls Try.prog 23 #[va] w fun e w' => ∃ v', e = .returned (.tuple #[v', .agg #[.int .i64 (starF a).1, .int .i64 (starF a).2]]) ∧ MachNew w.heap.size w' v' (starR a) ∧ Below w.heap.size w w' := by
  by_cases hz : validate a = (0, 0)
  · have e1 : starF a = finF (1 + a.n) (starArcs a).length := by unfold starF; rw [if_pos hz]
    have e2 : starR a = finM (1 + a.n) (starArcs a) [⟨0, 0⟩] := by unfold starR; rw [if_pos hz]
    rw [e1, e2]
    exact star_good va a w B hB ha hz
  · have e1 : starF a = validate a := by unfold starF; rw [if_neg hz]
    have e2 : starR a = emptyM := by unfold starR; rw [if_neg hz]
    rw [e1, e2]
    exact (star_bad va a w B hB ha hz).mono fun e w' ⟨he, hb⟩ => ⟨_, he, MachNew.empty _ _, hb⟩
end Go.Proofs.Ytmgpcnkmmgkjgaa
