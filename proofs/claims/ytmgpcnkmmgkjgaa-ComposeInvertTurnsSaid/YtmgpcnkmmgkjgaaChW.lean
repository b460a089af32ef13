/- compose.change, walked with each of its three functions; Invert, Input, Output. Written by gen_ch.py. -/
import Derived.Test.YtmgpcnkmmgkjgaaChD
import Derived.Test.YtmgpcnkmmgkjgaaEx
namespace Go.Proofs.Ytmgpcnkmmgkjgaa
open Go.RowKit Gm Go.Sort Go.Shelf
set_option linter.unusedSimpArgs false
set_option linter.unusedVariables false
theorem fEq0C {p : Int × Int} : fEq p.1 p.2 0 0 = true ↔ p = (0, 0) := by
  unfold fEq
  obtain ⟨a, b⟩ := p
  simp [Prod.ext_iff]
theorem agg_ofM {lo : Nat} {w : World} {v : Value} {n : Int} {L : List Arc} {F : List Fnl} (h : MachNew lo w v ⟨n, L, F⟩) : ∃ A k c AF nf cf, v = .agg #[.int .i64 n, .slice A k c, .slice AF nf cf] := agg_of h
theorem own_belowC {w w' : World} {base sz n : Nat} {e : TypeId} {v : Value} {xs : List Value} (h : w.ownsRow base e sz v n xs) (hb : Below w.heap.size w w') : w'.ownsRow base e sz v n xs :=
  h.kept (row := none) ⟨hb.os, hb.tape, hb.output, hb.size, fun k hk _ => hb.block k hk⟩ (by cases v.ownBlock <;> simp)
theorem mq_newF {w6 W2 : World} {O base n cv : Nat} {n0 : Int} {Av : Option Addr} {F : List Fnl} (hO : O = w6.heap.size) (hown : w6.ownsRow base 51 2 (.slice Av n cv) n (finRow F)) (hb : Below base W2 w6) (hbz : base ≤ W2.heap.size) :
    base ≤ O ∧ Mq (w6.alloc (Obj.cells #[.int .i64 n0, .slice none 0 0, .slice Av n cv] 25)) O base n0 0 [] n F ∧ Below base W2 (w6.alloc (Obj.cells #[.int .i64 n0, .slice none 0 0, .slice Av n cv] 25)) ∧ base ≤ (w6.alloc (Obj.cells #[.int .i64 n0, .slice none 0 0, .slice Av n cv] 25)).heap.size := by
  have hs := hb.size
  exact ⟨by omega, ⟨none, 0, Av, cv, Blk.at_ hO, World.ownsRow_nil _ _ _ _, hown.alloc _⟩, hb.alloc (by omega) _, by simp; omega⟩
theorem mq_putF {w6 W2 : World} {O base n cv : Nat} {n0 : Int} {Av : Option Addr} {F : List Fnl} (bO : Blk w6 O 25 #[.int .i64 0, .slice none 0 0, .slice none 0 0]) (hown : w6.ownsRow base 51 2 (.slice Av n cv) n (finRow F)) (hb : Below base W2 w6) (hbz : base ≤ W2.heap.size) (hO : base ≤ O) :
    base ≤ O ∧ Mq (((w6.setCell ⟨O, 0, none⟩ (.int .i64 n0)).setCell ⟨O, 1, none⟩ (.slice none 0 0)).setCell ⟨O, 2, none⟩ (.slice Av n cv)) O base n0 0 [] n F ∧ Below base W2 (((w6.setCell ⟨O, 0, none⟩ (.int .i64 n0)).setCell ⟨O, 1, none⟩ (.slice none 0 0)).setCell ⟨O, 2, none⟩ (.slice Av n cv)) ∧
    base ≤ (((w6.setCell ⟨O, 0, none⟩ (.int .i64 n0)).setCell ⟨O, 1, none⟩ (.slice none 0 0)).setCell ⟨O, 2, none⟩ (.slice Av n cv)).heap.size := by
  have hs := hb.size
  have b1 := bO.set_ 0 (.int .i64 n0)
  have b2 := b1.set_ 1 (.slice none 0 0)
  have h1 := ownsRow_setCell_other hown (own_blk_ne hown bO (by decide)) (a := ⟨O, 0, none⟩) (.int .i64 n0)
  have h2 := ownsRow_setCell_other h1 (own_blk_ne h1 b1 (by decide)) (a := ⟨O, 1, none⟩) (.slice none 0 0)
  exact ⟨hO, ⟨none, 0, Av, cv, by simpa using b2.set_ 2 (.slice Av n cv), World.ownsRow_nil _ _ _ _, ownsRow_setCell_other h2 (own_blk_ne h2 b2 (by decide)) _⟩,
    ((hb.setCell (by exact hO) _).setCell (by exact hO) _).setCell (by exact hO) _, by simp; omega⟩
theorem reg_alt1 {W2 w6 : World} {base X : Nat} {cs : Array Value} (hbz : base ≤ W2.heap.size) (bX : Blk W2 X 25 cs) (hX : X < base) (hb6 : Below (W2.alloc (Obj.cells #[.int .i64 0, .slice none 0 0, .slice none 0 0] 25)).drew.heap.size (W2.alloc (Obj.cells #[.int .i64 0, .slice none 0 0, .slice none 0 0] 25)).drew w6) :
    Blk w6 W2.heap.size 25 #[.int .i64 0, .slice none 0 0, .slice none 0 0] ∧ Hid (Below base W2 w6) ∧ Blk w6 X 25 cs :=
  ⟨(show Blk (W2.alloc (Obj.cells #[.int .i64 0, .slice none 0 0, .slice none 0 0] 25)).drew W2.heap.size 25 #[.int .i64 0, .slice none 0 0, .slice none 0 0] from (Blk.at_ rfl).drew).below hb6 (by simp), hide (((Below.refl base W2).alloc hbz _).drew.trans (hb6.mono (by simp; omega))), (bX.alloc _).drew.below hb6 (by simp; omega)⟩
theorem reg_alt3 {W2 w6 : World} {base X : Nat} {cs : Array Value} (hbz : base ≤ W2.heap.size) (bX : Blk W2 X 25 cs) (hX : X < base) (hb6 : Below (W2.drew.alloc (Obj.cells #[.int .i64 0, .slice none 0 0, .slice none 0 0] 25)).heap.size (W2.drew.alloc (Obj.cells #[.int .i64 0, .slice none 0 0, .slice none 0 0] 25)) w6) :
    Blk w6 W2.heap.size 25 #[.int .i64 0, .slice none 0 0, .slice none 0 0] ∧ Hid (Below base W2 w6) ∧ Blk w6 X 25 cs :=
  ⟨(show Blk (W2.drew.alloc (Obj.cells #[.int .i64 0, .slice none 0 0, .slice none 0 0] 25)) W2.heap.size 25 #[.int .i64 0, .slice none 0 0, .slice none 0 0] from Blk.at_ rfl).below hb6 (by simp), hide (((Below.refl base W2).drew.alloc hbz _).trans (hb6.mono (by simp; omega))), (bX.drew.alloc _).below hb6 (by simp; omega)⟩
theorem reg_alt2 {W2 w6 : World} {base X : Nat} {cs : Array Value} (hbz : base ≤ W2.heap.size) (bX : Blk W2 X 25 cs) (hX : X < base) (hb6 : Below W2.drew.heap.size W2.drew w6) : Hid (Below base W2 w6) ∧ Blk w6 X 25 cs :=
  ⟨hide ((Below.refl base W2).drew.trans (hb6.mono (by simp; omega))), bX.drew.below hb6 (by simp; omega)⟩
theorem machnew_own {w : World} {base b2 lo n nf ca cf : Nat} {eA eF : TypeId} {A AF : Option Addr} {n0 : Int} {L : List Arc} {F : List Fnl} (hA : w.ownsRow base eA 5 (.slice A n ca) n (arcRow L)) (hF : w.ownsRow b2 eF 2 (.slice AF nf cf) nf (finRow F))
    (hn : L.length = n) (hnf : F.length = nf) (h1 : lo ≤ base) (h2 : lo ≤ b2) (hac : n ≤ ca) (hfc : nf ≤ cf) (ha : n ≤ big) (hf : nf ≤ big) : MachNew lo w (.agg #[.int .i64 n0, .slice A n ca, .slice AF nf cf]) ⟨n0, L, F⟩ := by
  subst hn hnf
  exact MachNew.of_own (m := ⟨n0, L, F⟩) hA hF h1 h2 hac hfc ha hf
set_option maxRecDepth 100000 in
set_option maxHeartbeats 16000000 in
theorem change_bad (fn : FuncId) (va : Value) (a : Mach) (w : World) (B : Nat) (hB : B ≤ w.heap.size) (ha : MachAt w B va a) (hz : validate a ≠ (0, 0)) :
    Calls Try.prog 32 #[va, (.func (.func fn) #[] #[])] w fun e w' => e = .returned (.tuple #[.agg #[.int .i64 0, .slice none 0 0, .slice none 0 0], .agg #[.int .i64 (validate a).1, .int .i64 (validate a).2]]) ∧ Below w.heap.size w w' := by
  have HA := hide ha
  obtain ⟨A, AF, n, c, nf, cf, rfl, _⟩ := ha
  have hne := fun a b c d W => run_neq_fault a b c d W
  have hf0 : fEq 0 0 0 0 = true := rfl
  have hQ := fun W (hB : B ≤ W.heap.size) (h : MachAt W B (.agg #[.int .i64 a.n, .slice A n c, .slice AF nf cf]) a) => validate_any _ a W B hB h
  have hz0 : fEq (validate a).1 (validate a).2 0 0 = false := by
    cases e : fEq (validate a).1 (validate a).2 0 0
    · rfl
    · exact absurd (fEq0C.1 e) hz
  obtain ⟨p, hp⟩ : ∃ p, p = (validate a).1 := ⟨_, rfl⟩
  obtain ⟨q, hq⟩ : ∃ p, p = (validate a).2 := ⟨_, rfl⟩
  rw [← hp, ← hq] at hQ hz0 ⊢
  have HQ := hide hQ
  clear hp hq hz hQ
  go_enter Try.func32, Try.ntmps32
  go_wp2_with fail
  refine (HQ.out _ (by simp <;> omega) (HA.out.below (show Below w.heap.size w _ by go_grown) hB)).mono ?_
  rintro e w1 ⟨rfl, hb1⟩
  have hbw1 : Below w.heap.size w w1 := Below.trans (show Below w.heap.size w _ by go_grown) (hb1.mono (by simp <;> omega))
  have bX1 : Blk w1 w.heap.size 25 #[.int .i64 a.n, .slice A n c, .slice AF nf cf] := (((Blk.at_ rfl).alloc _).alloc _).below hb1 (by simp <;> omega)
  have bR1 : Blk w1 (w.heap.size + 1) 25 #[.int .i64 0, .slice none 0 0, .slice none 0 0] := ((Blk.at_ (by simp)).alloc _).below hb1 (by simp <;> omega)
  have bF1 : Blk w1 (w.heap.size + 1 + 1) 28 #[.int .i64 0, .int .i64 0] := (Blk.at_ (by simp)).below hb1 (by simp)
  clear hb1 HQ
  have q0 := bR1.cell 0
  have q1 := bR1.cell 1
  have q2 := bR1.cell 2
  have q3 := bF1.cell 0
  have q4 := bF1.cell 1
  have qf := bR1.frozen 0
  have qf1 := bR1.frozen 1
  have qf2 := bR1.frozen 2
  have qf3 := bF1.frozen 0
  have qf4 := bF1.frozen 1
  simp at q0 q1 q2 q3 q4
  have hs3 := bR1.lt
  have hs4 := bF1.lt
  have hs5 := hbw1.size
  clear bR1 bF1 bX1
  go_wp2
  refine wp_mix (fun w' => w'.cell? ⟨w1.heap.size, 0, none⟩ = some (.int .i64 p) ∧ w'.cell? ⟨w1.heap.size, 1, none⟩ = some (.int .i64 q)) 3 [(0, false), (1, false), (2, true)] (by kernel_rfl) (by kernel_rfl) ?_ ?_
  · go_simp
  simp only [List.drop_succ_cons, List.drop_zero]
  repeat (refine mix_q (v := ?_) (by rfl) (by rfl) ?_ ?_; rotate_left; (focus (intro w' hC; (try dsimp only at hC); go_simp; (first | done | with_reducible rfl))); simp only [Act.put, List.setIfInBounds_toArray, List.set_cons_zero, List.set_cons_succ, List.getElem_toArray, List.getElem_cons_zero, List.getElem_cons_succ])
  refine mix_l (by rfl) (by rfl) (fun K hK => ?_)
  go_simp
  refine hK _ _ (by go_simp) ?_
  clear hK K
  refine mix_nil ?_; try simp only [Act.put, List.setIfInBounds_toArray, List.set_cons_zero, List.set_cons_succ, List.getElem_toArray, List.getElem_cons_zero, List.getElem_cons_succ]
  go_wp2
  refine NoPanic.normal ?_
  go_wp2
  exact bodyPost_ret (v := .tuple #[.agg #[.int .i64 0, .slice none 0 0, .slice none 0 0], .agg #[.int .i64 p, .int .i64 q]]) (by simp [results, Try.results32, go_sem, q0, q1, q2, q3, q4, qf, qf1, qf2, qf3, qf4, hs3, hs4]) rfl ⟨rfl, by go_grown⟩
set_option maxRecDepth 100000 in
set_option maxHeartbeats 16000000 in
theorem change_good (fn : FuncId) (hen : ∀ args w, (callFunc fn args).run Try.prog w = .ok (.enter fn args) w) (g : Arc → Arc) (hg : ∀ (x : Arc) (w : World), Calls Try.prog fn #[.agg #[.int .i64 x.f, .int .i64 x.t, .int .i64 x.i, .int .i64 x.o, .int .i64 x.w]] w fun e w' => e = .returned (.agg #[.int .i64 (g x).f, .int .i64 (g x).t, .int .i64 (g x).i, .int .i64 (g x).o, .int .i64 (g x).w]) ∧ Below w.heap.size w w') (va : Value) (a : Mach) (w : World) (B : Nat) (hB : B ≤ w.heap.size) (ha : MachAt w B va a) (hv : validate a = (0, 0)) :
    Calls Try.prog 32 #[va, (.func (.func fn) #[] #[])] w fun e w' => ∃ v', e = .returned (.tuple #[v', .agg #[.int .i64 0, .int .i64 0]]) ∧ MachNew w.heap.size w' v' ⟨a.n, compact likeA (srtA (a.arcs.map g)), a.fins⟩ ∧ Below w.heap.size w w' := by
  have HA := hide ha
  have HGG := hide hg
  clear hg
  obtain ⟨A, AF, n, c, nf, cf, rfl, HN, HF, hnc, hnfc, hnb, hnfb, hA, hF⟩ := ha
  have hne := fun a b c d W => run_neq_fault a b c d W
  have hf0 : fEq 0 0 0 0 = true := rfl
  have hV := valid_of hv
  have hlen := hV.len
  have hflen := hV.finLen
  rw [HN.out] at hlen
  rw [HF.out] at hflen
  have hn400 := hV.n4
  have HRA := hide hA
  have HRF := hide hF
  obtain ⟨ia, ha0, ha1, ha2, ha3⟩ := info_parts arc_info
  have hQ := fun W (hB : B ≤ W.heap.size) (h : MachAt W B (.agg #[.int .i64 a.n, .slice A n c, .slice AF nf cf]) a) => validate_any _ a W B hB h
  rw [hv] at hQ
  have HQ := hide hQ
  clear hQ hA hF hv hV
  go_enter Try.func32, Try.ntmps32
  go_wp2_with fail
  refine (HQ.out _ (by simp <;> omega) (HA.out.below (show Below w.heap.size w _ by go_grown) hB)).mono ?_
  rintro e w1 ⟨rfl, hb1⟩
  have hbw1 : Below w.heap.size w w1 := Below.trans (show Below w.heap.size w _ by go_grown) (hb1.mono (by simp <;> omega))
  have bX1 : Blk w1 w.heap.size 25 #[.int .i64 a.n, .slice A n c, .slice AF nf cf] := (((Blk.at_ rfl).alloc _).alloc _).below hb1 (by simp <;> omega)
  have bR1 : Blk w1 (w.heap.size + 1) 25 #[.int .i64 0, .slice none 0 0, .slice none 0 0] := ((Blk.at_ (by simp)).alloc _).below hb1 (by simp <;> omega)
  have bF1 : Blk w1 (w.heap.size + 1 + 1) 28 #[.int .i64 0, .int .i64 0] := (Blk.at_ (by simp)).below hb1 (by simp)
  clear hb1 HQ
  have x0 := bX1.cell 0
  have x2 := bX1.cell 2
  simp at x0 x2
  have lX := bX1.lt
  go_upto_region 4 with fail
  obtain ⟨base, hbase⟩ : ∃ z, z = w1.heap.size + 1 := ⟨_, rfl⟩
  generalize hW2 : World.alloc _ _ = W2
  have hbz : base ≤ W2.heap.size := by rw [← hW2, hbase]; simp
  have HBW := hide (show Below w.heap.size w W2 by rw [← hW2]; exact hbw1.alloc hbw1.size _)
  have HX2 := hide (show Blk W2 w.heap.size 25 #[.int .i64 a.n, .slice A n c, .slice AF nf cf] by rw [← hW2]; exact bX1.alloc _)
  have HR2 := hide (show Blk W2 (w.heap.size + 1) 25 #[.int .i64 0, .slice none 0 0, .slice none 0 0] by rw [← hW2]; exact bR1.alloc _)
  have HF2 := hide (show Blk W2 (w.heap.size + 1 + 1) 28 #[.int .i64 0, .int .i64 0] by rw [← hW2]; exact bF1.alloc _)
  have hp0 : w.heap.size + 1 + 1 < base := by have := bF1.lt; omega
  have HRA2 := hide ((HRA.out.below HBW.out hB).mono (show B ≤ w.heap.size by exact hB))
  have HRF2 := hide ((HRF.out.below HBW.out hB).mono (show B ≤ w.heap.size by exact hB))
  clear x0 x2 lX hW2 hbase bX1 bR1 bF1 hbw1
  have HCL := hide (fun W (h : Rd W w.heap.size 2 AF nf (finCell a.fins)) => clonef_any AF nf cf a.fins W w.heap.size HF.out (by omega) h)
  go_cut [7] from 8 (fun s7 wx => ∃ O, s7 = .pointer (some ⟨O, 0, none⟩) ∧ Hid (base ≤ O ∧ Mq wx O base a.n 0 [] nf a.fins ∧ Below base W2 wx ∧ base ≤ wx.heap.size))
  case first =>
    have x0 := HX2.out.cell 0
    have x2 := HX2.out.cell 2
    simp at x0 x2
    have lX := HX2.out.lt
    go_region_law (rw [if_pos (by simp [Region.wanted])]; go_simp; refine (HCL.out _ (by exact HRF2.out.below (show Below W2.heap.size W2 _ by go_grown) (by omega))).mono ?_; rintro e w6 ⟨v6, rfl, hown6, hb6⟩; obtain ⟨A6, c6, rfl, hkc6, _⟩ := own_value hown6; (first | (have h9 := reg_alt1 hbz HX2.out (by omega) hb6; have bO6 : Blk w6 W2.heap.size 25 #[.int .i64 0, .slice none 0 0, .slice none 0 0] := h9.1; have HB6 := h9.2.1; have x06 : w6.cell? ⟨w.heap.size, 0, none⟩ = some (.int .i64 a.n) := h9.2.2.cell 0; have lX6 : w.heap.size < w6.heap.size := h9.2.2.lt; clear h9; have fo0 := bO6.frozen 0; have fo1 := bO6.frozen 1; have fo2 := bO6.frozen 2; have oo0 : w6.cell? ⟨W2.heap.size, 0, none⟩ = some (.int .i64 0) := bO6.cell 0; have oo1 : w6.cell? ⟨W2.heap.size, 1, none⟩ = some (.slice none 0 0) := bO6.cell 1; have oo2 : w6.cell? ⟨W2.heap.size, 2, none⟩ = some (.slice none 0 0) := bO6.cell 2; have lO6 := bO6.lt) | (have h9 := reg_alt3 hbz HX2.out (by omega) hb6; have bO6 : Blk w6 W2.heap.size 25 #[.int .i64 0, .slice none 0 0, .slice none 0 0] := h9.1; have HB6 := h9.2.1; have x06 : w6.cell? ⟨w.heap.size, 0, none⟩ = some (.int .i64 a.n) := h9.2.2.cell 0; have lX6 : w.heap.size < w6.heap.size := h9.2.2.lt; clear h9; have fo0 := bO6.frozen 0; have fo1 := bO6.frozen 1; have fo2 := bO6.frozen 2; have oo0 : w6.cell? ⟨W2.heap.size, 0, none⟩ = some (.int .i64 0) := bO6.cell 0; have oo1 : w6.cell? ⟨W2.heap.size, 1, none⟩ = some (.slice none 0 0) := bO6.cell 1; have oo2 : w6.cell? ⟨W2.heap.size, 2, none⟩ = some (.slice none 0 0) := bO6.cell 2; have lO6 := bO6.lt) | (have h9 := reg_alt2 hbz HX2.out (by omega) hb6; have HB6 := h9.1; have x06 : w6.cell? ⟨w.heap.size, 0, none⟩ = some (.int .i64 a.n) := h9.2.cell 0; have lX6 : w.heap.size < w6.heap.size := h9.2.lt; clear h9)); have hown7 := own_monoS hown6 (show base ≤ _ by simp <;> omega); dsimp only)
    all_goals go_wp2_with fail
    all_goals go_meet
    all_goals first | exact ⟨_, rfl, hide (mq_newF rfl hown7 HB6.out hbz)⟩ | exact ⟨_, rfl, hide (mq_putF bO6 hown7 HB6.out hbz (by omega))⟩
  case rest =>
  obtain ⟨O, rfl, HU⟩ := hcut
  obtain ⟨hbO, hm, hb, hbz'⟩ := HU.out
  replace hbz := hbz'
  have HMK := hide hm
  have HBK := hide hb
  clear hm hb HU hbz' HCL
  have bXX := HX2.out.below HBK.out (by omega)
  have x1 := bXX.cell 1
  simp at x1
  have lXX := bXX.lt
  go_wp2
  clear bXX x1 lXX
  have HMK0 := hide (show Mq _ O base a.n 0 ((a.arcs.take 0).map g) nf a.fins from by simpa using HMK.out)
  go_loopw [26] (fun iv wr => ∃ k : Nat, k ≤ n ∧ iv = .int .i64 k ∧ Hid (Mq wr O base a.n k ((a.arcs.take k).map g) nf a.fins) ∧ Hid (Below base W2 wr) ∧ base ≤ wr.heap.size) (fun iv _ => n - (intOf iv).toNat)
  case atStart => exact ⟨0, by omega, rfl, HMK0, HBK, hbz⟩
  case round =>
    clear HMK0 HMK HBK hbz
    obtain ⟨k, hk, rfl, HMK, HBK, hbz⟩ := hrel
    by_cases hkn : k < n
    · skip
      obtain ⟨A5, c5, AF5, cf5, bO5, hown5, hfin5⟩ := HMK.out
      have HBKO := hide bO5
      have HOWN := hide hown5
      have HFIN := hide hfin5
      have hlow : ∀ q, (Value.slice A5 k c5).ownBlock = some q → base ≤ q := fun q hq => (hown5.lt q hq).1
      have HLOW := hide hlow
      have hneO : (Value.slice A5 k c5).ownBlock ≠ some O := own_blk_ne hown5 bO5 (by decide)
      obtain ⟨bb, off, x, rfl, hbB, d0, d1, d2, d3, d4, HX⟩ := arcs_at (HRA2.out.below HBK.out (by omega)) hkn
      have hkl : k < a.arcs.length := by rw [HN.out]; exact hkn
      have lb : bb < wr.heap.size := by omega
      have HTK := hide (take_push hkl HX.out)
      clear hlow HMK bO5 hown5 hfin5 hkl HX
      go_upto_region 8 with fail
      generalize hW6 : World.alloc _ _ = W6
      obtain ⟨X9, hX9⟩ : ∃ z, z = wr.heap.size := ⟨_, rfl⟩
      have hz6 : wr.heap.size ≤ W6.heap.size := by rw [← hW6]; simp
      have bA6 : Blk W6 X9 45 #[.int .i64 x.f, .int .i64 x.t, .int .i64 x.i, .int .i64 x.o, .int .i64 x.w] := by rw [← hW6, hX9]; exact Blk.at_ rfl
      have bO6 := (by rw [← hW6]; exact HBKO.out.alloc _ : Blk W6 O _ _)
      have HOWN6 := hide (by rw [← hW6]; exact HOWN.out.alloc _ : W6.ownsRow base _ 5 (.slice A5 k c5) k _)
      have HFIN6 := hide (by rw [← hW6]; exact HFIN.out.alloc _ : W6.ownsRow base _ 2 (.slice AF5 nf cf5) nf _)
      have HB6 := hide (by rw [← hW6]; exact HBK.out.alloc hbz _ : Below base W2 W6)
      have a0 := bA6.cell 0
      have a1 := bA6.cell 1
      have a2 := bA6.cell 2
      have a3 := bA6.cell 3
      have a4 := bA6.cell 4
      have o1 := bO6.cell 1
      simp at a0 a1 a2 a3 a4 o1
      simp only [← hX9]
      have lA6 := bA6.lt
      have lO6 := bO6.lt
      have HA6 := hide bA6
      have HO6 := hide bO6
      clear hW6 hX9 bA6 bO6 d0 d1 d2 d3 d4 HBKO HOWN HFIN HBK
      refine wp_mix (fun w' => w'.cell? ⟨X9, 0, none⟩ = some (.int .i64 x.f) ∧ w'.cell? ⟨X9, 1, none⟩ = some (.int .i64 x.t) ∧ w'.cell? ⟨X9, 2, none⟩ = some (.int .i64 x.i) ∧ w'.cell? ⟨X9, 3, none⟩ = some (.int .i64 x.o) ∧ w'.cell? ⟨X9, 4, none⟩ = some (.int .i64 x.w) ∧ w'.cell? ⟨O, 1, none⟩ = some (.slice A5 k c5)) 6 [(0, false), (1, false), (2, false), (3, false), (4, true), (5, true)] (by kernel_rfl) (by kernel_rfl) ?_ ?_
      · go_simp
      simp only [List.drop_succ_cons, List.drop_zero]
      repeat (refine mix_q (v := ?_) (by rfl) (by rfl) ?_ ?_; rotate_left; (focus (intro w' hC; (try dsimp only at hC); go_simp; (first | done | with_reducible rfl))); simp only [Act.put, List.setIfInBounds_toArray, List.set_cons_zero, List.set_cons_succ, List.getElem_toArray, List.getElem_cons_zero, List.getElem_cons_succ])
      refine mix_l (by rfl) (by rfl) (fun K hK => ?_)
      go_simp
      refine (HGG.out x _).mono ?_
      rintro e w7 ⟨rfl, hb7⟩
      have hd6 : W6.drew.heap.size = W6.heap.size := rfl
      have bA7 := HA6.out.drew.below hb7 lA6
      have bO7 := HO6.out.drew.below hb7 lO6
      have HOWN7 := hide (own_belowC (HOWN6.out.drew) hb7)
      have HFIN7 := hide (own_belowC (HFIN6.out.drew) hb7)
      have HB7 := hide (HB6.out.drew.trans (hb7.mono (by omega)))
      have hs7 := hb7.size
      have a0 := bA7.cell 0
      have a1 := bA7.cell 1
      have a2 := bA7.cell 2
      have a3 := bA7.cell 3
      have a4 := bA7.cell 4
      have o1 := bO7.cell 1
      simp at a0 a1 a2 a3 a4 o1
      have lA7 := bA7.lt
      have lO7 := bO7.lt
      have HO7 := hide bO7
      clear hb7 bA7 bO7 HA6 HO6 HOWN6 HFIN6 HB6
      refine hK _ _ ⟨a0, a1, a2, a3, a4, o1⟩ ?_
      clear hK K
      try simp only [Act.put, List.setIfInBounds_toArray, List.set_cons_zero, List.set_cons_succ, List.getElem_toArray, List.getElem_cons_zero, List.getElem_cons_succ]
      refine mix_l (by rfl) (by rfl) (fun K hK => ?_)
      go_simp
      refine hK _ _ (by go_simp) ?_
      clear hK K
      refine mix_nil ?_; try simp only [Act.put, List.setIfInBounds_toArray, List.set_cons_zero, List.set_cons_succ, List.getElem_toArray, List.getElem_cons_zero, List.getElem_cons_succ]
      have hlO7 := HO7.out.lt
      go_wp2_with (at_builtin; refine wpList_append_own _ rfl (.tmp 31) (.tmp 35) 22 rfl base 45 ia _ 5 40 Try.underlying22 ha0 ha1 ha2 ha3 rfl (by omega) (.slice A5 k c5) k _ rfl (HOWN7.out.alloc _) ⟨w7.heap.size, 0, none⟩ 1 1 (arcRow [g x]) rfl (by rfl) (World.news_of_block (cs := (arcRow [g x]).toArray) (t := 45) (fr := (0, 0)) (Blk.at_ rfl)) (arcRow_one _) (by simp only [maxLen]; omega) (by omega) (by simp <;> omega) ?_; intro v' w8 hown2 hg2 _; obtain ⟨Av, cv, rfl, hkcv, _⟩ := own_value hown2; have bO8 := (HO7.out.alloc _).grown hg2 (Ne.symm hneO); have of1' := bO8.frozen 1; have lO8 := bO8.lt; have o1' := bO8.cell 1; simp at o1')
      have hs8 := hg2.size
      simp at hs8
      go_wp2
      try (refine NoPanic.normal ?_)
      try go_wp2
      go_roundw
      case rel => exact ⟨k + 1, by omega, by go_num, hide (by rw [HTK.out, List.map_append]; exact mq_pushA (HO7.out.alloc _) (HOWN7.out.alloc _) (HFIN7.out.alloc _) hg2 hown2), hide (((HB7.out.alloc (by omega) _).grown hg2 (by simp <;> omega) (fun q hq => by have := HLOW.out q hq; omega)).setCell (by show base ≤ O; omega) _), by simp [World.setCell]; omega⟩
      case measure => simp [intOf]; omega
    · obtain rfl : n = k := by omega
      replace HMK := hide (show Mq wr O base a.n n (a.arcs.map g) nf a.fins by have h := HMK.out; rw [List.take_of_length_le (by rw [HN.out]; exact Nat.le_refl _)] at h; exact h)
      obtain ⟨A5, c5, AF5, cf5, bO5, hown5, hfin5⟩ := HMK.out
      have HLQ := hide (show (a.arcs.map g).length = n by rw [List.length_map, HN.out])
      have HRD := hide (Rd.of_own hown5 (fun i j hi hj => arcRow_at _ i j (by rw [HLQ.out]; exact hi) hj))
      have HFI := hide (fun W (hW : W = wr) => reduce_any A5 n c5 (a.arcs.map g) W wr.heap.size (by rw [hW]; exact Nat.le_refl _) HLQ.out (by omega) (by rw [hW]; exact HRD.out))
      have o1 := bO5.cell 1
      simp at o1
      have lO := bO5.lt
      have HBO := hide bO5
      have HFIN := hide hfin5
      clear HMK bO5 hown5 hfin5 HRD
      go_wp2_with fail
      refine (HFI.out _ rfl).mono ?_
      rintro e w9 ⟨A9, c9, rfl, hown9, hb9⟩
      obtain ⟨RL, hRL⟩ : ∃ z, z = compact likeA (srtA (a.arcs.map g)) := ⟨_, rfl⟩
      rw [← hRL] at hown9 ⊢
      obtain ⟨n9, hn9⟩ : ∃ z, z = RL.length := ⟨_, rfl⟩
      rw [← hn9] at hown9 ⊢
      obtain ⟨A9', c9', hv9, hnc9, hcm9⟩ := own_value hown9
      obtain ⟨rfl, rfl⟩ : A9 = A9' ∧ c9 = c9' := by injection hv9 with e1 e2 e3; exact ⟨e1, e3⟩
      clear hv9
      have hl9 : n9 ≤ n := by rw [hn9, hRL, ← HLQ.out]; exact Nat.le_trans (compact_len likeA _) (Nat.le_of_eq (srtA_perm _).length_eq)
      have HRL := hide hRL
      have HN9 := hide hn9
      have HOWN9 := hide hown9
      have bO9 := HBO.out.below hb9 lO
      have HFIN9 := hide (own_belowC HFIN.out hb9)
      obtain ⟨AF5', cf5', hv5, hnc5, hcm5⟩ := own_value HFIN.out
      obtain ⟨rfl, rfl⟩ : AF5 = AF5' ∧ cf5 = cf5' := by injection hv5 with e1 e2 e3; exact ⟨e1, e3⟩
      clear hv5
      have HBE := hide (HBW.out.trans ((HBK.out.trans (hb9.mono (by omega))).mono (by omega)))
      have bR := (HR2.out.below HBK.out (by omega)).below hb9 (by have := HBK.out.size; omega)
      have bF := (HF2.out.below HBK.out (by omega)).below hb9 (by have := HBK.out.size; omega)
      obtain ⟨Fb, hFb⟩ : ∃ z, z = w.heap.size + 1 + 1 := ⟨_, rfl⟩
      obtain ⟨Rb, hRb⟩ : ∃ z, z = w.heap.size + 1 := ⟨_, rfl⟩
      have hRF : Rb ≠ Fb := by omega
      have hFR : Fb ≠ Rb := by omega
      have hRw : w.heap.size ≤ Rb := by omega
      have hFw : w.heap.size ≤ Fb := by omega
      have hRG : Rb < base := by omega
      have hFG : Fb < base := by omega
      have hRO : Rb ≠ O := by omega
      have hFO2 : Fb ≠ O := by omega
      have hOR : O ≠ Rb := by omega
      have hOF : O ≠ Fb := by omega
      have hwO : w.heap.size ≤ O := by omega
      have hz9 := hb9.size
      have hb9z : base ≤ wr.heap.size := hbz
      rw [← hFb] at bF
      rw [← hRb] at bR
      simp only [← hFb]
      simp only [← hRb]
      have bO9' := bO9.set_ 1 (.slice A9 n9 c9)
      have HOW9 := hide (ownsRow_setCell_other HOWN9.out (own_blk_ne HOWN9.out bO9 (by decide)) (a := ⟨O, 1, none⟩) (.slice A9 n9 c9))
      have HFW9 := hide (ownsRow_setCell_other HFIN9.out (own_blk_ne HFIN9.out bO9 (by decide)) (a := ⟨O, 1, none⟩) (.slice A9 n9 c9))
      have of1 := bO9.frozen 1
      have lO9 := bO9.lt
      have HBO9 := hide bO9'
      have HBR := hide bR
      have HBF := hide bF
      have o0 := bO9.cell 0
      have o1 := bO9.cell 1
      have o2 := bO9.cell 2
      simp at o0 o1 o2
      have q0 := bR.cell 0
      have q1 := bR.cell 1
      have q2 := bR.cell 2
      have q3 := bF.cell 0
      have q4 := bF.cell 1
      have qf := bR.frozen 0
      have qf1 := bR.frozen 1
      have qf2 := bR.frozen 2
      have qf3 := bF.frozen 0
      have qf4 := bF.frozen 1
      simp at q0 q1 q2 q3 q4
      have lR := bR.lt
      have lF := bF.lt
      have HBE' := hide (HBE.out.setCell (p := ⟨O, 1, none⟩) (by exact hwO) (.slice A9 n9 c9))
      clear hb9 bR bF bO9 bO9' lO HFI hFb hRb hp0 hown9 hRL hn9 HOWN9 HFIN9 HBO HFIN HX2 HR2 HF2 HRA2 HRF2 HBW HBK HRA HRF HBE HBR HBF HBO9
      go_wp21
      refine bodyPost_ret (v := .tuple #[.agg #[.int .i64 a.n, .slice A9 n9 c9, .slice AF5 nf cf5], .agg #[.int .i64 0, .int .i64 0]]) (by simp [results, Try.results32, go_sem, lR, lF, q0, q1, q2, q3, q4, qf, qf1, qf2, qf3, qf4, hRF, hFR, hRO, hFO2, hOR, hOF]) rfl ⟨_, rfl, ?_, ?_⟩
      · rw [← HRL.out]
        have h0 := machnew_own (n0 := a.n) HOW9.out HFW9.out HN9.out.symm HF.out hb9z (Nat.le_refl _) hnc9 hnc5 (by unfold big; omega) (by unfold big; omega)
        refine MachNew.mono (lo := base) ?_ (by omega)
        refine MachNew.set (MachNew.set (MachNew.set (MachNew.set (MachNew.set h0 ?_ _) ?_ _) ?_ _) ?_ _) ?_ _ <;> (dsimp only; omega)
      · refine Below.setCell (Below.setCell (Below.setCell (Below.setCell (Below.setCell HBE'.out ?_ _) ?_ _) ?_ _) ?_ _) ?_ _ <;> (dsimp only; omega)
set_option maxRecDepth 100000 in
set_option maxHeartbeats 16000000 in
/-- Invert, at any machine. -/
theorem ch1R_any (va : Value) (a : Mach) (w : World) (B : Nat) (hB : B ≤ w.heap.size) (ha : MachAt w B va a) :
    Calls Try.prog 12 #[va] w fun e w' => ∃ v', e = .returned (.tuple #[v', .agg #[.int .i64 (validate a).1, .int .i64 (validate a).2]]) ∧ MachNew w.heap.size w' v' (chR 1 a) ∧ Below w.heap.size w w' := by
  have HA := hide ha
  have hcase : (∃ v', MachAt w B v' a) := ⟨va, ha⟩
  obtain ⟨A, AF, n, c, nf, cf, rfl, _⟩ := ha
  by_cases hz : validate a = (0, 0)
  · have e1 : chR 1 a = ⟨a.n, compact likeA (srtA (a.arcs.map (chA 1))), a.fins⟩ := by unfold chR; rw [if_pos hz]; rfl
    rw [e1, hz]
    have HG := hide (fun W (h : MachAt W B (.agg #[.int .i64 a.n, .slice A n c, .slice AF nf cf]) a) (hB : B ≤ W.heap.size) => change_good 33 (enters_of Try.func33 (by kernel_rfl) rfl) (chA 1) ch1_any _ a W B hB h hz)
    clear hcase hz e1
    go_enter Try.func12, Try.ntmps12
    go_wp2_with fail
    refine (HG.out _ (HA.out.below (show Below w.heap.size w _ by go_grown) hB) (by simp <;> omega)).mono ?_
    rintro e w1 ⟨v', rfl, hM, hb⟩
    obtain ⟨A1, n1, c1, AF1, nf1, cf1, rfl⟩ := agg_ofM hM
    have bR1 : Blk w1 (w.heap.size + 1) 25 #[.int .i64 0, .slice none 0 0, .slice none 0 0] := ((Blk.at_ (by simp)).alloc _).below hb (by simp <;> omega)
    have bF1 : Blk w1 (w.heap.size + 1 + 1) 28 #[.int .i64 0, .int .i64 0] := (Blk.at_ (by simp)).below hb (by simp)
    have hbw : Below w.heap.size w w1 := Below.trans (show Below w.heap.size w _ by go_grown) (hb.mono (by simp <;> omega))
    have hlo : w.heap.size + 1 + 1 < (((w.alloc (Obj.cells #[.int .i64 a.n, .slice A n c, .slice AF nf cf] 25)).alloc (Obj.cells #[.int .i64 0, .slice none 0 0, .slice none 0 0] 25)).alloc (Obj.cells #[.int .i64 0, .int .i64 0] 28)).heap.size := by simp
    have q0 := bR1.cell 0
    have q1 := bR1.cell 1
    have q2 := bR1.cell 2
    have q3 := bF1.cell 0
    have q4 := bF1.cell 1
    have qf := bR1.frozen 0
    have qf1 := bR1.frozen 1
    have qf2 := bR1.frozen 2
    have qf3 := bF1.frozen 0
    have qf4 := bF1.frozen 1
    simp at q0 q1 q2 q3 q4
    have hs3 := bR1.lt
    have hs4 := bF1.lt
    have HM := hide hM
    have HBW := hide hbw
    have hsw := hbw.size
    clear hM hb hbw bR1 bF1
    go_wp21
    refine bodyPost_ret (v := .tuple #[.agg #[.int .i64 a.n, .slice A1 n1 c1, .slice AF1 nf1 cf1], .agg #[.int .i64 0, .int .i64 0]]) (by simp [results, Try.results12, go_sem, q0, q1, q2, q3, q4, qf, qf1, qf2, qf3, qf4, hs3, hs4]) rfl ⟨_, rfl, ?_, ?_⟩
    · exact MachNew.mono (MachNew.set (MachNew.set (MachNew.set (MachNew.set (MachNew.set HM.out (by dsimp only; omega) _) (by dsimp only; omega) _) (by dsimp only; omega) _) (by dsimp only; omega) _) (by dsimp only; omega) _) (by omega)
    · refine Below.setCell (Below.setCell (Below.setCell (Below.setCell (Below.setCell HBW.out ?_ _) ?_ _) ?_ _) ?_ _) ?_ _ <;> (dsimp only; omega)
  · have e1 : chR 1 a = ⟨0, [], []⟩ := by unfold chR; rw [if_neg hz]
    rw [e1]
    obtain ⟨p, hp⟩ : ∃ p, p = (validate a).1 := ⟨_, rfl⟩
    obtain ⟨q, hq⟩ : ∃ p, p = (validate a).2 := ⟨_, rfl⟩
    have HG := hide (fun W (h : MachAt W B (.agg #[.int .i64 a.n, .slice A n c, .slice AF nf cf]) a) (hB : B ≤ W.heap.size) => change_bad 33 _ a W B hB h hz)
    rw [← hp, ← hq] at HG ⊢
    clear hcase hz e1 hp hq
    go_enter Try.func12, Try.ntmps12
    go_wp2_with fail
    refine (HG.out _ (HA.out.below (show Below w.heap.size w _ by go_grown) hB) (by simp <;> omega)).mono ?_
    rintro e w1 ⟨rfl, hb⟩
    have hM := MachNew.empty 0 w1
    have bR1 : Blk w1 (w.heap.size + 1) 25 #[.int .i64 0, .slice none 0 0, .slice none 0 0] := ((Blk.at_ (by simp)).alloc _).below hb (by simp <;> omega)
    have bF1 : Blk w1 (w.heap.size + 1 + 1) 28 #[.int .i64 0, .int .i64 0] := (Blk.at_ (by simp)).below hb (by simp)
    have hbw : Below w.heap.size w w1 := Below.trans (show Below w.heap.size w _ by go_grown) (hb.mono (by simp <;> omega))
    have q0 := bR1.cell 0
    have q1 := bR1.cell 1
    have q2 := bR1.cell 2
    have q3 := bF1.cell 0
    have q4 := bF1.cell 1
    have qf := bR1.frozen 0
    have qf1 := bR1.frozen 1
    have qf2 := bR1.frozen 2
    have qf3 := bF1.frozen 0
    have qf4 := bF1.frozen 1
    simp at q0 q1 q2 q3 q4
    have hs3 := bR1.lt
    have hs4 := bF1.lt
    have HM := hide hM
    have HBW := hide hbw
    have hsw := hbw.size
    clear hM hb hbw bR1 bF1
    go_wp21
    refine bodyPost_ret (v := .tuple #[.agg #[.int .i64 0, .slice none 0 0, .slice none 0 0], .agg #[.int .i64 p, .int .i64 q]]) (by simp [results, Try.results12, go_sem, q0, q1, q2, q3, q4, qf, qf1, qf2, qf3, qf4, hs3, hs4]) rfl ⟨_, rfl, ?_, ?_⟩
    · exact MachNew.empty _ _
    · refine Below.setCell (Below.setCell (Below.setCell (Below.setCell (Below.setCell HBW.out ?_ _) ?_ _) ?_ _) ?_ _) ?_ _ <;> (dsimp only; omega)
set_option maxRecDepth 100000 in
set_option maxHeartbeats 16000000 in
/-- Input, at any machine. -/
theorem ch2R_any (va : Value) (a : Mach) (w : World) (B : Nat) (hB : B ≤ w.heap.size) (ha : MachAt w B va a) :
    Calls Try.prog 13 #[va] w fun e w' => ∃ v', e = .returned (.tuple #[v', .agg #[.int .i64 (validate a).1, .int .i64 (validate a).2]]) ∧ MachNew w.heap.size w' v' (chR 2 a) ∧ Below w.heap.size w w' := by
  have HA := hide ha
  have hcase : (∃ v', MachAt w B v' a) := ⟨va, ha⟩
  obtain ⟨A, AF, n, c, nf, cf, rfl, _⟩ := ha
  by_cases hz : validate a = (0, 0)
  · have e1 : chR 2 a = ⟨a.n, compact likeA (srtA (a.arcs.map (chA 2))), a.fins⟩ := by unfold chR; rw [if_pos hz]; rfl
    rw [e1, hz]
    have HG := hide (fun W (h : MachAt W B (.agg #[.int .i64 a.n, .slice A n c, .slice AF nf cf]) a) (hB : B ≤ W.heap.size) => change_good 34 (enters_of Try.func34 (by kernel_rfl) rfl) (chA 2) ch2_any _ a W B hB h hz)
    clear hcase hz e1
    go_enter Try.func13, Try.ntmps13
    go_wp2_with fail
    refine (HG.out _ (HA.out.below (show Below w.heap.size w _ by go_grown) hB) (by simp <;> omega)).mono ?_
    rintro e w1 ⟨v', rfl, hM, hb⟩
    obtain ⟨A1, n1, c1, AF1, nf1, cf1, rfl⟩ := agg_ofM hM
    have bR1 : Blk w1 (w.heap.size + 1) 25 #[.int .i64 0, .slice none 0 0, .slice none 0 0] := ((Blk.at_ (by simp)).alloc _).below hb (by simp <;> omega)
    have bF1 : Blk w1 (w.heap.size + 1 + 1) 28 #[.int .i64 0, .int .i64 0] := (Blk.at_ (by simp)).below hb (by simp)
    have hbw : Below w.heap.size w w1 := Below.trans (show Below w.heap.size w _ by go_grown) (hb.mono (by simp <;> omega))
    have hlo : w.heap.size + 1 + 1 < (((w.alloc (Obj.cells #[.int .i64 a.n, .slice A n c, .slice AF nf cf] 25)).alloc (Obj.cells #[.int .i64 0, .slice none 0 0, .slice none 0 0] 25)).alloc (Obj.cells #[.int .i64 0, .int .i64 0] 28)).heap.size := by simp
    have q0 := bR1.cell 0
    have q1 := bR1.cell 1
    have q2 := bR1.cell 2
    have q3 := bF1.cell 0
    have q4 := bF1.cell 1
    have qf := bR1.frozen 0
    have qf1 := bR1.frozen 1
    have qf2 := bR1.frozen 2
    have qf3 := bF1.frozen 0
    have qf4 := bF1.frozen 1
    simp at q0 q1 q2 q3 q4
    have hs3 := bR1.lt
    have hs4 := bF1.lt
    have HM := hide hM
    have HBW := hide hbw
    have hsw := hbw.size
    clear hM hb hbw bR1 bF1
    go_wp21
    refine bodyPost_ret (v := .tuple #[.agg #[.int .i64 a.n, .slice A1 n1 c1, .slice AF1 nf1 cf1], .agg #[.int .i64 0, .int .i64 0]]) (by simp [results, Try.results13, go_sem, q0, q1, q2, q3, q4, qf, qf1, qf2, qf3, qf4, hs3, hs4]) rfl ⟨_, rfl, ?_, ?_⟩
    · exact MachNew.mono (MachNew.set (MachNew.set (MachNew.set (MachNew.set (MachNew.set HM.out (by dsimp only; omega) _) (by dsimp only; omega) _) (by dsimp only; omega) _) (by dsimp only; omega) _) (by dsimp only; omega) _) (by omega)
    · refine Below.setCell (Below.setCell (Below.setCell (Below.setCell (Below.setCell HBW.out ?_ _) ?_ _) ?_ _) ?_ _) ?_ _ <;> (dsimp only; omega)
  · have e1 : chR 2 a = ⟨0, [], []⟩ := by unfold chR; rw [if_neg hz]
    rw [e1]
    obtain ⟨p, hp⟩ : ∃ p, p = (validate a).1 := ⟨_, rfl⟩
    obtain ⟨q, hq⟩ : ∃ p, p = (validate a).2 := ⟨_, rfl⟩
    have HG := hide (fun W (h : MachAt W B (.agg #[.int .i64 a.n, .slice A n c, .slice AF nf cf]) a) (hB : B ≤ W.heap.size) => change_bad 34 _ a W B hB h hz)
    rw [← hp, ← hq] at HG ⊢
    clear hcase hz e1 hp hq
    go_enter Try.func13, Try.ntmps13
    go_wp2_with fail
    refine (HG.out _ (HA.out.below (show Below w.heap.size w _ by go_grown) hB) (by simp <;> omega)).mono ?_
    rintro e w1 ⟨rfl, hb⟩
    have hM := MachNew.empty 0 w1
    have bR1 : Blk w1 (w.heap.size + 1) 25 #[.int .i64 0, .slice none 0 0, .slice none 0 0] := ((Blk.at_ (by simp)).alloc _).below hb (by simp <;> omega)
    have bF1 : Blk w1 (w.heap.size + 1 + 1) 28 #[.int .i64 0, .int .i64 0] := (Blk.at_ (by simp)).below hb (by simp)
    have hbw : Below w.heap.size w w1 := Below.trans (show Below w.heap.size w _ by go_grown) (hb.mono (by simp <;> omega))
    have q0 := bR1.cell 0
    have q1 := bR1.cell 1
    have q2 := bR1.cell 2
    have q3 := bF1.cell 0
    have q4 := bF1.cell 1
    have qf := bR1.frozen 0
    have qf1 := bR1.frozen 1
    have qf2 := bR1.frozen 2
    have qf3 := bF1.frozen 0
    have qf4 := bF1.frozen 1
    simp at q0 q1 q2 q3 q4
    have hs3 := bR1.lt
    have hs4 := bF1.lt
    have HM := hide hM
    have HBW := hide hbw
    have hsw := hbw.size
    clear hM hb hbw bR1 bF1
    go_wp21
    refine bodyPost_ret (v := .tuple #[.agg #[.int .i64 0, .slice none 0 0, .slice none 0 0], .agg #[.int .i64 p, .int .i64 q]]) (by simp [results, Try.results13, go_sem, q0, q1, q2, q3, q4, qf, qf1, qf2, qf3, qf4, hs3, hs4]) rfl ⟨_, rfl, ?_, ?_⟩
    · exact MachNew.empty _ _
    · refine Below.setCell (Below.setCell (Below.setCell (Below.setCell (Below.setCell HBW.out ?_ _) ?_ _) ?_ _) ?_ _) ?_ _ <;> (dsimp only; omega)
set_option maxRecDepth 100000 in
set_option maxHeartbeats 16000000 in
/-- Output, at any machine. -/
theorem ch3R_any (va : Value) (a : Mach) (w : World) (B : Nat) (hB : B ≤ w.heap.size) (ha : MachAt w B va a) :
    Calls Try.prog 14 #[va] w fun e w' => ∃ v', e = .returned (.tuple #[v', .agg #[.int .i64 (validate a).1, .int .i64 (validate a).2]]) ∧ MachNew w.heap.size w' v' (chR 3 a) ∧ Below w.heap.size w w' := by
  have HA := hide ha
  have hcase : (∃ v', MachAt w B v' a) := ⟨va, ha⟩
  obtain ⟨A, AF, n, c, nf, cf, rfl, _⟩ := ha
  by_cases hz : validate a = (0, 0)
  · have e1 : chR 3 a = ⟨a.n, compact likeA (srtA (a.arcs.map (chA 3))), a.fins⟩ := by unfold chR; rw [if_pos hz]; rfl
    rw [e1, hz]
    have HG := hide (fun W (h : MachAt W B (.agg #[.int .i64 a.n, .slice A n c, .slice AF nf cf]) a) (hB : B ≤ W.heap.size) => change_good 35 (enters_of Try.func35 (by kernel_rfl) rfl) (chA 3) ch3_any _ a W B hB h hz)
    clear hcase hz e1
    go_enter Try.func14, Try.ntmps14
    go_wp2_with fail
    refine (HG.out _ (HA.out.below (show Below w.heap.size w _ by go_grown) hB) (by simp <;> omega)).mono ?_
    rintro e w1 ⟨v', rfl, hM, hb⟩
    obtain ⟨A1, n1, c1, AF1, nf1, cf1, rfl⟩ := agg_ofM hM
    have bR1 : Blk w1 (w.heap.size + 1) 25 #[.int .i64 0, .slice none 0 0, .slice none 0 0] := ((Blk.at_ (by simp)).alloc _).below hb (by simp <;> omega)
    have bF1 : Blk w1 (w.heap.size + 1 + 1) 28 #[.int .i64 0, .int .i64 0] := (Blk.at_ (by simp)).below hb (by simp)
    have hbw : Below w.heap.size w w1 := Below.trans (show Below w.heap.size w _ by go_grown) (hb.mono (by simp <;> omega))
    have hlo : w.heap.size + 1 + 1 < (((w.alloc (Obj.cells #[.int .i64 a.n, .slice A n c, .slice AF nf cf] 25)).alloc (Obj.cells #[.int .i64 0, .slice none 0 0, .slice none 0 0] 25)).alloc (Obj.cells #[.int .i64 0, .int .i64 0] 28)).heap.size := by simp
    have q0 := bR1.cell 0
    have q1 := bR1.cell 1
    have q2 := bR1.cell 2
    have q3 := bF1.cell 0
    have q4 := bF1.cell 1
    have qf := bR1.frozen 0
    have qf1 := bR1.frozen 1
    have qf2 := bR1.frozen 2
    have qf3 := bF1.frozen 0
    have qf4 := bF1.frozen 1
    simp at q0 q1 q2 q3 q4
    have hs3 := bR1.lt
    have hs4 := bF1.lt
    have HM := hide hM
    have HBW := hide hbw
    have hsw := hbw.size
    clear hM hb hbw bR1 bF1
    go_wp21
    refine bodyPost_ret (v := .tuple #[.agg #[.int .i64 a.n, .slice A1 n1 c1, .slice AF1 nf1 cf1], .agg #[.int .i64 0, .int .i64 0]]) (by simp [results, Try.results14, go_sem, q0, q1, q2, q3, q4, qf, qf1, qf2, qf3, qf4, hs3, hs4]) rfl ⟨_, rfl, ?_, ?_⟩
    · exact MachNew.mono (MachNew.set (MachNew.set (MachNew.set (MachNew.set (MachNew.set HM.out (by dsimp only; omega) _) (by dsimp only; omega) _) (by dsimp only; omega) _) (by dsimp only; omega) _) (by dsimp only; omega) _) (by omega)
    · refine Below.setCell (Below.setCell (Below.setCell (Below.setCell (Below.setCell HBW.out ?_ _) ?_ _) ?_ _) ?_ _) ?_ _ <;> (dsimp only; omega)
  · have e1 : chR 3 a = ⟨0, [], []⟩ := by unfold chR; rw [if_neg hz]
    rw [e1]
    obtain ⟨p, hp⟩ : ∃ p, p = (validate a).1 := ⟨_, rfl⟩
    obtain ⟨q, hq⟩ : ∃ p, p = (validate a).2 := ⟨_, rfl⟩
    have HG := hide (fun W (h : MachAt W B (.agg #[.int .i64 a.n, .slice A n c, .slice AF nf cf]) a) (hB : B ≤ W.heap.size) => change_bad 35 _ a W B hB h hz)
    rw [← hp, ← hq] at HG ⊢
    clear hcase hz e1 hp hq
    go_enter Try.func14, Try.ntmps14
    go_wp2_with fail
    refine (HG.out _ (HA.out.below (show Below w.heap.size w _ by go_grown) hB) (by simp <;> omega)).mono ?_
    rintro e w1 ⟨rfl, hb⟩
    have hM := MachNew.empty 0 w1
    have bR1 : Blk w1 (w.heap.size + 1) 25 #[.int .i64 0, .slice none 0 0, .slice none 0 0] := ((Blk.at_ (by simp)).alloc _).below hb (by simp <;> omega)
    have bF1 : Blk w1 (w.heap.size + 1 + 1) 28 #[.int .i64 0, .int .i64 0] := (Blk.at_ (by simp)).below hb (by simp)
    have hbw : Below w.heap.size w w1 := Below.trans (show Below w.heap.size w _ by go_grown) (hb.mono (by simp <;> omega))
    have q0 := bR1.cell 0
    have q1 := bR1.cell 1
    have q2 := bR1.cell 2
    have q3 := bF1.cell 0
    have q4 := bF1.cell 1
    have qf := bR1.frozen 0
    have qf1 := bR1.frozen 1
    have qf2 := bR1.frozen 2
    have qf3 := bF1.frozen 0
    have qf4 := bF1.frozen 1
    simp at q0 q1 q2 q3 q4
    have hs3 := bR1.lt
    have hs4 := bF1.lt
    have HM := hide hM
    have HBW := hide hbw
    have hsw := hbw.size
    clear hM hb hbw bR1 bF1
    go_wp21
    refine bodyPost_ret (v := .tuple #[.agg #[.int .i64 0, .slice none 0 0, .slice none 0 0], .agg #[.int .i64 p, .int .i64 q]]) (by simp [results, Try.results14, go_sem, q0, q1, q2, q3, q4, qf, qf1, qf2, qf3, qf4, hs3, hs4]) rfl ⟨_, rfl, ?_, ?_⟩
    · exact MachNew.empty _ _
    · refine Below.setCell (Below.setCell (Below.setCell (Below.setCell (Below.setCell HBW.out ?_ _) ?_ _) ?_ _) ?_ _) ?_ _ <;> (dsimp only; omega)
end Go.Proofs.Ytmgpcnkmmgkjgaa
