/- The law MachineWeightMatchesSpec, walked: it returns true. -/
import Derived.Test.YtbedbpbgdmbipaaWeZ
import Derived.Test.YtbedbpbgdmbipaaEx
import Derived.Test.YtbedbpbgdmbipaaMF
namespace Gm
theorem small_wgt : wgt smallM [97] [98] = 3 := by
  refine wgt_eq (.inr ⟨3, rfl, ?_, ?_⟩)
  · exact ⟨⟨1, 1⟩, by simp [smallM], 2, .step (a := ⟨0, 1, 97, 98, 2⟩) (.start (by decide)) (by simp [smallM]) rfl (by decide), rfl⟩
  · rintro d ⟨x, hx, e, he, rfl⟩
    simp only [smallM, List.mem_singleton] at hx
    subst hx
    have key : ∀ {s i j d : Nat}, Rch smallM [97] [98] s i j d → (s = 0 ∧ i = 0) ∨ 2 ≤ d := by
      intro s i j d h
      induction h with
      | start _ => exact .inl ⟨rfl, rfl⟩
      | @step s i j d i' j' a _ ha _ _ _ =>
        right
        simp only [smallM, List.mem_singleton] at ha
        subst ha
        show 2 ≤ d + (2 : Int).toNat
        simp
    rcases key he with ⟨h, _⟩ | h
    · simp at h
    · show 3 ≤ e + (1 : Int).toNat
      simp; omega
theorem small_v : validate smallM = (0, 0) := by decide
theorem small_wF : wF smallM [97] [98] = (0, 0) := by unfold wF; rw [if_pos small_v, if_pos (by decide)]; decide
theorem small_wW : wW smallM [97] [98] = 3 := by unfold wW; rw [if_pos small_wF, small_wgt]; rfl
theorem small_wB : wB smallM [97] [98] = true := by unfold wB; rw [small_wF, small_wgt]; rfl
end Gm
namespace Go.Proofs.Ytbedbpbgdmbipaa
open Go.RowKit Gm
set_option linter.unusedSimpArgs false
set_option linter.unusedVariables false
theorem weight_small (v v1 v2 : Value) (w : World) (B : Nat) (hB : B ≤ w.heap.size) (h : MachAt w B v smallM) (h1 : Nums w B v1 [97]) (h2 : Nums w B v2 [98]) :
    Calls Try.prog 10 #[v, v1, v2] w fun e w' => e = .returned (.tuple #[.int .i64 3, .bool true, .agg #[.int .i64 0, .int .i64 0]]) ∧ Below w.heap.size w w' := by
  have h := weight_any v v1 v2 smallM [97] [98] w B hB h h1 h2
  rw [small_wF, small_wW, small_wB] at h
  exact h
theorem nums_one {w : World} {b : Nat} {x : Int} (h : Blk w b 3 #[.int .i64 x]) : Nums w w.heap.size (.slice (some ⟨b, 0, none⟩) 1 1) [x] :=
  ⟨_, 1, 1, rfl, hide rfl, Nat.le_refl _, by simp [big], fun _ => ⟨b, 0, rfl, h.lt, fun i j hi hj => by
    obtain rfl : i = 0 := by omega
    obtain rfl : j = 0 := by omega
    exact h.cell 0⟩⟩
set_option maxRecDepth 100000 in
set_option maxHeartbeats 2000000 in
theorem weighed_ex (w : World) : Calls Try.prog 9 #[] w fun e w' => e = .returned (.bool true) ∧ Below w.heap.size w w' := by
  have he := fun a b c d W => run_eql_fault a b c d W
  have hf : fEq 0 0 0 0 = true := rfl
  go_enter Try.func9, Try.ntmps9
  go_wp2_with fail
  refine (small_any _).mono ?_
  rintro e w1 ⟨v1, rfl, hM, hb1⟩
  obtain ⟨A, n, c, AF, nf, cf, rfl⟩ := agg_of hM
  have HM := hide hM
  clear hM
  go_wp2_with fail
  refine (weight_small _ _ _ _ _ (Nat.le_refl _) ((HM.out.at_.below (B' := w1.heap.size) (by go_grown) (Nat.le_refl _)).mono (by simp; omega)) (nums_one ((Blk.at_ rfl).alloc _)) (nums_one (Blk.at_ (by simp)))).mono ?_
  rintro e w2 ⟨rfl, hb2⟩
  have hbw : Below w.heap.size w w2 := hb1.trans ((show Below w1.heap.size w1 _ by go_grown).mono hb1.size |>.trans (hb2.mono (by have := hb1.size; simp; omega)))
  have hz := hbw.size
  clear hb2 HM hb1
  go_wp2
  exact bodyPost_ret (v := .bool true) (by simp [results, Try.results9, go_sem]) rfl ⟨rfl, hbw.alloc hz _⟩

set_option maxRecDepth 100000 in
set_option maxHeartbeats 2000000 in
theorem wlaw_bad1 (v v1 v2 : Value) (m : Mach) (lu lo : List Int) (w : World) (B : Nat) (hB : B ≤ w.heap.size) (h : MachAt w B v m) (h1 : Nums w B v1 lu) (h2 : Nums w B v2 lo) (hv : validate m ≠ (0, 0)) :
    Calls Try.prog 3 #[v, v1, v2] w fun e w' => e = .returned (.bool true) ∧ Below w.heap.size w w' := by
  have e0 : wF m lu lo = validate m := by unfold wF; rw [if_neg hv]
  have e2 : wW m lu lo = 0 := by unfold wW; rw [if_neg (by rw [e0]; exact hv)]
  have e3 : wB m lu lo = false := by unfold wB; rw [e0, decide_eq_false hv]; rfl
  have hz := fEq0_false hv
  have hs : fEq (validate m).1 (validate m).2 (validate m).1 (validate m).2 = true := by simp [fEq]
  have hWA := fun v v1 v2 W hB hM hU hO => weight_any v v1 v2 m lu lo W B hB hM hU hO
  rw [e0, e2, e3] at hWA
  have hMF := fun v W hB hM => mfault_spec v m W B hB hM
  obtain ⟨p, hp⟩ : ∃ p, p = (validate m).1 := ⟨_, rfl⟩
  obtain ⟨q, hq⟩ : ∃ p, p = (validate m).2 := ⟨_, rfl⟩
  rw [← hp, ← hq] at hWA hMF hz hs
  clear e0 e2 e3 hv hp hq
  have HM := hide h
  have HU := hide h1
  have HO := hide h2
  obtain ⟨A, AF, n, c, nf, cf, rfl, _⟩ := h
  obtain ⟨A1, nu, cc1, rfl, _⟩ := h1
  obtain ⟨A2, no, cc2, rfl, _⟩ := h2
  have heq := fun a b c d W => run_eql_fault a b c d W
  have hne := fun a b c d W => run_neq_fault a b c d W
  have hf0 : fEq 0 0 0 0 = true := rfl
  have HW := hide (fun W (hB : B ≤ W.heap.size) (hM : MachAt W B (.agg #[.int .i64 m.n, .slice A n c, .slice AF nf cf]) m) (hU : Nums W B (.slice A1 nu cc1) lu) (hO : Nums W B (.slice A2 no cc2) lo) => hWA _ _ _ W hB hM hU hO)
  have HF := hide (fun W (hB : B ≤ W.heap.size) (hM : MachAt W B (.agg #[.int .i64 m.n, .slice A n c, .slice AF nf cf]) m) => hMF _ W hB hM)

  clear hWA hMF
  go_enter Try.func3, Try.ntmps3
  go_wp2_with fail
  refine (weighed_ex _).mono ?_
  rintro e w1 ⟨rfl, hb1⟩
  have bX := (Blk.at_ (w := w) (g := w.heap.size) (t := 25) (cs := #[.int .i64 m.n, .slice A n c, .slice AF nf cf]) rfl).below hb1 (by simp)
  have hbw : Below w.heap.size w w1 := Below.trans (by go_grown) (hb1.mono (by simp))
  clear hb1
  have x0 := bX.cell 0
  have x1 := bX.cell 1
  have x2 := bX.cell 2
  simp at x0 x1 x2
  have xl := bX.lt
  go_wp2_with fail
  refine (HW.out _ (by omega) (HM.out.below hbw hB) (HU.out.below hbw hB) (HO.out.below hbw hB)).mono ?_
  rintro e w2 ⟨rfl, hb2⟩
  have bX := bX.below hb2 bX.lt
  have hbw := hbw.trans (hb2.mono hbw.size)
  have bX := bX.alloc (Obj.cells #[.int .i64 p, .int .i64 q] 29)
  have b9 := Blk.at_ (w := w2) (g := w2.heap.size) (t := 29) (cs := #[.int .i64 p, .int .i64 q]) rfl
  have hbw := hbw.alloc hbw.size (Obj.cells #[.int .i64 p, .int .i64 q] 29)
  clear hb2 x0 x1 x2 xl HW
  have x0 := bX.cell 0
  have x1 := bX.cell 1
  have x2 := bX.cell 2
  simp at x0 x1 x2
  have xl := bX.lt
  have xl2 := b9.lt
  simp at xl xl2
  have hbz := hbw.size
  go_wp2_with fail
  refine (HF.out _ (by omega) (HM.out.below hbw hB)).mono ?_
  rintro e w3 ⟨rfl, hb3⟩
  have bX := bX.below hb3 bX.lt
  have b9 := b9.below hb3 b9.lt
  have hbw := hbw.trans (hb3.mono hbz)
  clear hb3 x0 x1 x2 xl xl2 HF hbz
  have bX := bX.alloc (Obj.cells #[.int .i64 p, .int .i64 q] 29)
  have b9 := b9.alloc (Obj.cells #[.int .i64 p, .int .i64 q] 29)
  have b10 := Blk.at_ (w := w3) (g := w3.heap.size) (t := 29) (cs := #[.int .i64 p, .int .i64 q]) rfl
  have hbw := hbw.alloc hbw.size (Obj.cells #[.int .i64 p, .int .i64 q] 29)
  obtain ⟨g9, hg9⟩ : ∃ g, g = w2.heap.size := ⟨_, rfl⟩
  obtain ⟨g10, hg10⟩ : ∃ g, g = w3.heap.size := ⟨_, rfl⟩

  have bx9 := b9.cell 0
  have bx91 := b9.cell 1
  have bl9 := b9.lt
  simp at bx9 bx91 bl9
  have hbz := hbw.size
  clear hg9 hg10
  go_wp2
  exact bodyPost_ret (v := .bool true) (by simp [results, Try.results3, go_sem]) rfl ⟨rfl, hbw⟩
set_option maxRecDepth 100000 in
set_option maxHeartbeats 2000000 in
theorem wlaw_bad2 (v v1 v2 : Value) (m : Mach) (lu lo : List Int) (w : World) (B : Nat) (hB : B ≤ w.heap.size) (h : MachAt w B v m) (h1 : Nums w B v1 lu) (h2 : Nums w B v2 lo) (hv : validate m = (0, 0)) (hu : wordF lu (-2) ≠ (0, 0)) :
    Calls Try.prog 3 #[v, v1, v2] w fun e w' => e = .returned (.bool true) ∧ Below w.heap.size w w' := by
  have e0 : wF m lu lo = wordF lu (-2) := by unfold wF; rw [if_pos hv, if_neg hu]
  have e2 : wW m lu lo = 0 := by unfold wW; rw [if_neg (by rw [e0]; exact hu)]
  have e3 : wB m lu lo = false := by unfold wB; rw [e0, decide_eq_false hu]; rfl
  have hz := fEq0_false hu
  have hs : fEq (wordF lu (-2)).1 (wordF lu (-2)).2 (wordF lu (-2)).1 (wordF lu (-2)).2 = true := by simp [fEq]
  have hWA := fun v v1 v2 W hB hM hU hO => weight_any v v1 v2 m lu lo W B hB hM hU hO
  rw [e0, e2, e3] at hWA
  have hMF := fun v W hB hM => mfault_spec v m W B hB hM
  rw [hv] at hMF
  have hU1 := fun v W hB hU => rword_any v lu (-2) W B hB hU
  obtain ⟨p, hp⟩ : ∃ p, p = (wordF lu (-2)).1 := ⟨_, rfl⟩
  obtain ⟨q, hq⟩ : ∃ p, p = (wordF lu (-2)).2 := ⟨_, rfl⟩
  rw [← hp, ← hq] at hWA hU1 hz hs
  clear e0 e2 e3 hu hp hq hv
  have HM := hide h
  have HU := hide h1
  have HO := hide h2
  obtain ⟨A, AF, n, c, nf, cf, rfl, _⟩ := h
  obtain ⟨A1, nu, cc1, rfl, _⟩ := h1
  obtain ⟨A2, no, cc2, rfl, _⟩ := h2
  have heq := fun a b c d W => run_eql_fault a b c d W
  have hne := fun a b c d W => run_neq_fault a b c d W
  have hf0 : fEq 0 0 0 0 = true := rfl
  have HW := hide (fun W (hB : B ≤ W.heap.size) (hM : MachAt W B (.agg #[.int .i64 m.n, .slice A n c, .slice AF nf cf]) m) (hU : Nums W B (.slice A1 nu cc1) lu) (hO : Nums W B (.slice A2 no cc2) lo) => hWA _ _ _ W hB hM hU hO)
  have HF := hide (fun W (hB : B ≤ W.heap.size) (hM : MachAt W B (.agg #[.int .i64 m.n, .slice A n c, .slice AF nf cf]) m) => hMF _ W hB hM)
  have HU1 := hide (fun W (hB : B ≤ W.heap.size) (hU : Nums W B (.slice A1 nu cc1) lu) => hU1 _ W hB hU)
  clear hU1
  clear hWA hMF
  go_enter Try.func3, Try.ntmps3
  go_wp2_with fail
  refine (weighed_ex _).mono ?_
  rintro e w1 ⟨rfl, hb1⟩
  have bX := (Blk.at_ (w := w) (g := w.heap.size) (t := 25) (cs := #[.int .i64 m.n, .slice A n c, .slice AF nf cf]) rfl).below hb1 (by simp)
  have hbw : Below w.heap.size w w1 := Below.trans (by go_grown) (hb1.mono (by simp))
  clear hb1
  have x0 := bX.cell 0
  have x1 := bX.cell 1
  have x2 := bX.cell 2
  simp at x0 x1 x2
  have xl := bX.lt
  go_wp2_with fail
  refine (HW.out _ (by omega) (HM.out.below hbw hB) (HU.out.below hbw hB) (HO.out.below hbw hB)).mono ?_
  rintro e w2 ⟨rfl, hb2⟩
  have bX := bX.below hb2 bX.lt
  have HG9 := hide bX.lt
  have hbw := hbw.trans (hb2.mono hbw.size)
  have bX := bX.alloc (Obj.cells #[.int .i64 p, .int .i64 q] 29)
  have b9 := Blk.at_ (w := w2) (g := w2.heap.size) (t := 29) (cs := #[.int .i64 p, .int .i64 q]) rfl
  have hbw := hbw.alloc hbw.size (Obj.cells #[.int .i64 p, .int .i64 q] 29)
  clear hb2 x0 x1 x2 xl HW
  have x0 := bX.cell 0
  have x1 := bX.cell 1
  have x2 := bX.cell 2
  simp at x0 x1 x2
  have xl := bX.lt
  have xl2 := b9.lt
  simp at xl xl2
  have hbz := hbw.size
  go_wp2_with fail
  refine (HF.out _ (by omega) (HM.out.below hbw hB)).mono ?_
  rintro e w3 ⟨rfl, hb3⟩
  have bX := bX.below hb3 bX.lt
  have b9 := b9.below hb3 b9.lt
  have HG10 := hide b9.lt
  have hbw := hbw.trans (hb3.mono hbz)
  clear hb3 x0 x1 x2 xl xl2 HF hbz
  have bX := bX.alloc (Obj.cells #[.int .i64 0, .int .i64 0] 29)
  have b9 := b9.alloc (Obj.cells #[.int .i64 0, .int .i64 0] 29)
  have b10 := Blk.at_ (w := w3) (g := w3.heap.size) (t := 29) (cs := #[.int .i64 0, .int .i64 0]) rfl
  have hbw := hbw.alloc hbw.size (Obj.cells #[.int .i64 0, .int .i64 0] 29)

  have y0 := b9.cell 0
  have y1 := b9.cell 1
  simp at y0 y1
  have yl := b9.lt
  have z0 := b10.cell 0
  have z1 := b10.cell 1
  simp at z0 z1
  have zl := b10.lt
  have x0 := bX.cell 0
  have x1 := bX.cell 1
  have x2 := bX.cell 2
  simp at x0 x1 x2
  have xl := bX.lt
  simp at xl yl zl
  have hbz := hbw.size
  have hg10w : w.heap.size ≤ w3.heap.size := by have := HG9.out; have := HG10.out; omega
  have hg910 : w2.heap.size ≠ w3.heap.size := by have := HG10.out; omega
  have hgX9 : w.heap.size < w2.heap.size := by have := HG9.out; omega
  have hgX10 : w.heap.size ≠ w3.heap.size := by omega
  go_wp2_with fail
  refine (HU1.out _ (by omega) (HU.out.below hbw hB)).mono ?_
  rintro e w4 ⟨rfl, hb4⟩
  have bX := bX.below hb4 bX.lt
  have b9 := b9.below hb4 b9.lt
  have b10 := b10.below hb4 b10.lt
  have hbw := hbw.trans (hb4.mono hbz)
  clear hb4 HU1 hbz y0 y1 x0 x1 x2 z0 z1 xl yl zl
  have y0 := b9.cell 0
  have y1 := b9.cell 1
  simp at y0 y1
  have yl := b9.lt
  have z0 := b10.cell 0
  have z1 := b10.cell 1
  simp at z0 z1
  have zl := b10.lt
  have ff0 := b10.frozen 0
  have ff1 := b10.frozen 1
  go_wp2
  exact bodyPost_ret (v := .bool true) (by simp [results, Try.results3, go_sem]) rfl ⟨rfl, (hbw.setCell (by simpa using hg10w) _).setCell (by simpa using hg10w) _⟩
set_option maxRecDepth 100000 in
set_option maxHeartbeats 2000000 in
theorem wlaw_bad3 (v v1 v2 : Value) (m : Mach) (lu lo : List Int) (w : World) (B : Nat) (hB : B ≤ w.heap.size) (h : MachAt w B v m) (h1 : Nums w B v1 lu) (h2 : Nums w B v2 lo) (hv : validate m = (0, 0)) (hu : wordF lu (-2) = (0, 0)) (ho : wordF lo (-3) ≠ (0, 0)) :
    Calls Try.prog 3 #[v, v1, v2] w fun e w' => e = .returned (.bool true) ∧ Below w.heap.size w w' := by
  have e0 : wF m lu lo = wordF lo (-3) := by unfold wF; rw [if_pos hv, if_pos hu]
  have e2 : wW m lu lo = 0 := by unfold wW; rw [if_neg (by rw [e0]; exact ho)]
  have e3 : wB m lu lo = false := by unfold wB; rw [e0, decide_eq_false ho]; rfl
  have hz := fEq0_false ho
  have hs : fEq (wordF lo (-3)).1 (wordF lo (-3)).2 (wordF lo (-3)).1 (wordF lo (-3)).2 = true := by simp [fEq]
  have hWA := fun v v1 v2 W hB hM hU hO => weight_any v v1 v2 m lu lo W B hB hM hU hO
  rw [e0, e2, e3] at hWA
  have hMF := fun v W hB hM => mfault_spec v m W B hB hM
  rw [hv] at hMF
  have hU1 := fun v W hB hU => rword_any v lu (-2) W B hB hU
  rw [hu] at hU1
  have hO1 := fun v W hB hU => rword_any v lo (-3) W B hB hU
  obtain ⟨p, hp⟩ : ∃ p, p = (wordF lo (-3)).1 := ⟨_, rfl⟩
  obtain ⟨q, hq⟩ : ∃ p, p = (wordF lo (-3)).2 := ⟨_, rfl⟩
  rw [← hp, ← hq] at hWA hO1 hz hs
  clear e0 e2 e3 hu ho hp hq hv
  have HM := hide h
  have HU := hide h1
  have HO := hide h2
  obtain ⟨A, AF, n, c, nf, cf, rfl, _⟩ := h
  obtain ⟨A1, nu, cc1, rfl, _⟩ := h1
  obtain ⟨A2, no, cc2, rfl, _⟩ := h2
  have heq := fun a b c d W => run_eql_fault a b c d W
  have hne := fun a b c d W => run_neq_fault a b c d W
  have hf0 : fEq 0 0 0 0 = true := rfl
  have HW := hide (fun W (hB : B ≤ W.heap.size) (hM : MachAt W B (.agg #[.int .i64 m.n, .slice A n c, .slice AF nf cf]) m) (hU : Nums W B (.slice A1 nu cc1) lu) (hO : Nums W B (.slice A2 no cc2) lo) => hWA _ _ _ W hB hM hU hO)
  have HF := hide (fun W (hB : B ≤ W.heap.size) (hM : MachAt W B (.agg #[.int .i64 m.n, .slice A n c, .slice AF nf cf]) m) => hMF _ W hB hM)
  have HU1 := hide (fun W (hB : B ≤ W.heap.size) (hU : Nums W B (.slice A1 nu cc1) lu) => hU1 _ W hB hU)
  clear hU1
  have HO1 := hide (fun W (hB : B ≤ W.heap.size) (hU : Nums W B (.slice A2 no cc2) lo) => hO1 _ W hB hU)
  clear hO1
  clear hWA hMF
  go_enter Try.func3, Try.ntmps3
  go_wp2_with fail
  refine (weighed_ex _).mono ?_
  rintro e w1 ⟨rfl, hb1⟩
  have bX := (Blk.at_ (w := w) (g := w.heap.size) (t := 25) (cs := #[.int .i64 m.n, .slice A n c, .slice AF nf cf]) rfl).below hb1 (by simp)
  have hbw : Below w.heap.size w w1 := Below.trans (by go_grown) (hb1.mono (by simp))
  clear hb1
  have x0 := bX.cell 0
  have x1 := bX.cell 1
  have x2 := bX.cell 2
  simp at x0 x1 x2
  have xl := bX.lt
  go_wp2_with fail
  refine (HW.out _ (by omega) (HM.out.below hbw hB) (HU.out.below hbw hB) (HO.out.below hbw hB)).mono ?_
  rintro e w2 ⟨rfl, hb2⟩
  have bX := bX.below hb2 bX.lt
  have HG9 := hide bX.lt
  have hbw := hbw.trans (hb2.mono hbw.size)
  have bX := bX.alloc (Obj.cells #[.int .i64 p, .int .i64 q] 29)
  have b9 := Blk.at_ (w := w2) (g := w2.heap.size) (t := 29) (cs := #[.int .i64 p, .int .i64 q]) rfl
  have hbw := hbw.alloc hbw.size (Obj.cells #[.int .i64 p, .int .i64 q] 29)
  clear hb2 x0 x1 x2 xl HW
  have x0 := bX.cell 0
  have x1 := bX.cell 1
  have x2 := bX.cell 2
  simp at x0 x1 x2
  have xl := bX.lt
  have xl2 := b9.lt
  simp at xl xl2
  have hbz := hbw.size
  go_wp2_with fail
  refine (HF.out _ (by omega) (HM.out.below hbw hB)).mono ?_
  rintro e w3 ⟨rfl, hb3⟩
  have bX := bX.below hb3 bX.lt
  have b9 := b9.below hb3 b9.lt
  have HG10 := hide b9.lt
  have hbw := hbw.trans (hb3.mono hbz)
  clear hb3 x0 x1 x2 xl xl2 HF hbz
  have bX := bX.alloc (Obj.cells #[.int .i64 0, .int .i64 0] 29)
  have b9 := b9.alloc (Obj.cells #[.int .i64 0, .int .i64 0] 29)
  have b10 := Blk.at_ (w := w3) (g := w3.heap.size) (t := 29) (cs := #[.int .i64 0, .int .i64 0]) rfl
  have hbw := hbw.alloc hbw.size (Obj.cells #[.int .i64 0, .int .i64 0] 29)

  have y0 := b9.cell 0
  have y1 := b9.cell 1
  simp at y0 y1
  have yl := b9.lt
  have z0 := b10.cell 0
  have z1 := b10.cell 1
  simp at z0 z1
  have zl := b10.lt
  have x0 := bX.cell 0
  have x1 := bX.cell 1
  have x2 := bX.cell 2
  simp at x0 x1 x2
  have xl := bX.lt
  simp at xl yl zl
  have hbz := hbw.size
  have hg10w : w.heap.size ≤ w3.heap.size := by have := HG9.out; have := HG10.out; omega
  have hg910 : w2.heap.size ≠ w3.heap.size := by have := HG10.out; omega
  have hgX9 : w.heap.size < w2.heap.size := by have := HG9.out; omega
  have hgX10 : w.heap.size ≠ w3.heap.size := by omega
  go_wp2_with fail
  refine (HU1.out _ (by omega) (HU.out.below hbw hB)).mono ?_
  rintro e w4 ⟨rfl, hb4⟩
  have bX := bX.below hb4 bX.lt
  have b9 := b9.below hb4 b9.lt
  have b10 := b10.below hb4 b10.lt
  have hbw := hbw.trans (hb4.mono hbz)
  clear hb4 HU1 hbz y0 y1 x0 x1 x2 z0 z1 xl yl zl
  have y0 := b9.cell 0
  have y1 := b9.cell 1
  simp at y0 y1
  have yl := b9.lt
  have z0 := b10.cell 0
  have z1 := b10.cell 1
  simp at z0 z1
  have zl := b10.lt
  have ff0 := b10.frozen 0
  have ff1 := b10.frozen 1
  go_upto_region 7 with fail
  generalize hW5 : World.setCell _ _ _ = W5
  have bX5 : Blk W5 w.heap.size 25 #[.int .i64 m.n, .slice A n c, .slice AF nf cf] := by rw [← hW5]; exact (bX.far (by simpa using hgX10) _).far (by simpa using hgX10) _
  have b95 : Blk W5 w2.heap.size 29 #[.int .i64 p, .int .i64 q] := by rw [← hW5]; exact (b9.far (by simpa using hg910) _).far (by simpa using hg910) _
  have b105 : Blk W5 w3.heap.size 29 #[.int .i64 0, .int .i64 0] := by rw [← hW5]; exact ((b10.set_ 0 (.int .i64 0)).set_ 1 (.int .i64 0))
  have hbw5 : Below w.heap.size w W5 := by rw [← hW5]; exact (hbw.setCell (by simpa using hg10w) _).setCell (by simpa using hg10w) _
  clear hW5 bX b9 b10 hbw ff0 ff1 y0 y1 z0 z1 yl zl
  have hbz5 := hbw5.size
  have y0 := b95.cell 0
  have y1 := b95.cell 1
  simp at y0 y1
  have yl := b95.lt
  have z0 := b105.cell 0
  have z1 := b105.cell 1
  simp at z0 z1
  have zl := b105.lt
  have x0 := bX5.cell 0
  have x1 := bX5.cell 1
  have x2 := bX5.cell 2
  simp at x0 x1 x2
  have xl := bX5.lt
  go_wp2_with fail
  refine (HO1.out _ (by omega) (HO.out.below hbw5 hB)).mono ?_
  rintro e w6 ⟨rfl, hb6⟩
  have bX := bX5.below hb6 bX5.lt
  have b9 := b95.below hb6 b95.lt
  have b10 := b105.below hb6 b105.lt
  have hbw := hbw5.trans (hb6.mono hbz5)
  clear hb6 HO1 hbz5 y0 y1 z0 z1 x0 x1 x2 xl yl zl bX5 b95 b105 hbw5
  have y0 := b9.cell 0
  have y1 := b9.cell 1
  simp at y0 y1
  have yl := b9.lt
  have z0 := b10.cell 0
  have z1 := b10.cell 1
  simp at z0 z1
  have zl := b10.lt
  have ff0 := b10.frozen 0
  have ff1 := b10.frozen 1
  go_wp2
  exact bodyPost_ret (v := .bool true) (by simp [results, Try.results3, go_sem]) rfl ⟨rfl, (hbw.setCell (by simpa using hg10w) _).setCell (by simpa using hg10w) _⟩
set_option maxRecDepth 100000 in
set_option maxHeartbeats 2000000 in
theorem wlaw_none (v v1 v2 : Value) (m : Mach) (lu lo : List Int) (w : World) (B : Nat) (hB : B ≤ w.heap.size) (h : MachAt w B v m) (h1 : Nums w B v1 lu) (h2 : Nums w B v2 lo) (hv : validate m = (0, 0)) (hu : wordF lu (-2) = (0, 0)) (ho : wordF lo (-3) = (0, 0)) (hw : wgt m lu lo = -1) :
    Calls Try.prog 3 #[v, v1, v2] w fun e w' => e = .returned (.bool true) ∧ Below w.heap.size w w' := by
  have e0 : wF m lu lo = (0, 0) := by unfold wF; rw [if_pos hv, if_pos hu]; exact ho
  have e2 : wW m lu lo = 0 := by unfold wW; rw [if_pos e0, hw]; omega
  have e3 : wB m lu lo = false := by unfold wB; rw [e0, hw]; simp
  have hWA := fun v v1 v2 W hB hM hU hO => weight_any v v1 v2 m lu lo W B hB hM hU hO
  rw [e0, e2, e3] at hWA
  have hMF := fun v W hB hM => mfault_spec v m W B hB hM
  rw [hv] at hMF
  have hU1 := fun v W hB hU => rword_any v lu (-2) W B hB hU
  have hO1 := fun v W hB hU => rword_any v lo (-3) W B hB hU
  have hWE := fun v v1 v2 W hB hM hU hO => weigh_any v v1 v2 m lu lo W B hB hM (valid_of hv) (wordF_zero (ix := -2) (by rw [hu])).2.1 (wordF_zero (ix := -3) (by rw [ho])).2.1 hU hO
  rw [hu] at hU1
  rw [ho] at hO1
  rw [hw] at hWE
  clear e0 e2 e3 hu ho hv hw
  have HM := hide h
  have HU := hide h1
  have HO := hide h2
  obtain ⟨A, AF, n, c, nf, cf, rfl, _⟩ := h
  obtain ⟨A1, nu, cc1, rfl, _⟩ := h1
  obtain ⟨A2, no, cc2, rfl, _⟩ := h2
  have heq := fun a b c d W => run_eql_fault a b c d W
  have hne := fun a b c d W => run_neq_fault a b c d W
  have hf0 : fEq 0 0 0 0 = true := rfl
  have HW := hide (fun W (hB : B ≤ W.heap.size) (hM : MachAt W B (.agg #[.int .i64 m.n, .slice A n c, .slice AF nf cf]) m) (hU : Nums W B (.slice A1 nu cc1) lu) (hO : Nums W B (.slice A2 no cc2) lo) => hWA _ _ _ W hB hM hU hO)
  have HF := hide (fun W (hB : B ≤ W.heap.size) (hM : MachAt W B (.agg #[.int .i64 m.n, .slice A n c, .slice AF nf cf]) m) => hMF _ W hB hM)
  have HU1 := hide (fun W (hB : B ≤ W.heap.size) (hU : Nums W B (.slice A1 nu cc1) lu) => hU1 _ W hB hU)
  clear hU1
  have HO1 := hide (fun W (hB : B ≤ W.heap.size) (hU : Nums W B (.slice A2 no cc2) lo) => hO1 _ W hB hU)
  clear hO1
  have HWE := hide (fun W (hB : B ≤ W.heap.size) (hM : MachAt W B (.agg #[.int .i64 m.n, .slice A n c, .slice AF nf cf]) m) (hU : Nums W B (.slice A1 nu cc1) lu) (hO : Nums W B (.slice A2 no cc2) lo) => hWE _ _ _ W hB hM hU hO)
  clear hWE
  clear hWA hMF
  go_enter Try.func3, Try.ntmps3
  go_wp2_with fail
  refine (weighed_ex _).mono ?_
  rintro e w1 ⟨rfl, hb1⟩
  have bX := (Blk.at_ (w := w) (g := w.heap.size) (t := 25) (cs := #[.int .i64 m.n, .slice A n c, .slice AF nf cf]) rfl).below hb1 (by simp)
  have hbw : Below w.heap.size w w1 := Below.trans (by go_grown) (hb1.mono (by simp))
  clear hb1
  have x0 := bX.cell 0
  have x1 := bX.cell 1
  have x2 := bX.cell 2
  simp at x0 x1 x2
  have xl := bX.lt
  go_wp2_with fail
  refine (HW.out _ (by omega) (HM.out.below hbw hB) (HU.out.below hbw hB) (HO.out.below hbw hB)).mono ?_
  rintro e w2 ⟨rfl, hb2⟩
  have bX := bX.below hb2 bX.lt
  have HG9 := hide bX.lt
  have hbw := hbw.trans (hb2.mono hbw.size)
  have bX := bX.alloc (Obj.cells #[.int .i64 0, .int .i64 0] 29)
  have b9 := Blk.at_ (w := w2) (g := w2.heap.size) (t := 29) (cs := #[.int .i64 0, .int .i64 0]) rfl
  have hbw := hbw.alloc hbw.size (Obj.cells #[.int .i64 0, .int .i64 0] 29)
  clear hb2 x0 x1 x2 xl HW
  have x0 := bX.cell 0
  have x1 := bX.cell 1
  have x2 := bX.cell 2
  simp at x0 x1 x2
  have xl := bX.lt
  have xl2 := b9.lt
  simp at xl xl2
  have hbz := hbw.size
  go_wp2_with fail
  refine (HF.out _ (by omega) (HM.out.below hbw hB)).mono ?_
  rintro e w3 ⟨rfl, hb3⟩
  have bX := bX.below hb3 bX.lt
  have b9 := b9.below hb3 b9.lt
  have HG10 := hide b9.lt
  have hbw := hbw.trans (hb3.mono hbz)
  clear hb3 x0 x1 x2 xl xl2 HF hbz
  have bX := bX.alloc (Obj.cells #[.int .i64 0, .int .i64 0] 29)
  have b9 := b9.alloc (Obj.cells #[.int .i64 0, .int .i64 0] 29)
  have b10 := Blk.at_ (w := w3) (g := w3.heap.size) (t := 29) (cs := #[.int .i64 0, .int .i64 0]) rfl
  have hbw := hbw.alloc hbw.size (Obj.cells #[.int .i64 0, .int .i64 0] 29)

  have y0 := b9.cell 0
  have y1 := b9.cell 1
  simp at y0 y1
  have yl := b9.lt
  have z0 := b10.cell 0
  have z1 := b10.cell 1
  simp at z0 z1
  have zl := b10.lt
  have x0 := bX.cell 0
  have x1 := bX.cell 1
  have x2 := bX.cell 2
  simp at x0 x1 x2
  have xl := bX.lt
  simp at xl yl zl
  have hbz := hbw.size
  have hg10w : w.heap.size ≤ w3.heap.size := by have := HG9.out; have := HG10.out; omega
  have hg910 : w2.heap.size ≠ w3.heap.size := by have := HG10.out; omega
  have hgX9 : w.heap.size < w2.heap.size := by have := HG9.out; omega
  have hgX10 : w.heap.size ≠ w3.heap.size := by omega
  go_wp2_with fail
  refine (HU1.out _ (by omega) (HU.out.below hbw hB)).mono ?_
  rintro e w4 ⟨rfl, hb4⟩
  have bX := bX.below hb4 bX.lt
  have b9 := b9.below hb4 b9.lt
  have b10 := b10.below hb4 b10.lt
  have hbw := hbw.trans (hb4.mono hbz)
  clear hb4 HU1 hbz y0 y1 x0 x1 x2 z0 z1 xl yl zl
  have y0 := b9.cell 0
  have y1 := b9.cell 1
  simp at y0 y1
  have yl := b9.lt
  have z0 := b10.cell 0
  have z1 := b10.cell 1
  simp at z0 z1
  have zl := b10.lt
  have ff0 := b10.frozen 0
  have ff1 := b10.frozen 1
  go_upto_region 7 with fail
  generalize hW5 : World.setCell _ _ _ = W5
  have bX5 : Blk W5 w.heap.size 25 #[.int .i64 m.n, .slice A n c, .slice AF nf cf] := by rw [← hW5]; exact (bX.far (by simpa using hgX10) _).far (by simpa using hgX10) _
  have b95 : Blk W5 w2.heap.size 29 #[.int .i64 0, .int .i64 0] := by rw [← hW5]; exact (b9.far (by simpa using hg910) _).far (by simpa using hg910) _
  have b105 : Blk W5 w3.heap.size 29 #[.int .i64 0, .int .i64 0] := by rw [← hW5]; exact ((b10.set_ 0 (.int .i64 0)).set_ 1 (.int .i64 0))
  have hbw5 : Below w.heap.size w W5 := by rw [← hW5]; exact (hbw.setCell (by simpa using hg10w) _).setCell (by simpa using hg10w) _
  clear hW5 bX b9 b10 hbw ff0 ff1 y0 y1 z0 z1 yl zl
  have hbz5 := hbw5.size
  have y0 := b95.cell 0
  have y1 := b95.cell 1
  simp at y0 y1
  have yl := b95.lt
  have z0 := b105.cell 0
  have z1 := b105.cell 1
  simp at z0 z1
  have zl := b105.lt
  have x0 := bX5.cell 0
  have x1 := bX5.cell 1
  have x2 := bX5.cell 2
  simp at x0 x1 x2
  have xl := bX5.lt
  go_wp2_with fail
  refine (HO1.out _ (by omega) (HO.out.below hbw5 hB)).mono ?_
  rintro e w6 ⟨rfl, hb6⟩
  have bX := bX5.below hb6 bX5.lt
  have b9 := b95.below hb6 b95.lt
  have b10 := b105.below hb6 b105.lt
  have hbw := hbw5.trans (hb6.mono hbz5)
  clear hb6 HO1 hbz5 y0 y1 z0 z1 x0 x1 x2 xl yl zl bX5 b95 b105 hbw5
  have y0 := b9.cell 0
  have y1 := b9.cell 1
  simp at y0 y1
  have yl := b9.lt
  have z0 := b10.cell 0
  have z1 := b10.cell 1
  simp at z0 z1
  have zl := b10.lt
  have x0 := bX.cell 0
  have x1 := bX.cell 1
  have x2 := bX.cell 2
  simp at x0 x1 x2
  have xl := bX.lt
  have ff0 := b10.frozen 0
  have ff1 := b10.frozen 1
  go_upto_region 9 with fail
  generalize hW5 : World.setCell _ _ _ = W7
  have bX7 : Blk W7 w.heap.size 25 #[.int .i64 m.n, .slice A n c, .slice AF nf cf] := by rw [← hW5]; exact (bX.far (by simpa using hgX10) _).far (by simpa using hgX10) _
  have b97 : Blk W7 w2.heap.size 29 #[.int .i64 0, .int .i64 0] := by rw [← hW5]; exact (b9.far (by simpa using hg910) _).far (by simpa using hg910) _
  have b107 : Blk W7 w3.heap.size 29 #[.int .i64 0, .int .i64 0] := by rw [← hW5]; exact ((b10.set_ 0 (.int .i64 0)).set_ 1 (.int .i64 0))
  have hbw7 : Below w.heap.size w W7 := by rw [← hW5]; exact (hbw.setCell (by simpa using hg10w) _).setCell (by simpa using hg10w) _
  clear hW5 bX b9 b10 hbw ff0 ff1 y0 y1 z0 z1 x0 x1 x2 xl yl zl
  have hbz7 := hbw7.size
  have y0 := b97.cell 0
  have y1 := b97.cell 1
  simp at y0 y1
  have yl := b97.lt
  have z0 := b107.cell 0
  have z1 := b107.cell 1
  simp at z0 z1
  have zl := b107.lt
  have x0 := bX7.cell 0
  have x1 := bX7.cell 1
  have x2 := bX7.cell 2
  simp at x0 x1 x2
  have xl := bX7.lt
  go_wp2_with fail
  refine (HWE.out _ (by omega) (HM.out.below hbw7 hB) (HU.out.below hbw7 hB) (HO.out.below hbw7 hB)).mono ?_
  rintro e w8 ⟨rfl, hb8⟩
  have b9 := b97.below hb8 b97.lt
  have hbw := hbw7.trans (hb8.mono hbz7)
  clear hb8 HWE hbz7 y0 y1 z0 z1 x0 x1 x2 xl yl zl bX7 b97 b107 hbw7
  have y0 := b9.cell 0
  have y1 := b9.cell 1
  simp at y0 y1
  have yl := b9.lt
  go_wp21
  exact bodyPost_ret (v := .bool true) (by simp [results, Try.results3, go_sem]) rfl ⟨rfl, hbw⟩
set_option maxRecDepth 100000 in
set_option maxHeartbeats 2000000 in
theorem wlaw_some (v v1 v2 : Value) (m : Mach) (lu lo : List Int) (w : World) (B : Nat) (hB : B ≤ w.heap.size) (h : MachAt w B v m) (h1 : Nums w B v1 lu) (h2 : Nums w B v2 lo) (hv : validate m = (0, 0)) (hu : wordF lu (-2) = (0, 0)) (ho : wordF lo (-3) = (0, 0)) (z : Nat) (hw : wgt m lu lo = (z : Int)) :
    Calls Try.prog 3 #[v, v1, v2] w fun e w' => e = .returned (.bool true) ∧ Below w.heap.size w w' := by
  have e0 : wF m lu lo = (0, 0) := by unfold wF; rw [if_pos hv, if_pos hu]; exact ho
  have e2 : wW m lu lo = (z : Int) := by unfold wW; rw [if_pos e0, hw]; omega
  have e3 : wB m lu lo = true := by unfold wB; rw [e0, hw]; simp
  have hWA := fun v v1 v2 W hB hM hU hO => weight_any v v1 v2 m lu lo W B hB hM hU hO
  rw [e0, e2, e3] at hWA
  have hMF := fun v W hB hM => mfault_spec v m W B hB hM
  rw [hv] at hMF
  have hU1 := fun v W hB hU => rword_any v lu (-2) W B hB hU
  have hO1 := fun v W hB hU => rword_any v lo (-3) W B hB hU
  have hWE := fun v v1 v2 W hB hM hU hO => weigh_any v v1 v2 m lu lo W B hB hM (valid_of hv) (wordF_zero (ix := -2) (by rw [hu])).2.1 (wordF_zero (ix := -3) (by rw [ho])).2.1 hU hO
  rw [hu] at hU1
  rw [ho] at hO1
  rw [hw] at hWE
  clear e0 e2 e3 hu ho hv hw
  have HM := hide h
  have HU := hide h1
  have HO := hide h2
  obtain ⟨A, AF, n, c, nf, cf, rfl, _⟩ := h
  obtain ⟨A1, nu, cc1, rfl, _⟩ := h1
  obtain ⟨A2, no, cc2, rfl, _⟩ := h2
  have heq := fun a b c d W => run_eql_fault a b c d W
  have hne := fun a b c d W => run_neq_fault a b c d W
  have hf0 : fEq 0 0 0 0 = true := rfl
  have HW := hide (fun W (hB : B ≤ W.heap.size) (hM : MachAt W B (.agg #[.int .i64 m.n, .slice A n c, .slice AF nf cf]) m) (hU : Nums W B (.slice A1 nu cc1) lu) (hO : Nums W B (.slice A2 no cc2) lo) => hWA _ _ _ W hB hM hU hO)
  have HF := hide (fun W (hB : B ≤ W.heap.size) (hM : MachAt W B (.agg #[.int .i64 m.n, .slice A n c, .slice AF nf cf]) m) => hMF _ W hB hM)
  have HU1 := hide (fun W (hB : B ≤ W.heap.size) (hU : Nums W B (.slice A1 nu cc1) lu) => hU1 _ W hB hU)
  clear hU1
  have HO1 := hide (fun W (hB : B ≤ W.heap.size) (hU : Nums W B (.slice A2 no cc2) lo) => hO1 _ W hB hU)
  clear hO1
  have HWE := hide (fun W (hB : B ≤ W.heap.size) (hM : MachAt W B (.agg #[.int .i64 m.n, .slice A n c, .slice AF nf cf]) m) (hU : Nums W B (.slice A1 nu cc1) lu) (hO : Nums W B (.slice A2 no cc2) lo) => hWE _ _ _ W hB hM hU hO)
  clear hWE
  clear hWA hMF
  go_enter Try.func3, Try.ntmps3
  go_wp2_with fail
  refine (weighed_ex _).mono ?_
  rintro e w1 ⟨rfl, hb1⟩
  have bX := (Blk.at_ (w := w) (g := w.heap.size) (t := 25) (cs := #[.int .i64 m.n, .slice A n c, .slice AF nf cf]) rfl).below hb1 (by simp)
  have hbw : Below w.heap.size w w1 := Below.trans (by go_grown) (hb1.mono (by simp))
  clear hb1
  have x0 := bX.cell 0
  have x1 := bX.cell 1
  have x2 := bX.cell 2
  simp at x0 x1 x2
  have xl := bX.lt
  go_wp2_with fail
  refine (HW.out _ (by omega) (HM.out.below hbw hB) (HU.out.below hbw hB) (HO.out.below hbw hB)).mono ?_
  rintro e w2 ⟨rfl, hb2⟩
  have bX := bX.below hb2 bX.lt
  have HG9 := hide bX.lt
  have hbw := hbw.trans (hb2.mono hbw.size)
  have bX := bX.alloc (Obj.cells #[.int .i64 0, .int .i64 0] 29)
  have b9 := Blk.at_ (w := w2) (g := w2.heap.size) (t := 29) (cs := #[.int .i64 0, .int .i64 0]) rfl
  have hbw := hbw.alloc hbw.size (Obj.cells #[.int .i64 0, .int .i64 0] 29)
  clear hb2 x0 x1 x2 xl HW
  have x0 := bX.cell 0
  have x1 := bX.cell 1
  have x2 := bX.cell 2
  simp at x0 x1 x2
  have xl := bX.lt
  have xl2 := b9.lt
  simp at xl xl2
  have hbz := hbw.size
  go_wp2_with fail
  refine (HF.out _ (by omega) (HM.out.below hbw hB)).mono ?_
  rintro e w3 ⟨rfl, hb3⟩
  have bX := bX.below hb3 bX.lt
  have b9 := b9.below hb3 b9.lt
  have HG10 := hide b9.lt
  have hbw := hbw.trans (hb3.mono hbz)
  clear hb3 x0 x1 x2 xl xl2 HF hbz
  have bX := bX.alloc (Obj.cells #[.int .i64 0, .int .i64 0] 29)
  have b9 := b9.alloc (Obj.cells #[.int .i64 0, .int .i64 0] 29)
  have b10 := Blk.at_ (w := w3) (g := w3.heap.size) (t := 29) (cs := #[.int .i64 0, .int .i64 0]) rfl
  have hbw := hbw.alloc hbw.size (Obj.cells #[.int .i64 0, .int .i64 0] 29)

  have y0 := b9.cell 0
  have y1 := b9.cell 1
  simp at y0 y1
  have yl := b9.lt
  have z0 := b10.cell 0
  have z1 := b10.cell 1
  simp at z0 z1
  have zl := b10.lt
  have x0 := bX.cell 0
  have x1 := bX.cell 1
  have x2 := bX.cell 2
  simp at x0 x1 x2
  have xl := bX.lt
  simp at xl yl zl
  have hbz := hbw.size
  have hg10w : w.heap.size ≤ w3.heap.size := by have := HG9.out; have := HG10.out; omega
  have hg910 : w2.heap.size ≠ w3.heap.size := by have := HG10.out; omega
  have hgX9 : w.heap.size < w2.heap.size := by have := HG9.out; omega
  have hgX10 : w.heap.size ≠ w3.heap.size := by omega
  go_wp2_with fail
  refine (HU1.out _ (by omega) (HU.out.below hbw hB)).mono ?_
  rintro e w4 ⟨rfl, hb4⟩
  have bX := bX.below hb4 bX.lt
  have b9 := b9.below hb4 b9.lt
  have b10 := b10.below hb4 b10.lt
  have hbw := hbw.trans (hb4.mono hbz)
  clear hb4 HU1 hbz y0 y1 x0 x1 x2 z0 z1 xl yl zl
  have y0 := b9.cell 0
  have y1 := b9.cell 1
  simp at y0 y1
  have yl := b9.lt
  have z0 := b10.cell 0
  have z1 := b10.cell 1
  simp at z0 z1
  have zl := b10.lt
  have ff0 := b10.frozen 0
  have ff1 := b10.frozen 1
  go_upto_region 7 with fail
  generalize hW5 : World.setCell _ _ _ = W5
  have bX5 : Blk W5 w.heap.size 25 #[.int .i64 m.n, .slice A n c, .slice AF nf cf] := by rw [← hW5]; exact (bX.far (by simpa using hgX10) _).far (by simpa using hgX10) _
  have b95 : Blk W5 w2.heap.size 29 #[.int .i64 0, .int .i64 0] := by rw [← hW5]; exact (b9.far (by simpa using hg910) _).far (by simpa using hg910) _
  have b105 : Blk W5 w3.heap.size 29 #[.int .i64 0, .int .i64 0] := by rw [← hW5]; exact ((b10.set_ 0 (.int .i64 0)).set_ 1 (.int .i64 0))
  have hbw5 : Below w.heap.size w W5 := by rw [← hW5]; exact (hbw.setCell (by simpa using hg10w) _).setCell (by simpa using hg10w) _
  clear hW5 bX b9 b10 hbw ff0 ff1 y0 y1 z0 z1 yl zl
  have hbz5 := hbw5.size
  have y0 := b95.cell 0
  have y1 := b95.cell 1
  simp at y0 y1
  have yl := b95.lt
  have z0 := b105.cell 0
  have z1 := b105.cell 1
  simp at z0 z1
  have zl := b105.lt
  have x0 := bX5.cell 0
  have x1 := bX5.cell 1
  have x2 := bX5.cell 2
  simp at x0 x1 x2
  have xl := bX5.lt
  go_wp2_with fail
  refine (HO1.out _ (by omega) (HO.out.below hbw5 hB)).mono ?_
  rintro e w6 ⟨rfl, hb6⟩
  have bX := bX5.below hb6 bX5.lt
  have b9 := b95.below hb6 b95.lt
  have b10 := b105.below hb6 b105.lt
  have hbw := hbw5.trans (hb6.mono hbz5)
  clear hb6 HO1 hbz5 y0 y1 z0 z1 x0 x1 x2 xl yl zl bX5 b95 b105 hbw5
  have y0 := b9.cell 0
  have y1 := b9.cell 1
  simp at y0 y1
  have yl := b9.lt
  have z0 := b10.cell 0
  have z1 := b10.cell 1
  simp at z0 z1
  have zl := b10.lt
  have x0 := bX.cell 0
  have x1 := bX.cell 1
  have x2 := bX.cell 2
  simp at x0 x1 x2
  have xl := bX.lt
  have ff0 := b10.frozen 0
  have ff1 := b10.frozen 1
  go_upto_region 9 with fail
  generalize hW5 : World.setCell _ _ _ = W7
  have bX7 : Blk W7 w.heap.size 25 #[.int .i64 m.n, .slice A n c, .slice AF nf cf] := by rw [← hW5]; exact (bX.far (by simpa using hgX10) _).far (by simpa using hgX10) _
  have b97 : Blk W7 w2.heap.size 29 #[.int .i64 0, .int .i64 0] := by rw [← hW5]; exact (b9.far (by simpa using hg910) _).far (by simpa using hg910) _
  have b107 : Blk W7 w3.heap.size 29 #[.int .i64 0, .int .i64 0] := by rw [← hW5]; exact ((b10.set_ 0 (.int .i64 0)).set_ 1 (.int .i64 0))
  have hbw7 : Below w.heap.size w W7 := by rw [← hW5]; exact (hbw.setCell (by simpa using hg10w) _).setCell (by simpa using hg10w) _
  clear hW5 bX b9 b10 hbw ff0 ff1 y0 y1 z0 z1 x0 x1 x2 xl yl zl
  have hbz7 := hbw7.size
  have y0 := b97.cell 0
  have y1 := b97.cell 1
  simp at y0 y1
  have yl := b97.lt
  have z0 := b107.cell 0
  have z1 := b107.cell 1
  simp at z0 z1
  have zl := b107.lt
  have x0 := bX7.cell 0
  have x1 := bX7.cell 1
  have x2 := bX7.cell 2
  simp at x0 x1 x2
  have xl := bX7.lt
  go_wp2_with fail
  refine (HWE.out _ (by omega) (HM.out.below hbw7 hB) (HU.out.below hbw7 hB) (HO.out.below hbw7 hB)).mono ?_
  rintro e w8 ⟨rfl, hb8⟩
  have b9 := b97.below hb8 b97.lt
  have hbw := hbw7.trans (hb8.mono hbz7)
  clear hb8 HWE hbz7 y0 y1 z0 z1 x0 x1 x2 xl yl zl bX7 b97 b107 hbw7
  have y0 := b9.cell 0
  have y1 := b9.cell 1
  simp at y0 y1
  have yl := b9.lt
  have t1 : ¬ ((0 : Int) > (z : Int)) := by omega
  have t2 : decide ((z : Int) ≥ 0) = true := by simp
  go_wp21
  exact bodyPost_ret (v := .bool true) (by simp [results, Try.results3, go_sem]) rfl ⟨rfl, hbw⟩
/-- The law, at any arguments. -/
theorem wlaw_any (v v1 v2 : Value) (m : Mach) (lu lo : List Int) (w : World) (B : Nat) (hB : B ≤ w.heap.size) (h : MachAt w B v m) (h1 : Nums w B v1 lu) (h2 : Nums w B v2 lo) :
    Calls Try.prog 3 #[v, v1, v2] w fun e w' => e = .returned (.bool true) ∧ Below w.heap.size w w' := by
  by_cases hv : validate m = (0, 0)
  · by_cases hu : wordF lu (-2) = (0, 0)
    · by_cases ho : wordF lo (-3) = (0, 0)
      · have hl := wgt_least m lu lo
        rcases hl with ⟨hw, _⟩ | ⟨z, hw, _⟩
        · exact wlaw_none v v1 v2 m lu lo w B hB h h1 h2 hv hu ho hw
        · exact wlaw_some v v1 v2 m lu lo w B hB h h1 h2 hv hu ho z hw
      · exact wlaw_bad3 v v1 v2 m lu lo w B hB h h1 h2 hv hu ho
    · exact wlaw_bad2 v v1 v2 m lu lo w B hB h h1 h2 hv hu
  · exact wlaw_bad1 v v1 v2 m lu lo w B hB h h1 h2 hv
end Go.Proofs.Ytbedbpbgdmbipaa
