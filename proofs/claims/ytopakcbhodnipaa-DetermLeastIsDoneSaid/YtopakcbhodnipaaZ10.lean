/- The texts Trim of this proof. No conditions. -/
import Derived.Test.YtopakcbhodnipaaZ8
/- Text Trim. -/
namespace Go.Proofs.Ytopakcbhodnipaa
open Go.RowKit Gm
set_option linter.unusedSimpArgs false
theorem own_set5 {w : World} {base sz n : Nat} {e : TypeId} {v : Value} {xs : List Value} (h : w.ownsRow base e sz v n xs) {p1 p2 p3 p4 p5 : Addr} (h1 : p1.block < base) (h2 : p2.block < base) (h3 : p3.block < base) (h4 : p4.block < base) (h5 : p5.block < base) (u1 u2 u3 u4 u5 : Value) :
    (((((w.setCell p1 u1).setCell p2 u2).setCell p3 u3).setCell p4 u4).setCell p5 u5).ownsRow base e sz v n xs :=
  ownsRow_setCell_below (ownsRow_setCell_below (ownsRow_setCell_below (ownsRow_setCell_below (ownsRow_setCell_below h h1 u1) h2 u2) h3 u3) h4 u4) h5 u5
set_option maxRecDepth 100000 in
set_option maxHeartbeats 4000000 in
theorem trim_good (v : Value) (m : Mach) (w : World) (B : Nat) (hB : B ≤ w.heap.size) (h : MachAt w B v m) (hv : validate m = (0, 0)) (hn0 : m.n ≠ 0) :
    Calls Try.prog 36 #[v] w fun e w' => ∃ v1, e = .returned (.tuple #[v1, .agg #[.int .i64 0, .int .i64 0]]) ∧ MachNew w.heap.size w' v1 (trimOf m) ∧ Below w.heap.size w w' := by
  have h0 := h
  obtain ⟨A, AF, n, c, nf, cf, rfl, HN, HF, hnc, hnfc, hnb, hnfb, hA, hF⟩ := h
  have H0 := hide h0
  have val := valid_of hv
  have hval := val.finLen
  rw [HF.out] at hval
  have hlen := val.len
  rw [HN.out] at hlen
  obtain ⟨S, hS⟩ : ∃ S : Nat, m.n = (S : Int) := ⟨m.n.toNat, by have := val.n0; omega⟩
  have hS4 : S ≤ 400 := by have := val.n4; omega
  have VAL := hide val
  have HV := hide hv
  have HS := hide hS
  clear h0 hnb hnfb val hv
  rw [hS]
  rw [hS] at H0
  clear hS
  obtain ⟨i0, hi0, hz0, hz1, hz2⟩ := info_parts int_info
  obtain ⟨ia, ha0, ha1, ha2, ha3⟩ := info_parts arc_info
  obtain ⟨iF, hF0, hF1, hF2, hF3⟩ := info_parts fin_info
  have he := fun a b c d W => run_neq_fault a b c d W
  have hf : fEq 0 0 0 0 = true := rfl
  go_enter Try.func36, Try.ntmps36
  go_wp2_with fail
  refine (validate_ok _ m _ B (by simp; omega) ((H0.out.below (B' := w.heap.size) (by go_grown) hB)) HV.out).mono ?_
  rintro e w1 ⟨rfl, hb1⟩
  have hs1 := hb1.size
  simp at hs1
  have bx := (((Blk.at_ (w := w) (g := w.heap.size) (t := 28) (cs := #[.int .i64 (S : Int), .slice A n c, .slice AF nf cf]) rfl).alloc (Obj.cells #[.int .i64 0, .slice none 0 0, .slice none 0 0] 28)).alloc (Obj.cells #[.int .i64 0, .int .i64 0] 30)).below hb1 (by simp; omega)
  have br := ((Blk.at_ (w := w.alloc (Obj.cells #[.int .i64 (S : Int), .slice A n c, .slice AF nf cf] 28)) (g := w.heap.size + 1) (t := 28) (cs := #[.int .i64 0, .slice none 0 0, .slice none 0 0]) (by simp)).alloc (Obj.cells #[.int .i64 0, .int .i64 0] 30)).below hb1 (by simp)
  have bf := (Blk.at_ (w := (w.alloc (Obj.cells #[.int .i64 (S : Int), .slice A n c, .slice AF nf cf] 28)).alloc (Obj.cells #[.int .i64 0, .slice none 0 0, .slice none 0 0] 28)) (g := w.heap.size + 1 + 1) (t := 30) (cs := #[.int .i64 0, .int .i64 0]) (by simp)).below hb1 (by simp)
  have hbw : Below w.heap.size w w1 := Below.trans (by go_grown) (hb1.mono (by simp; omega))
  clear hb1
  have k0 := bx.cell 0
  have k1 := bx.cell 1
  have k2 := bx.cell 2
  have q0 := br.cell 0
  have q1 := br.cell 1
  have q2 := br.cell 2
  have q3 := bf.cell 0
  have q4 := bf.cell 1
  have qf := br.frozen 0
  have qf1 := br.frozen 1
  have qf2 := br.frozen 2
  have qf3 := bf.frozen 0
  have qf4 := bf.frozen 1
  simp at q0 q1 q2 q3 q4 k0 k1 k2
  have hs2 : w.heap.size + 1 + 1 < w1.heap.size := by omega
  have hs3 : w.heap.size + 1 < w1.heap.size := by omega
  have hs4 : w.heap.size < w1.heap.size := by omega
  have hS0 : S ≠ 0 := by have := HS.out; omega
  have hn0' : m.n ≠ 0 := hn0
  clear hn0
  have hz : ((S : Int) == 0) = false := by simp; omega
  have hS1 : 0 < S := by omega
  clear hS0
  go_wp2
  clear hz
  go_loopw [5, 32] (fun v i wr => ∃ k : Nat, k ≤ nf ∧ i = .int .i64 k ∧ wr.ownsRow (w.heap.size + 3) 3 1 v k (intRow (finStates (m.fins.take k))) ∧ Below w.heap.size w wr ∧ Blk wr w.heap.size 28 #[.int .i64 (S : Int), .slice A n c, .slice AF nf cf] ∧
    Blk wr (w.heap.size + 1) 28 #[.int .i64 0, .slice none 0 0, .slice none 0 0] ∧ Blk wr (w.heap.size + 1 + 1) 30 #[.int .i64 0, .int .i64 0] ∧ w.heap.size + 3 ≤ wr.heap.size) (fun _ i _ => nf - (intOf i).toNat)
  case atStart => exact ⟨0, by omega, rfl, World.ownsRow_nil _ _ _ _, hbw.alloc (by omega) _, bx.alloc _, br.alloc _, bf.alloc _, by simp; omega⟩
  case round =>
    clear k0 k1 k2 q0 q1 q2 q3 q4 qf qf1 qf2 qf3 qf4 hs2 hs3 hs4 bx br bf hbw hs1
    obtain ⟨k, hk, rfl, hown, hbw, bx, br, bf, hsz⟩ := hrel
    have k0 := bx.cell 0
    have k1 := bx.cell 1
    have k2 := bx.cell 2
    simp at k0 k1 k2
    by_cases hkn : k < nf
    · obtain ⟨b, off, a, rfl, hbB, c0, c1, HA⟩ := fins_at (hF.below hbw hB) hkn
      have hbw' : b < wr.heap.size := by have := hbw.size; omega
      go_wp2_with (at_builtin; refine wpList_append_own _ rfl (.tmp 36) (.tmp 39) 22 rfl (w.heap.size + 3) 3 i0 _ 1 8 Try.underlying22 hi0 hz0 hz1 hz2 rfl (by omega) _ k _ rfl ((hown.alloc _).alloc _) ⟨wr.heap.size + 1, 0, none⟩ 1 1 [.int .i64 a.s] rfl rfl (World.news_of_block (cs := #[.int .i64 a.s]) (t := 3) (fr := (0, 0)) (Blk.at_ (by simp))) (by simp [Value.oneCell']) (by simp only [maxLen]; omega) (by omega) (by simp; omega) ?_; intro v' w2 hown2 hg2 _)
      have hne : ∀ b, b < w.heap.size + 3 → some b ≠ u5.ownBlock := fun b hb e => by have := (hown.lt _ e.symm).1; omega
      have hs2 := hg2.size
      simp at hs2
      go_roundw
      case rel => exact ⟨k + 1, by omega, by go_num, by rw [takeF_push (by rw [HF.out]; exact hkn) HA.out, finStates_snoc, intRow_append]; exact hown2, (((hbw.alloc hbw.size _).alloc (by simp; omega) _).grown hg2 (by simp; omega) (fun k hk => by have := (hown.lt _ hk).1; omega)),
        ((bx.alloc _).alloc _).grown hg2 (hne _ (by omega)), ((br.alloc _).alloc _).grown hg2 (hne _ (by omega)), ((bf.alloc _).alloc _).grown hg2 (hne _ (by omega)), by omega⟩
      case measure => simp [intOf]; omega
    · have hend : m.fins.take k = m.fins := List.take_of_length_le (by rw [HF.out]; omega)
      rw [hend] at hown
      clear hend
      obtain rfl : k = nf := by omega
      obtain ⟨Au, cu, rfl, _, _⟩ := own_value hown
      obtain ⟨wo, rfl⟩ : ∃ wo : World, wo = wr := ⟨_, rfl⟩
      have hrng : inRange m.arcs S := by have := VAL.out.inRange; rw [HS.out] at this; simpa using this
      have hfr : ∀ x ∈ finStates m.fins, 0 ≤ x ∧ x < (S : Int) := by
        intro x hx
        obtain ⟨y, hy, rfl⟩ := List.mem_map.1 hx
        have := VAL.out.finRange y hy
        rw [HS.out] at this
        simpa using this
      have hfl : (finStates m.fins).length = k := by rw [finStates, List.length_map, HF.out]
      have rU : Rd wo wo.heap.size 1 Au k (intCell (finStates m.fins)) := Rd.of_own hown (hfl ▸ intRow_at _)
      have HRU := hide rU
      have HRNG := hide hrng
      have HFR := hide hfr
      clear rU hrng hfr hown
      have hlt0 := bx.lt
      go_wp2
      refine wp_mix (fun w' => w'.cell? ⟨w.heap.size, 0, none⟩ = some (.int .i64 (S : Int)) ∧ w'.cell? ⟨w.heap.size, 1, none⟩ = some (.slice A n c) ∧ w'.cell? ⟨w.heap.size, 2, none⟩ = some (.slice AF k cf)) 5 [(0, false), (3, false), (4, false), (1, true), (2, true)] (by kernel_rfl) (by kernel_rfl) ?_ ?_
      · go_simp
      simp only [List.drop_succ_cons, List.drop_zero]
      repeat (refine mix_q (v := ?_) (by rfl) (by rfl) ?_ ?_; rotate_left; (focus (intro w' hC; (try dsimp only at hC); go_simp; (first | done | with_reducible rfl))); simp only [Act.put, List.setIfInBounds_toArray, List.set_cons_zero, List.set_cons_succ])
      refine mix_l (by rfl) (by rfl) (fun K hK => ?_)
      go_simp
      refine hK _ _ (by go_simp) ?_
      clear hK K
      refine mix_l (by rfl) (by rfl) (fun K hK => ?_)
      go_simp
      have hbA : Below w.heap.size w (wo.alloc (Obj.cells #[Value.int IntKind.i64 0] 3)).drew := (hbw.alloc hbw.size _).drew
      have rI : Rd (wo.alloc (Obj.cells #[Value.int IntKind.i64 0] 3)).drew (wo.heap.size + 1) 1 (some ⟨wo.heap.size, 0, none⟩) 1 (intCell [0]) := by
        intro _
        refine ⟨wo.heap.size, 0, rfl, Nat.lt_succ_self _, fun i j hi hj => ?_⟩
        obtain rfl : i = 0 := by omega
        obtain rfl : j = 0 := by omega
        go_simp
        rfl
      refine (reach_any _ m S _ (wo.heap.size + 1) (by simp) ((H0.out.below hbA hB).mono (by have := hbw.size; omega)) HS.out hS4 VAL.out.len HRNG.out (some ⟨wo.heap.size, 0, none⟩) 1 1 [0] rI rfl (by omega) (by simp; omega) false).mono ?_
      clear rI
      rintro e w2 ⟨gT, sT, rfl, rT, hgT, hsT, hb2⟩
      have bx2 := ((bx.alloc (Obj.cells #[Value.int IntKind.i64 0] 3)).drew).below hb2 (by simp; omega)
      have br2 := ((br.alloc (Obj.cells #[Value.int IntKind.i64 0] 3)).drew).below hb2 (by simp; omega)
      have bf2 := ((bf.alloc (Obj.cells #[Value.int IntKind.i64 0] 3)).drew).below hb2 (by simp; omega)
      have hbw2 : Below w.heap.size w w2 := hbA.trans (hb2.mono (by simp; omega))
      have hbo2 : Below wo.heap.size wo w2 := (((Below.refl wo.heap.size wo).alloc (Nat.le_refl _) (Obj.cells #[Value.int IntKind.i64 0] 3)).drew).trans (hb2.mono (by simp))
      simp at hgT
      have HST := hide hsT
      clear hsT hb2 hbA bx br bf k0 k1 k2
      refine hK _ _ ⟨bx2.cell 0, bx2.cell 1, bx2.cell 2⟩ ?_
      clear hK K
      refine mix_nil ?_; try simp only [Act.put, List.setIfInBounds_toArray, List.set_cons_zero, List.set_cons_succ]
      go_wp2_with fail
      refine (reach_any _ m S _ wo.heap.size hbo2.size ((H0.out.below hbw2 hB).mono (by have := hbw.size; omega)) HS.out hS4 VAL.out.len HRNG.out Au k cu (finStates m.fins) (HRU.out.below hbo2 (Nat.le_refl _)) hfl hval HFR.out true).mono ?_
      rintro e w3 ⟨gB, sB, rfl, rB, hgB, hsB, hb3⟩
      have bx := bx2.below hb3 bx2.lt
      have br := br2.below hb3 br2.lt
      have bf := bf2.below hb3 bf2.lt
      have rT := rT.of_block (hb3.block gT rT.lt)
      have hbw3 : Below w.heap.size w w3 := hbw2.trans (hb3.mono hbw2.size)
      have HSB := hide hsB
      have hz3 := bf2.lt
      have hz4 := hb3.size
      clear hsB hb3 hbw2 bx2 br2 bf2 hbw hbo2 hlt0
      have cB := rB.cell hS1
      go_wp2
      refine NoPanic.normal ?_
      have hK : ∀ s, s < S → (sT s && sB s) = keepK m s := fun s hs => by rw [Bool.eq_iff_iff, Bool.and_eq_true, HST.out s hs, HSB.out s hs, keepK_iff]
      have hT0 : sT 0 = true := (HST.out 0 hS1).2 (.base (by simp))
      have hK0 := hK 0 hS1
      rw [hT0, Bool.true_and] at hK0
      have q0 := br.cell 0
      have q1 := br.cell 1
      have q2 := br.cell 2
      have q3 := bf.cell 0
      have q4 := bf.cell 1
      have qf := br.frozen 0
      have qf1 := br.frozen 1
      have qf2 := br.frozen 2
      have qf3 := bf.frozen 0
      have qf4 := bf.frozen 1
      simp at q0 q1 q2 q3 q4
      have k0 := bx.cell 0
      simp at k0
      have hs3 := br.lt
      have hs4 := bx.lt
      have hs2 := bf.lt
      cases hB0 : sB 0
      · have hres : trimOf m = emptyM := by unfold trimOf; rw [if_pos (.inr (by rw [← hK0, hB0]))]
        have HRES := hide hres
        clear hres hK hK0 hT0
        go_wp2
        rw [HRES.out]
        exact bodyPost_ret (v := .tuple #[.agg #[.int .i64 0, .slice none 0 0, .slice none 0 0], .agg #[.int .i64 0, .int .i64 0]]) (by simp [results, Try.results36, go_sem, q0, q1, q2, q3, q4, qf, qf1, qf2, qf3, qf4, hs2, hs3, hs4]) rfl ⟨_, rfl, MachNew.empty _ _, by go_grown⟩
      · have hres : trimOf m = partM m (fun s => sT s && sB s) := by
          unfold trimOf
          rw [if_neg (by rw [← hK0, hB0]; intro h; rcases h with h | h; exact hn0' h; cases h)]
          exact (part_congr VAL.out.inRange VAL.out.finRange (fun i hi => hK i (by rw [HS.out] at hi; simpa using hi))).symm
        have HRES := hide hres
        clear hres hK hK0
        have hmk := fun (W : World) => run_make_row' (P := Try.prog) 22 3 (.int .i64 0) 8 Try.underlying22 int_info rfl .i64 .i64 S (by omega) (by omega) W
        go_wp2
        clear hmk cB hB0 hT0
        generalize hW : World.alloc _ _ = W4
        have rN0 : W4.rowIs w3.heap.size 3 S (fun j => .int .i64 (if j < 0 then numK (fun s => sT s && sB s) j else 0)) := by
          rw [← hW]; exact ((World.rowIs_made w3 (.int .i64 0) S 3).congr (fun i _ => by simp)).alloc _
        have bO0 : Blk W4 (w3.heap.size + 1) 28 #[.int .i64 (cntK (fun s => sT s && sB s) 0 : Int), .slice none 0 0, .slice none 0 0] := by rw [← hW]; exact Blk.at_ (by simp)
        have hb4 : Below w3.heap.size w3 W4 := by rw [← hW]; go_grown
        clear hW
        go_loopw [59] (fun i wr => ∃ k : Nat, k ≤ S ∧ i = .int .i64 k ∧ wr.rowIs w3.heap.size 3 S (fun j => .int .i64 (if j < k then numK (fun s => sT s && sB s) j else 0)) ∧
          Blk wr (w3.heap.size + 1) 28 #[.int .i64 (cntK (fun s => sT s && sB s) k : Int), .slice none 0 0, .slice none 0 0] ∧ Below w3.heap.size w3 wr) (fun i _ => S - (intOf i).toNat)
        case atStart => exact ⟨0, by omega, rfl, rN0, bO0, hb4⟩
        case round =>
          clear rN0 bO0 hb4
          obtain ⟨j, hj, rfl, rN, bO, hb5⟩ := hrel
          by_cases hjS : j < S
          · have n0 := rN.cell hjS
            have nf := rN.frozen j
            have o0 := bO.cell 0
            have of := bO.frozen 0
            have t0 := keep_cell hb5 (rT.cell hjS) rT.lt
            have t1 := keep_cell hb5 (rB.cell hjS) rB.lt
            have ol := bO.lt
            have nl := rN.lt
            simp at n0 o0
            have hcl := cntK_le (fun s => sT s && sB s) j
            have hne : w3.heap.size ≠ w3.heap.size + 1 := by omega
            have hneT : gT ≠ w3.heap.size := by have := rT.lt; omega
            have hneB : gB ≠ w3.heap.size := by have := rB.lt; omega
            cases h1 : sT j
            · have hk' : (fun s => sT s && sB s) j = false := by simp [h1]
              go_wp2
              go_roundw
              case rel => exact ⟨j + 1, by omega, by go_num, (rN.set j (.int .i64 (-1))).congr (fun i _ => num_step (numK_f hk') i), by rw [cntK_f hk']; exact bO.far (by simp) _, hb5.setCell (by simp) _⟩
              case measure => simp [intOf]; omega
            · cases h2 : sB j
              · have hk' : (fun s => sT s && sB s) j = false := by simp [h2]
                go_wp2
                go_roundw
                case rel => exact ⟨j + 1, by omega, by go_num, (rN.set j (.int .i64 (-1))).congr (fun i _ => num_step (numK_f hk') i), by rw [cntK_f hk']; exact bO.far (by simp) _, hb5.setCell (by simp) _⟩
                case measure => simp [intOf]; omega
              · have hk' : (fun s => sT s && sB s) j = true := by simp [h1, h2]
                go_wp2
                go_roundw
                case rel => exact ⟨j + 1, by omega, by go_num,
                  ((((rN.set j (.int .i64 (-1))).set j (.int .i64 (cntK (fun s => sT s && sB s) j : Int))).setOther (a := ⟨w3.heap.size + 1, 0, none⟩) (by simp) _).congr (fun i hi => by
                    rw [← num_step (numK_t hk') i]; by_cases e : i = j <;> simp [e])),
                  by rw [cntK_t hk']; exact ((bO.far (p := ⟨w3.heap.size, j, none⟩) (by simp) _).far (p := ⟨w3.heap.size, j, none⟩) (by simp) _).set_ 0 _, (((hb5.setCell (by simp) _).setCell (by simp) _).setCell (by simp) _)⟩
                case measure => simp [intOf]; omega
          · obtain rfl : j = S := by omega
            obtain ⟨K, hKd⟩ : ∃ K : Nat → Bool, K = fun s => sT s && sB s := ⟨_, rfl⟩
            rw [← hKd] at rN bO
            have HRES := hide (HRES.out.trans (by rw [← hKd]))
            have rN := rN.congr (g := fun i => .int .i64 (numK K i)) (fun i hi => by rw [if_pos hi])
            have ol := bO.lt
            have x1 : wr.cell? ⟨w.heap.size, 1, none⟩ = some (.slice A n c) := keep_cell hb5 (bx.cell 1) bx.lt
            clear hKd HST HSB rT rB hgT hgB
            go_wp2
            clear x1
            go_loopw [88] (fun i wr => ∃ (q : Nat) (va : Value), q ≤ n ∧ i = .int .i64 q ∧ wr.rowIs w3.heap.size 3 j (fun i => .int .i64 (numK K i)) ∧ Blk wr (w3.heap.size + 1) 28 #[.int .i64 (cntK K j : Int), va, .slice none 0 0] ∧
              wr.ownsRow (w3.heap.size + 2) 61 5 va (partArcs K (m.arcs.take q)).length (arcRow (partArcs K (m.arcs.take q))) ∧ Below w3.heap.size w3 wr ∧ w3.heap.size + 2 ≤ wr.heap.size) (fun i _ => n - (intOf i).toNat)
            case atStart => exact ⟨0, _, by omega, rfl, rN, bO, World.ownsRow_nil _ _ _ _, hb5, by omega⟩
            case round =>
              clear rN bO hb5 ol
              obtain ⟨q, va, hq, rfl, rN, bO, hown, hb5, hz5⟩ := hrel
              have hbw := hbw3.trans (hb5.mono hbw3.size)
              have x2 : wr.cell? ⟨w.heap.size, 2, none⟩ = some (.slice AF k cf) := keep_cell hb5 (bx.cell 2) bx.lt
              have o1 := bO.cell 1
              have of1 := bO.frozen 1
              simp at o1
              have ol := bO.lt
              by_cases hqn : q < n
              · obtain ⟨b, off, a, rfl, hbB, c0, c1, c2, c3, c4, HA⟩ := arcs_at (hA.below hbw hB) hqn
                have hbw' : b < wr.heap.size := by have := hbw.size; omega
                have hin := HRNG.out a (getD_mem (by rw [HN.out]; exact hqn) HA.out)
                obtain ⟨r0, r1, r2, r3⟩ := hin
                have nF := rN.cell (show a.f.toNat < j by omega)
                have nT := rN.cell (show a.t.toNat < j by omega)
                have nl := rN.lt
                have HTP := hide (take_push (by rw [HN.out]; exact hqn) HA.out)
                have hpl := partArcs_len K (m.arcs.take q)
                rw [List.length_take] at hpl
                have bA := fun (o : Obj) => bO.alloc o
                cases hkf : K a.f.toNat
                · rw [numK_f hkf] at nF
                  go_wp2
                  go_roundw
                  case rel => exact ⟨q + 1, va, by omega, by go_num, rN.alloc _, bO.alloc _, by rw [HTP.out, partArcs_snoc, hkf]; simpa using hown.alloc _, hb5.alloc (by omega) _, by simp; omega⟩
                  case measure => simp [intOf]; omega
                · rw [numK_t hkf] at nF
                  cases hkt : K a.t.toNat
                  · rw [numK_f hkt] at nT
                    go_wp2
                    go_roundw
                    case rel => exact ⟨q + 1, va, by omega, by go_num, rN.alloc _, bO.alloc _, by rw [HTP.out, partArcs_snoc, hkf, hkt]; simpa using hown.alloc _, hb5.alloc (by omega) _, by simp; omega⟩
                    case measure => simp [intOf]; omega
                  · rw [numK_t hkt] at nT
                    go_wp2
                    refine wp_mix (fun w' => w'.cell? ⟨wr.heap.size, 1, none⟩ = some (.int .i64 a.t) ∧ w'.cell? ⟨w3.heap.size, a.f.toNat, none⟩ = some (.int .i64 (cntK K a.f.toNat : Int)) ∧ w'.cell? ⟨w3.heap.size, a.t.toNat, none⟩ = some (.int .i64 (cntK K a.t.toNat : Int))) 12 [(0, false), (1, false), (5, false), (6, false), (7, false), (8, false), (9, false), (2, true), (3, false), (4, false), (10, false), (11, true)] (by kernel_rfl) (by kernel_rfl) ?_ ?_
                    · go_simp
                    simp only [List.drop_succ_cons, List.drop_zero]
                    repeat (refine mix_q (v := ?_) (by rfl) (by rfl) ?_ ?_; rotate_left; (focus (intro w' hC; (try dsimp only at hC); go_simp; (first | done | with_reducible rfl))); simp only [Act.put, List.setIfInBounds_toArray, List.set_cons_zero, List.set_cons_succ])
                    refine mix_l (by rfl) (by rfl) (fun K hK => ?_)
                    go_simp
                    refine hK _ _ (by go_simp) ?_
                    clear hK K
                    repeat (refine mix_q (v := ?_) (by rfl) (by rfl) ?_ ?_; rotate_left; (focus (intro w' hC; (try dsimp only at hC); go_simp; (first | done | with_reducible rfl))); simp only [Act.put, List.setIfInBounds_toArray, List.set_cons_zero, List.set_cons_succ])
                    refine mix_l (by rfl) (by rfl) (fun K hK => ?_)
                    go_simp
                    refine hK _ _ (by go_simp) ?_
                    clear hK K
                    refine mix_nil ?_; try simp only [Act.put, List.setIfInBounds_toArray, List.set_cons_zero, List.set_cons_succ]
                    go_wp2
                    refine NoPanic.normal ?_
                    have hne1 : va.ownBlock ≠ some (w3.heap.size + 1) := fun e => by have := (hown.lt _ e).1; omega
                    have hne0 : va.ownBlock ≠ some w3.heap.size := fun e => by have := (hown.lt _ e).1; omega
                    go_wp2_with (at_builtin; refine wpList_append_own _ rfl (.tmp 119) (.tmp 121) 25 rfl (w3.heap.size + 2) 61 ia _ 5 40 Try.underlying25 ha0 ha1 ha2 ha3 rfl (by omega) va _ _ rfl ((hown.alloc _).alloc _).drew ⟨wr.heap.size + 1, 0, none⟩ 1 1 (arcRow [partArc K a]) rfl (by rfl) (World.news_of_block (cs := (arcRow [partArc K a]).toArray) (t := 61) (fr := (0, 0)) ((Blk.at_ (by simp)).drew)) (arcRow_one _) (by simp only [maxLen]; omega) (by omega) (by simp; omega) ?_; intro v' w6 hown2 hg2 _; obtain ⟨Av, cv, rfl, _, _⟩ := own_value hown2; have o1' := far_cell hg2 hne1 (o := 1) (v := va) (by go_simp); have of1' := far_free hg2 hne1 (o := 1) (x := false) (by simp; omega) (by go_simp))
                    have hs6 := hg2.size
                    simp at hs6
                    go_roundw
                    case rel => exact ⟨q + 1, _, by omega, by go_num,
                      (((rN.alloc _).alloc _).of_block (hg2.block _ (by simp; omega) (fun e => hne0 e.symm))).setOther (by simp) _,
                      ((((bO.alloc _).alloc _).drew).grown hg2 (fun e => hne1 e.symm)).set_ 1 _,
                      ownsRow_setCell_below (by
                        rw [HTP.out, partArcs_snoc, hkf, hkt]
                        rw [Bool.and_true, if_pos rfl, List.length_append, arcRow_append]
                        exact hown2) (by simp) _,
                      ((((hb5.alloc (by omega) _).alloc (by simp; omega) _).drew).grown hg2 (by simp; omega) (fun k hk => by have := (hown.lt _ hk).1; omega)).setCell (by simp) _, by simp; omega⟩
                    case measure => simp [intOf]; omega
              · obtain rfl : q = n := by omega
                have hend : m.arcs.take q = m.arcs := List.take_of_length_le (by rw [HN.out]; omega)
                rw [hend] at hown
                clear hend o1 of1 hqn
                obtain ⟨wp, rfl⟩ : ∃ wp : World, wp = wr := ⟨_, rfl⟩
                have hpl := partArcs_len K m.arcs
                rw [HN.out] at hpl
                go_wp2
                clear x2 ol
                go_loopw [128] (fun i wr => ∃ (p : Nat) (vf : Value), p ≤ k ∧ i = .int .i64 p ∧ wr.rowIs w3.heap.size 3 j (fun i => .int .i64 (numK K i)) ∧ Blk wr (w3.heap.size + 1) 28 #[.int .i64 (cntK K j : Int), va, vf] ∧
                  wr.ownsRow (w3.heap.size + 2) 61 5 va (partArcs K m.arcs).length (arcRow (partArcs K m.arcs)) ∧ wr.ownsRow (w3.heap.size + 2) 63 2 vf (partFins K (m.fins.take p)).length (finRow (partFins K (m.fins.take p))) ∧
                  Below w3.heap.size w3 wr ∧ w3.heap.size + 2 ≤ wr.heap.size) (fun i _ => k - (intOf i).toNat)
                case atStart => exact ⟨0, _, by omega, rfl, rN, bO, hown, World.ownsRow_nil _ _ _ _, hb5, by omega⟩
                case round =>
                  clear rN bO hb5 hown hbw
                  obtain ⟨p, vf, hp, rfl, rN, bO, hownA, hown, hb5, hz5⟩ := hrel
                  have hbw := hbw3.trans (hb5.mono hbw3.size)
                  have o2 := bO.cell 2
                  have of2 := bO.frozen 2
                  simp at o2
                  have ol := bO.lt
                  by_cases hpn : p < k
                  · obtain ⟨b, off, x, rfl, hbB, c0, c1, HA⟩ := fins_at (hF.below hbw hB) hpn
                    have hbw' : b < wr.heap.size := by have := hbw.size; omega
                    have hin := HFR.out x.s (List.mem_map.2 ⟨x, getDF_mem (by rw [HF.out]; exact hpn) HA.out, rfl⟩)
                    obtain ⟨r0, r1⟩ := hin
                    have nF := rN.cell (show x.s.toNat < j by omega)
                    have nl := rN.lt
                    have HTP := hide (takeF_push (by rw [HF.out]; exact hpn) HA.out)
                    have hfl2 := partFins_len K (m.fins.take p)
                    rw [List.length_take] at hfl2
                    cases hkf : K x.s.toNat
                    · rw [numK_f hkf] at nF
                      go_wp2
                      go_roundw
                      case rel => exact ⟨p + 1, vf, by omega, by go_num, rN.alloc _, bO.alloc _, hownA.alloc _, by rw [HTP.out, partFins_snoc, hkf]; simpa using hown.alloc _, hb5.alloc (by omega) _, by simp; omega⟩
                      case measure => simp [intOf]; omega
                    · rw [numK_t hkf] at nF
                      go_wp2
                      refine wp_mix (fun w' => w'.cell? ⟨wr.heap.size, 0, none⟩ = some (.int .i64 x.s) ∧ w'.cell? ⟨wr.heap.size, 1, none⟩ = some (.int .i64 x.w) ∧ w'.cell? ⟨w3.heap.size, x.s.toNat, none⟩ = some (.int .i64 (cntK K x.s.toNat : Int)) ∧ w'.cell? ⟨w3.heap.size + 1, 2, none⟩ = some vf) 11 [(0, false), (1, false), (2, false), (3, false), (4, false), (5, false), (6, false), (7, false), (8, false), (9, false), (10, true)] (by kernel_rfl) (by kernel_rfl) ?_ ?_
                      · go_simp
                      simp only [List.drop_succ_cons, List.drop_zero]
                      repeat (refine mix_q (v := ?_) (by rfl) (by rfl) ?_ ?_; rotate_left; (focus (intro w' hC; (try dsimp only at hC); go_simp; (first | done | with_reducible rfl))); simp only [Act.put, List.setIfInBounds_toArray, List.set_cons_zero, List.set_cons_succ])
                      refine mix_l (by rfl) (by rfl) (fun K hK => ?_)
                      go_simp
                      refine hK _ _ (by go_simp) ?_
                      clear hK K
                      refine mix_nil ?_; try simp only [Act.put, List.setIfInBounds_toArray, List.set_cons_zero, List.set_cons_succ]
                      have hne1 : vf.ownBlock ≠ some (w3.heap.size + 1) := fun e => by have := (hown.lt _ e).1; omega
                      have hne0 : vf.ownBlock ≠ some w3.heap.size := fun e => by have := (hown.lt _ e).1; omega
                      go_wp2_with (at_builtin; refine wpList_append_own _ rfl (.tmp 139) (.tmp 148) 26 rfl (w3.heap.size + 2) 63 iF _ 2 16 Try.underlying26 hF0 hF1 hF2 hF3 rfl (by omega) vf _ _ rfl ((hown.alloc _).alloc _).drew ⟨wr.heap.size + 1, 0, none⟩ 1 1 (finRow [partFin K x]) rfl (by rfl) (World.news_of_block (cs := (finRow [partFin K x]).toArray) (t := 63) (fr := (0, 0)) ((Blk.at_ (by simp)).drew)) (finRow_one _) (by simp only [maxLen]; omega) (by omega) (by simp; omega) ?_; intro v' w6 hown2 hg2 _; obtain ⟨Av, cv, rfl, _, _⟩ := own_value hown2; have o1' := far_cell hg2 hne1 (o := 2) (v := vf) (by go_simp); have of1' := far_free hg2 hne1 (o := 2) (x := false) (by simp; omega) (by go_simp))
                      refine NoPanic.normal ?_
                      go_wp2
                      have hs6 := hg2.size
                      simp at hs6
                      go_roundw
                      case rel => exact ⟨p + 1, _, by omega, by go_num,
                        (((rN.alloc _).alloc _).of_block (hg2.block _ (by simp; omega) (fun e => hne0 e.symm))).setOther (by simp) _,
                        ((((bO.alloc _).alloc _).drew).grown hg2 (fun e => hne1 e.symm)).set_ 2 _,
                        ownsRow_setCell_below ((((hownA.alloc _).alloc _).drew).kept hg2 (own_ne hownA hown (by decide))) (by simp) _,
                        ownsRow_setCell_below (by
                          rw [HTP.out, partFins_snoc, hkf]
                          rw [if_pos rfl, List.length_append, finRow_append]
                          exact hown2) (by simp) _,
                        ((((hb5.alloc (by omega) _).alloc (by simp; omega) _).drew).grown hg2 (by simp; omega) (fun k hk => by have := (hown.lt _ hk).1; omega)).setCell (by simp) _, by simp; omega⟩
                      case measure => simp [intOf]; omega
                  · obtain rfl : p = k := by omega
                    have hend : m.fins.take p = m.fins := List.take_of_length_le (by rw [HF.out]; omega)
                    rw [hend] at hown
                    clear hend o2 of2 hpn
                    have hfl2 := partFins_len K m.fins
                    rw [HF.out] at hfl2
                    have o0 := bO.cell 0
                    have o1 := bO.cell 1
                    have o2 := bO.cell 2
                    simp at o0 o1 o2
                    have br' := br.below hb5 hs3
                    have bf' := bf.below hb5 hs2
                    clear q0 q1 q2 q3 q4 qf qf1 qf2 qf3 qf4 k0
                    have q0 := br'.cell 0
                    have q1 := br'.cell 1
                    have q2 := br'.cell 2
                    have q3 := bf'.cell 0
                    have q4 := bf'.cell 1
                    have qf := br'.frozen 0
                    have qf1 := br'.frozen 1
                    have qf2 := br'.frozen 2
                    have qf3 := bf'.frozen 0
                    have qf4 := bf'.frozen 1
                    simp at q0 q1 q2 q3 q4
                    clear hs2 hs3 hs4
                    have hs3 := br'.lt
                    have hs2 := bf'.lt
                    obtain ⟨Aa, ca, rfl, ha5, ha6⟩ := own_value hownA
                    obtain ⟨Af, cf2, rfl, hf5, hf6⟩ := own_value hown
                    have hl1 : w.heap.size + 1 < w3.heap.size + 2 := by omega
                    have hl2 : w.heap.size + 1 + 1 < w3.heap.size + 2 := by omega
                    have HOA := hide hownA
                    have HOF := hide hown
                    have hjj : m.n.toNat = j := by rw [HS.out]; rfl
                    have HJJ := hide hjj
                    clear hownA hown hjj
                    go_wp2
                    rw [HRES.out]
                    exact bodyPost_ret (v := .tuple #[.agg #[.int .i64 (cntK K j : Int), .slice Aa (partArcs K m.arcs).length ca, .slice Af (partFins K m.fins).length cf2], .agg #[.int .i64 0, .int .i64 0]]) (by simp [results, Try.results36, go_sem, q0, q1, q2, q3, q4, qf, qf1, qf2, qf3, qf4, hs2, hs3]) rfl
                      ⟨_, rfl, (by
                        have hcnt : ((cntK K j : Nat) : Int) = (partM m K).n := by unfold partM; rw [HJJ.out]
                        rw [hcnt]
                        exact MachNew.of_own (m := partM m K) (own_set5 HOA.out hl1 hl1 hl1 hl2 hl2 _ _ _ _ _) (own_set5 HOF.out hl1 hl1 hl1 hl2 hl2 _ _ _ _ _) (by omega) (by omega) ha5 hf5 (by show (partArcs K m.arcs).length ≤ big; simp only [big]; omega) (by show (partFins K m.fins).length ≤ big; simp only [big]; omega)), (by go_grown : Below w.heap.size w _)⟩
end Go.Proofs.Ytopakcbhodnipaa

