/- token.Cut: the tokens of a text. -/
import Derived.Test.YtcchpijadlgagaaDoorTkC
import Derived.Laws.DeepStrings4
import Derived.Deep.CutRange
import Derived.Deep.CutBlock
import Derived.Deep.LoopGhost
namespace Gm
open Go Go.RowKit
/-- The table of offsets, filled up to k. -/
def atF (ps : List Int) (k j : Nat) : Value := .int .i64 (if j ≤ k then (ofs ps j : Int) else 0)
end Gm
namespace Go.Proofs.YtcchpijadlgagaaDoor
open Go.RowKit Gm
set_option linter.unusedSimpArgs false
set_option linter.unusedVariables false
set_option maxRecDepth 100000 in
theorem cut_bad (s : ByteArray) (w : World) (hT : Tabs w) (hs : s.size ≤ maxLen) (hq : (decR s.data.toList).1.1 ≠ 0) (hq2 : (decR s.data.toList).2 = []) :
    Calls Tryd.prog 12 #[.string s] w fun e w' => e = .returned (.tuple #[.slice none 0 0, .agg #[.int .i64 (decR s.data.toList).1.1, .int .i64 (decR s.data.toList).1.2]]) ∧ Below w.heap.size w w' := by
  have hne := fun a b c d W => run_neq_fault a b c d W
  have hT' : Tabs (w.alloc (Obj.cells #[.int .i64 0, .int .i64 0] 25)) := tabs_keep hT (show Below w.heap.size w _ by go_grown) (Nat.le_refl _)
  have hD := decode_any s _ hT' hs
  clear hT hT'
  obtain ⟨a1, h1⟩ : ∃ x, x = (decR s.data.toList).1.1 := ⟨_, rfl⟩
  obtain ⟨a2, h2⟩ : ∃ x, x = (decR s.data.toList).1.2 := ⟨_, rfl⟩
  rw [← h1] at hq
  simp only [← h1, ← h2] at hD ⊢
  have hfa := fEq_ne (b := a2) hq
  have HD := hide hD
  clear hD hq h1 h2 hq2 hs
  go_enter Tryd.func12, Tryd.ntmps12
  go_wp2_with fail
  refine HD.out.mono ?_
  rintro e w1 ⟨v, rfl, hown, hb1⟩
  obtain ⟨A, c, hv, hnc, hcm⟩ := own_value hown
  subst hv
  clear HD hown
  have hz1 : w.heap.size < w1.heap.size := by have := hb1.size; simp at this; omega
  have hbw : Below w.heap.size w w1 := ((Below.refl _ _).alloc (Nat.le_refl _) _).trans (hb1.mono (by simp))
  have bR := (Blk.new w 25 #[.int .i64 0, .int .i64 0]).below hb1 (by simp)
  generalize (decR s.data.toList).2.length = n at *
  go_wp2
  generalize hW : World.alloc _ _ = W0
  have hbw0 : Below w.heap.size w W0 := by rw [← hW]; exact (hbw.alloc hbw.size _).alloc (by have := hbw.size; simp; omega) _
  have bR0 : Blk W0 w.heap.size 25 #[.int .i64 0, .int .i64 0] := by rw [← hW]; exact (bR.alloc _).alloc _
  have bF0 : Blk W0 (w1.heap.size + 1) 25 #[.int .i64 a1, .int .i64 a2] := by rw [← hW]; exact Blk.at_ (by simp)
  have q0 : W0.cell? ⟨w.heap.size, 0, none⟩ = some (.int .i64 0) := bR0.cell 0
  have q1 : W0.cell? ⟨w.heap.size, 1, none⟩ = some (.int .i64 0) := bR0.cell 1
  have q2 : W0.cell? ⟨w1.heap.size + 1, 0, none⟩ = some (.int .i64 a1) := bF0.cell 0
  have q3 : W0.cell? ⟨w1.heap.size + 1, 1, none⟩ = some (.int .i64 a2) := bF0.cell 1
  have f0 := bR0.frozen 0
  have f1 := bR0.frozen 1
  have hz := bR0.lt
  have hzf := bF0.lt
  clear bR hb1 hW bR0 bF0 hbw
  refine wp_quiet_tail_lit 2 (by kernel_rfl) (by kernel_rfl) ?_
  simp only [List.take_succ_cons, List.take_zero, List.drop_succ_cons, List.drop_zero]
  repeat (quiet_step (fail))
  refine wpQuiet_nil ?_
  intro _ hw'; obtain ⟨nq, hw''⟩ := hw'; subst hw''
  go_wp2
  exact bodyPost_ret (v := .tuple #[.slice none 0 0, .agg #[.int .i64 a1, .int .i64 a2]]) (by simp [results, Tryd.results12, go_sem, q0, q1, f0, f1, hz]) rfl ⟨rfl, by go_grown; exact below_drewN hbw0 _⟩
theorem twidth_at (p q : Int) (hb : wid p = q) (w : World) :
    Calls Tryd.prog 26 #[.int .i64 p] w fun e w' => e = .returned (.int .i64 q) ∧ w = w' := by
  subst hb; exact twidth_any p w
theorem atF_zero (ps : List Int) (j : Nat) : atF ps 0 j = .int .i64 0 := by
  unfold atF
  split
  · obtain rfl : j = 0 := by omega
    rw [ofs_zero]; rfl
  · rfl
theorem atF_push {ps : List Int} {k : Nat} {x : Int} (h : x = (ofs ps (k + 1) : Int)) (j : Nat) : (if j = k + 1 then Value.int .i64 x else atF ps k j) = atF ps (k + 1) j := by
  unfold atF
  by_cases h1 : j = k + 1
  · subst h1; rw [if_pos rfl, if_pos (Nat.le_refl _), h]
  · rw [if_neg h1]
    by_cases h2 : j ≤ k
    · rw [if_pos h2, if_pos (by omega)]
    · rw [if_neg h2, if_neg (by omega)]
theorem own_drewN {w : World} {base n s : Nat} {e : TypeId} {v : Value} {xs : List Value} (h : w.ownsRow base e s v n xs) (k : Nat) : (w.drewN k).ownsRow base e s v n xs := h
theorem run_cut (s : ByteArray) (a b : Nat) (hab : a ≤ b) (hb : b ≤ s.size) (W : World) : (Instr.slice 9 (.string s) (some (.int .i64 (a : Int))) (some (.int .i64 (b : Int))) none).run Tryd.prog W = .ok (.string (s.extract a b)) W := by
  rw [run_slice_string_if W 9 s .i64 .i64 (a : Int) (b : Int) Tryd.underlying9, if_pos ⟨by omega, by omega⟩, if_pos ⟨by omega, by omega⟩]
  rfl
theorem tok_info : (Tryd.prog.info? 33).map (fun i => (i.zero, i.size, i.bytes)) = some (some (.agg #[.int .i64 0, .int .i64 0, .int .i64 0, .string ⟨#[]⟩]), 4, 40) := by kernel_rfl
set_option maxRecDepth 100000 in
set_option maxHeartbeats 20000000 in
theorem cut_ok (s : ByteArray) (w : World) (hT : Tabs w) (hs : s.size ≤ maxLen) (ps : List Int) (hq : decR s.data.toList = ((0, 0), ps)) :
    Calls Tryd.prog 12 #[.string s] w fun e w' => ∃ v, e = .returned (.tuple #[v, .agg #[.int .i64 (cutB (toks ps)).1.1, .int .i64 (cutB (toks ps)).1.2]]) ∧
      w'.ownsRow w.heap.size 33 4 v (cutB (toks ps)).2.length (tokRow (cutB (toks ps)).2) ∧ Below w.heap.size w w' := by
  have hne := fun a b c d W => run_neq_fault a b c d W
  have hf0 : fEq 0 0 0 0 = true := rfl
  obtain ⟨it, ht0, ht1, ht2, ht3⟩ := info_parts tok_info
  have hT' : Tabs (w.alloc (Obj.cells #[.int .i64 0, .int .i64 0] 25)) := tabs_keep hT (show Below w.heap.size w _ by go_grown) (Nat.le_refl _)
  have hD := decode_any s _ hT' hs
  rw [hq] at hD
  obtain ⟨g1, g2, g3⟩ := decR_ok hq
  have hlen := encL_len_le ps
  have hn4 : ps.length ≤ 4000 := by rw [← g2] at hlen; omega
  have HD := hide hD
  have HA := hide g1
  have HG := hide g2
  have hsz : s.size ≤ 4000 := by have : s.data.toList.length = s.size := by simp
                                 omega
  obtain ⟨n, hn⟩ : ∃ n, n = ps.length := ⟨_, rfl⟩
  rw [← hn] at hn4
  have HN := hide hn.symm
  obtain ⟨tot, htot⟩ : ∃ tot, tot = toks ps := ⟨_, rfl⟩
  rw [← htot]
  have HT := hide htot
  have hmk := fun (W : World) => run_make_row' (P := Tryd.prog) 43 3 (.int .i64 0) 8 Tryd.underlying43 int_info rfl .i64 .i64 (n + 1) (by omega) (by omega) W
  have ec : ((n + 1 : Nat) : Int) = (n : Int) + 1 := by omega
  rw [ec] at hmk
  clear ec hT hT' hD hq g1 g2 g3 hlen hs hn htot
  go_enter Tryd.func12, Tryd.ntmps12
  go_wp2_with fail
  refine HD.out.mono ?_
  rintro e w1 ⟨v, rfl, hown, hb1⟩
  clear HD
  have hown' : w1.ownsRow (w.heap.size + 1) 3 1 v n (intRow ps) := by rw [← HN.out]; have := hown; simpa using this
  clear hown
  obtain ⟨A, c, hv, hnc, hcm⟩ := own_value hown'
  subst hv
  unfold maxLen at hcm
  have hz1 : w.heap.size < w1.heap.size := by have := hb1.size; simp at this; omega
  have hbw : Below w.heap.size w w1 := ((Below.refl _ _).alloc (Nat.le_refl _) _).trans (hb1.mono (by simp))
  have bR := (Blk.new w 25 #[.int .i64 0, .int .i64 0]).below hb1 (by simp)
  have hrd : Rd w1 w1.heap.size 1 A n (intCell ps) := Rd.of_own hown' (HN.out ▸ intRow_at ps)
  clear hb1 hown'
  go_wp2
  generalize hW : World.alloc _ _ = W1
  have hb1 : Below w1.heap.size w1 W1 := by rw [← hW]; go_grown
  have b4 : Blk W1 w1.heap.size 43 #[.slice A n c] := by rw [← hW]; exact ((Blk.new _ _ _).alloc _).alloc _
  have hrow : W1.rowIs (w1.heap.size + 1 + 1) 3 (n + 1) (atF ps 0) := by
    rw [← hW]
    have := World.rowIs_made ((w1.alloc (Obj.cells #[Value.slice A n c] 43)).alloc (Obj.cells #[.int .i64 0, .int .i64 0] 25)) (.int .i64 0) (n + 1) 3
    simp only [World.size_alloc] at this
    exact this.congr fun i _ => (atF_zero ps i).symm
  clear hW hmk
  go_loopw [30] (fun iv wr => ∃ k : Nat, k ≤ n ∧ iv = .int .i64 k ∧ Below w1.heap.size w1 wr ∧ Blk wr w1.heap.size 43 #[.slice A n c] ∧ wr.rowIs (w1.heap.size + 1 + 1) 3 (n + 1) (atF ps k)) (fun iv _ => n - (intOf iv).toNat)
  case atStart => exact ⟨0, by omega, rfl, hb1, b4, hrow⟩
  case round =>
    clear hb1 b4 hrow
    obtain ⟨k, hk, rfl, hb1, b4, hrow⟩ := hrel
    by_cases hkn : k < n
    · obtain ⟨b, off, p, rfl, hb, c0, HP, HS, _, hp0, hp1⟩ := point_at HN HA (hrd.below hb1 (Nat.le_refl _)) hkn
      have hkl : k < ps.length := by rw [HN.out]; exact hkn
      have hof := ofs_push hkl
      rw [HP.out] at hof
      have hwd := enc1_len HS.out
      have hq4 := enc1_le p
      have hob := ofs_le ps k
      obtain ⟨o, ho⟩ : ∃ o, o = ofs ps k := ⟨_, rfl⟩
      obtain ⟨q, hq⟩ : ∃ q, q = (enc1 p).length := ⟨_, rfl⟩
      rw [← ho, ← hq] at hof
      rw [← hq] at hwd hq4
      rw [← ho] at hob
      have hA0 := hrow.cell (i := k) (by omega)
      have hA1 := hrow.cell (i := k + 1) (by omega)
      have e0 : atF ps k k = .int .i64 (o : Int) := by unfold atF; rw [if_pos (Nat.le_refl _), ho]
      have e1 : atF ps k (k + 1) = .int .i64 0 := by unfold atF; rw [if_neg (by omega)]
      rw [e0] at hA0
      rw [e1] at hA1
      have hAf := hrow.frozen (k + 1)
      have hgl := hrow.lt
      have hpush : ((o : Int) + (q : Int)) = (ofs ps (k + 1) : Int) := by omega
      have hset := (fun (W : World) (h : W.rowIs (w1.heap.size + 1 + 1) 3 (n + 1) (atF ps k)) => (h.set (k + 1) (.int .i64 ((o : Int) + (q : Int)))).congr (fun i _ => atF_push hpush i))
      have HSET := hide hset
      have HW := hide hwd.symm
      have HR := hide hrow
      have hbz : b < wr.heap.size := by have := hb1.size; omega
      have b4l := b4.lt
      have H4 := hide b4
      clear hset hof hwd ho hq e0 e1 hpush hrow hkl b4
      go_wp2
      have j0 : IntKind.i64.wrap ((k : Int) + 1) = (k : Int) + 1 := IntWalk.i64_in _ ⟨by omega, by omega⟩
      have j1 : (0 : Int) ≤ (k : Int) + 1 := by omega
      have j2 : (k : Int) + 1 < ((n + 1 : Nat) : Int) := by omega
      have j3 : (0 : Int) ≤ (k : Int) := by omega
      have j4 : (k : Int) < ((n + 1 : Nat) : Int) := by omega
      have j5 : IntKind.i64.wrap ((o : Int) + (q : Int)) = (o : Int) + (q : Int) := IntWalk.i64_in _ ⟨by omega, by omega⟩
      have j6 : ((k : Int) + 1).toNat = k + 1 := by omega
      have j7 : (k : Int) < (n : Int) + 1 := by omega
      have j8 : (k : Int) ≤ (n : Int) := by omega
      have j9 : (k : Int) < (n : Int) := by omega
      have j10 : (k : Int) + 1 < (n : Int) + 1 := by omega
      refine wp_quiet_tail_lit 11 (by kernel_rfl) (by kernel_rfl) ?_
      simp only [List.take_succ_cons, List.take_zero, List.drop_succ_cons, List.drop_zero]
      repeat (quiet_step ((go_at_call 26; exact Calls.quiet_of_same ((twidth_at _ _ HW.out _).mono (fun e w' h => ⟨h.1, h.2.symm⟩)))))
      refine wpQuiet_nil ?_
      intro _ hw'; obtain ⟨nq, hw''⟩ := hw'; subst hw''
      go_wp2
      go_roundw
      case rel => exact ⟨k + 1, by omega, by go_num, (below_drewN hb1 nq).setCell (by simp; omega) _, (H4.out.drewN nq).far (p := ⟨w1.heap.size + 1 + 1, k + 1, none⟩) (by simp; omega) _, HSET.out _ HR.out⟩
      case measure => simp [intOf]; omega
    · obtain rfl : n = k := by omega
      clear hkn hk
      go_wp2
      have hTS : Hid (tot = toksGo ps (n + 1) 0 []) := by have := HT.out; unfold toks at this; rw [HN.out] at this; exact hide this
      clear HT
      go_loopg [12, 11] n (fun gk iv v wr => ∃ (i f : Nat) (acc : List Tok), i + gk = n ∧ n < f + i ∧ acc.length ≤ 300 ∧ iv = .int .i64 i ∧ wr.ownsRow (w1.heap.size + 1 + 1 + 1) 33 4 v acc.length (tokRow acc) ∧
          Below w1.heap.size w1 wr ∧ Blk wr w1.heap.size 43 #[.slice A n c] ∧ wr.rowIs (w1.heap.size + 1 + 1) 3 (n + 1) (atF ps n) ∧ Hid (tot = toksGo ps f i acc))
      case atStart => exact ⟨0, n + 1, [], by omega, by omega, by simp, rfl, World.ownsRow_nil _ _ _ _, hb1, b4, hrow, hTS⟩
      case round =>
        clear hb1 b4 hrow hTS
        obtain ⟨i, f, acc, hig, hf, hacc, rfl, hown, hb1, b4, hrow, HR⟩ := hrel
        have k4 : wr.cell? ⟨w1.heap.size, 0, none⟩ = some (.slice A n c) := b4.cell 0
        have l4 := b4.lt
        by_cases hin : i < n
        · obtain ⟨b, off, p, hA, hb, c0, HP, HS, HC, hp0, hp1⟩ := point_at HN HA (hrd.below hb1 (Nat.le_refl _)) hin
          subst hA
          have hbz : b < wr.heap.size := by have := hb1.size; omega
          obtain ⟨f, rfl⟩ : ∃ f', f = f' + 1 := ⟨f - 1, by omega⟩
          obtain ⟨q, hq⟩ : ∃ q, q = cl ps i := ⟨_, rfl⟩
          rw [← hq] at HC
          by_cases h5 : q = 5
          · have he := HR.out.trans (toksGo_space (by rw [HN.out]; exact hin) (by rw [← hq]; exact h5))
            subst h5
            have HE := hide he
            have H4 := hide b4
            have HRW := hide hrow
            have HO := hide hown
            have hrl := hrow.lt
            clear he HR hq b4 hrow hown
            go_wp2_with fail
            refine (classOf_at _ _ HS.out HC.out _).mono ?_
            rintro e w2 ⟨rfl, hb2⟩
            go_wp2
            go_roundg (gk - 1)
            case measure => omega
            case rel => exact ⟨i + 1, f, acc, by omega, by omega, hacc, by go_num, own_below HO.out hb2 (Nat.le_refl _), hb1.trans (hb2.mono hb1.size), H4.out.below hb2 l4, HRW.out.of_block (hb2.block _ hrl), HE⟩
          · have q5 : (q == 5) = false := by simp [h5]
            have hcq : cl ps i = q := hq.symm
            have HQ := hide hcq
            have HR2 := hide (HR.out.trans (toksGo_tok (by rw [HN.out]; exact hin) (by rw [← hq]; exact h5)))
            have H4 := hide b4
            have HRW := hide hrow
            have HO := hide hown
            have hrl := hrow.lt
            clear h5 hq hcq HR b4 hrow hown
            go_upto_block 4 with (go_at_call 28; refine (classOf_at _ _ HS.out HC.out _).mono ?_; rintro e w2 ⟨rfl, hb2⟩)
            have k42 := keep_cell hb2 k4 l4
            have hz2 := hb2.size
            obtain ⟨J, hJ⟩ : ∃ J, J = tokJ ps i := ⟨_, rfl⟩
            obtain ⟨K, hK⟩ : ∃ K, K = tokK ps i := ⟨_, rfl⟩
            have HJT := hide hJ
            have HKT := hide hK
            clear hJ hK
            go_cut [12, 13, 14] from 60 to 135 (fun s12 s13 s14 wx => s12 = .int .i64 i ∧ s13 = .int .i64 J ∧ s14 = .int .i64 K ∧ Below w2.heap.size w2 wx)
            case first =>
              have hb12 : Below w1.heap.size w1 w2 := hb1.trans (hb2.mono hb1.size)
              have l42 : w1.heap.size < w2.heap.size := by omega
              clear hb1 hb2 c0 k4 l4 hbz HO H4 HRW HR2 hrl
              have hJ := HJT.out
              have hK := HKT.out
              clear HJT HKT
              by_cases h2 : q = 2
              · have e1 : K = 1 := by rw [hK]; unfold tokK; rw [if_pos (by rw [HQ.out]; exact h2)]
                have e2 : J = wEnd ps (n + 1) (i + 1) := by rw [hJ]; unfold tokJ; rw [if_pos (by rw [HQ.out]; exact h2), HN.out]
                subst e1
                subst h2
                have HJ0 := hide e2
                clear e2 hJ hK
                go_wp2
                go_loopw [13] (fun jv wr2 => ∃ j f2 : Nat, i < j ∧ j ≤ n ∧ n < f2 + j ∧ jv = .int .i64 j ∧ Below w2.heap.size w2 wr2 ∧ Hid (J = wEnd ps f2 j)) (fun jv _ => n - (intOf jv).toNat)
                case atStart => exact ⟨i + 1, n + 1, by omega, by omega, by omega, by go_num, Below.refl _ _, HJ0⟩
                case round =>
                  clear HJ0
                  obtain ⟨j, f2, hj1, hj2, hf2, rfl, hb3, HJ⟩ := hrel
                  have k43 := keep_cell hb3 k42 l42
                  have hb13 : Below w1.heap.size w1 wr := hb12.trans (hb3.mono hb12.size)
                  have hI := hide (inside_any ps j w1.heap.size w1.heap.size n c (some ⟨b, off, none⟩) wr k43 HN hn4 (hrd.below hb13 (Nat.le_refl _)) hb13.size HA (by omega))
                  have l43 : w1.heap.size < wr.heap.size := by have := hb3.size; omega
                  cases hB : insB ps j
                  · rw [hB] at hI
                    by_cases hjn : j + 1 < n
                    · obtain ⟨bj, oj, pj, hAj, _, _, HPj, _, _, hpj0, hpj1⟩ := point_at HN HA hrd (show j < n by omega)
                      obtain ⟨bk, ok, pk, hAk, hbk, ck, HPk, HSk, HCk, hpk0, hpk1⟩ := point_at HN HA hrd hjn
                      have cj := hrd
                      obtain ⟨bj', oj', pj', hAj', hbj', cj', HPj', _⟩ := point_at HN HA hrd (show j < n by omega)
                      simp only [Option.some.injEq, Addr.mk.injEq, and_true] at hAj hAk hAj'
                      obtain ⟨rfl, rfl⟩ := hAj
                      obtain ⟨rfl, rfl⟩ := hAk
                      obtain ⟨rfl, rfl⟩ := hAj'
                      obtain rfl : pj' = pj := HPj'.out.symm.trans HPj.out
                      have cj0 := keep_cell hb13 cj' hbj'
                      have ck0 := keep_cell hb13 ck hbk
                      have hbz3 : b < wr.heap.size := by have := hb13.size; omega
                      by_cases hd : pj' = 45 ∨ pj' = 39
                      · by_cases hc2 : cl ps (j + 1) = 2
                        · have hw : wOK ps j = true := by
                            unfold wOK; rw [hB, HN.out, HPj.out, hc2]
                            rcases hd with hd | hd <;> simp [hjn, hd]
                          have HJ2 := hide (HJ.out.trans (wEnd_ok hw (by rw [HN.out]; omega)))
                          rw [hc2] at HCk
                          clear hw HJ hc2 hB cj
                          rcases hd with rfl | rfl
                          all_goals
                            go_wp2_with fail
                            refine hI.out.mono ?_
                            rintro e w3 ⟨rfl, hb4⟩
                            have k44 := keep_cell hb4 k43 l43
                            have cj1 := keep_cell hb4 cj0 hbz3
                            have ck1 := keep_cell hb4 ck0 hbz3
                            have hz3 := hb4.size
                            have l44 : w1.heap.size < w3.heap.size := by omega
                            have hbz4 : b < w3.heap.size := by omega
                            go_wp2_with fail
                            refine (classOf_at _ _ HSk.out HCk.out _).mono ?_
                            rintro e w4 ⟨rfl, hb5⟩
                            go_wp2
                            go_roundw
                            case rel => exact ⟨j + 1, f2 - 1, by omega, by omega, by omega, by go_num, hb3.trans ((hb4.trans (hb5.mono hz3)).mono hb3.size), HJ2⟩
                            case measure => simp [intOf]; omega
                        · have hw : wOK ps j = false := by
                            unfold wOK; rw [hB, HN.out, HPj.out]; simp [hc2]
                          have HJ2 := hide (HJ.out.trans (wEnd_no hw))
                          obtain ⟨ck', hck'⟩ : ∃ x, x = cl ps (j + 1) := ⟨_, rfl⟩
                          rw [← hck'] at HCk hc2
                          have hc2b : (ck' == 2) = false := by simp [hc2]
                          clear hw HJ hc2 hB cj hck'
                          rcases hd with rfl | rfl
                          all_goals
                            go_wp2_with fail
                            refine hI.out.mono ?_
                            rintro e w3 ⟨rfl, hb4⟩
                            have k44 := keep_cell hb4 k43 l43
                            have cj1 := keep_cell hb4 cj0 hbz3
                            have ck1 := keep_cell hb4 ck0 hbz3
                            have hz3 := hb4.size
                            have l44 : w1.heap.size < w3.heap.size := by omega
                            have hbz4 : b < w3.heap.size := by omega
                            go_wp2_with fail
                            refine (classOf_at _ _ HSk.out HCk.out _).mono ?_
                            rintro e w4 ⟨rfl, hb5⟩
                            go_wp2_with fail
                            go_meet
                            exact ⟨rfl, by rw [HJ2.out], rfl, hb3.trans ((hb4.trans (hb5.mono hz3)).mono hb3.size)⟩
                      · have hw : wOK ps j = false := by
                          unfold wOK; rw [hB, HN.out, HPj.out]; simp at hd; simp [hd.1, hd.2]
                        have HJ2 := hide (HJ.out.trans (wEnd_no hw))
                        have d1 : (pj' == 45) = false := by simp at hd; simp [hd.1]
                        have d2 : (pj' == 39) = false := by simp at hd; simp [hd.2]
                        clear hw HJ hB cj hd
                        go_wp2_with fail
                        refine hI.out.mono ?_
                        rintro e w3 ⟨rfl, hb4⟩
                        have k44 := keep_cell hb4 k43 l43
                        have cj1 := keep_cell hb4 cj0 hbz3
                        have hz3 := hb4.size
                        have l44 : w1.heap.size < w3.heap.size := by omega
                        have hbz4 : b < w3.heap.size := by omega
                        go_wp2_with fail
                        go_meet
                        exact ⟨rfl, by rw [HJ2.out], rfl, hb3.trans (hb4.mono hb3.size)⟩
                    · have hw : wOK ps j = false := by
                        unfold wOK; rw [hB, HN.out]; simp [hjn]
                      have HJ2 := hide (HJ.out.trans (wEnd_no hw))
                      clear hw HJ hB
                      go_wp2_with fail
                      refine hI.out.mono ?_
                      rintro e w3 ⟨rfl, hb4⟩
                      have k44 := keep_cell hb4 k43 l43
                      have hz3 := hb4.size
                      have l44 : w1.heap.size < w3.heap.size := by omega
                      go_wp2_with fail
                      go_meet
                      exact ⟨rfl, by rw [HJ2.out], rfl, hb3.trans (hb4.mono hb3.size)⟩
                  · rw [hB] at hI
                    have hw : wOK ps j = true := by unfold wOK; rw [hB]; rfl
                    have hjl : j < n := by have := wOK_lt hw; rw [HN.out] at this; exact this
                    have HJ2 := hide (HJ.out.trans (wEnd_ok hw (by rw [HN.out]; omega)))
                    clear hw HJ hB
                    go_wp2_with fail
                    refine hI.out.mono ?_
                    rintro e w3 ⟨rfl, hb4⟩
                    go_wp2
                    go_roundw
                    case rel => exact ⟨j + 1, f2 - 1, by omega, by omega, by omega, by go_num, hb3.trans (hb4.mono hb3.size), HJ2⟩
                    case measure => simp [intOf]; omega
              · by_cases h4 : q = 4
                · have e1 : K = 2 := by rw [hK]; unfold tokK; rw [if_neg (by rw [HQ.out]; exact h2), if_pos (by rw [HQ.out]; exact h4)]
                  have e2 : J = nEnd ps (n + 1) (i + 1) := by rw [hJ]; unfold tokJ; rw [if_neg (by rw [HQ.out]; exact h2), if_pos (by rw [HQ.out]; exact h4), HN.out]
                  subst e1
                  subst h4
                  have HJ0 := hide e2
                  clear e2 hJ hK h2
                  go_wp2
                  go_loopw [13] (fun jv wr2 => ∃ j f2 : Nat, i < j ∧ j ≤ n ∧ n < f2 + j ∧ jv = .int .i64 j ∧ Below w2.heap.size w2 wr2 ∧ Hid (J = nEnd ps f2 j)) (fun jv _ => n - (intOf jv).toNat)
                  case atStart => exact ⟨i + 1, n + 1, by omega, by omega, by omega, by go_num, Below.refl _ _, HJ0⟩
                  case round =>
                    clear HJ0
                    obtain ⟨j, f2, hj1, hj2, hf2, rfl, hb3, HJ⟩ := hrel
                    have k43 := keep_cell hb3 k42 l42
                    have hb13 : Below w1.heap.size w1 wr := hb12.trans (hb3.mono hb12.size)
                    have hI := hide (digit_any ps j w1.heap.size w1.heap.size n c (some ⟨b, off, none⟩) wr k43 HN hn4 (hrd.below hb13 (Nat.le_refl _)) hb13.size HA (by omega))
                    have l43 : w1.heap.size < wr.heap.size := by have := hb3.size; omega
                    cases hB : digB ps j
                    · rw [hB] at hI
                      by_cases hjn : j < n
                      · obtain ⟨bj', oj', pj', hAj', hbj', cj', HPj', _⟩ := point_at HN HA hrd hjn
                        simp only [Option.some.injEq, Addr.mk.injEq, and_true] at hAj'
                        obtain ⟨rfl, rfl⟩ := hAj'
                        have cj0 := keep_cell hb13 cj' hbj'
                        have hbz3 : b < wr.heap.size := by have := hb13.size; omega
                        by_cases hd : pj' = 46 ∨ pj' = 44
                        · have hI2 := fun (W : World) (k4 : W.cell? ⟨w1.heap.size, 0, none⟩ = some (.slice (some ⟨b, off, none⟩) n c)) (hW : Below w1.heap.size w1 W) => digit_any ps (j + 1) w1.heap.size w1.heap.size n c (some ⟨b, off, none⟩) W k4 HN hn4 (hrd.below hW (Nat.le_refl _)) hW.size HA (by omega)
                          have e5 : ((j + 1 : Nat) : Int) = (j : Int) + 1 := by omega
                          rw [e5] at hI2
                          clear e5
                          obtain ⟨bb, hbb⟩ : ∃ bb, bb = digB ps (j + 1) := ⟨_, rfl⟩
                          rw [← hbb] at hI2
                          have HI2 := hide hI2
                          clear hI2
                          cases bb
                          · have hw : nOK ps j = false := by
                              unfold nOK; rw [hB, ← hbb]; simp
                            have HJ2 := hide (HJ.out.trans (nEnd_no hw))
                            clear hw HJ hB hbb
                            rcases hd with rfl | rfl
                            all_goals
                              go_wp2_with fail
                              refine hI.out.mono ?_
                              rintro e w3 ⟨rfl, hb4⟩
                              have k44 := keep_cell hb4 k43 l43
                              have cj1 := keep_cell hb4 cj0 hbz3
                              have hz3 := hb4.size
                              have l44 : w1.heap.size < w3.heap.size := by omega
                              have hbz4 : b < w3.heap.size := by omega
                              go_wp2_with fail
                              refine (HI2.out _ k44 (hb13.trans (hb4.mono hb13.size))).mono ?_
                              rintro e w4 ⟨rfl, hb5⟩
                              go_wp2_with fail
                              go_meet
                              exact ⟨rfl, by rw [HJ2.out], rfl, hb3.trans ((hb4.trans (hb5.mono hz3)).mono hb3.size)⟩
                          · have hw : nOK ps j = true := by
                              unfold nOK; rw [hB, HN.out, HPj'.out, ← hbb]
                              rcases hd with hd | hd <;> simp [hjn, hd]
                            have HJ2 := hide (HJ.out.trans (nEnd_ok hw (by rw [HN.out]; omega)))
                            clear hw HJ hB hbb
                            rcases hd with rfl | rfl
                            all_goals
                              go_wp2_with fail
                              refine hI.out.mono ?_
                              rintro e w3 ⟨rfl, hb4⟩
                              have k44 := keep_cell hb4 k43 l43
                              have cj1 := keep_cell hb4 cj0 hbz3
                              have hz3 := hb4.size
                              have l44 : w1.heap.size < w3.heap.size := by omega
                              have hbz4 : b < w3.heap.size := by omega
                              go_wp2_with fail
                              refine (HI2.out _ k44 (hb13.trans (hb4.mono hb13.size))).mono ?_
                              rintro e w4 ⟨rfl, hb5⟩
                              go_wp2
                              go_roundw
                              case rel => exact ⟨j + 1, f2 - 1, by omega, by omega, by omega, by go_num, hb3.trans ((hb4.trans (hb5.mono hz3)).mono hb3.size), HJ2⟩
                              case measure => simp [intOf]; omega
                        · have hw : nOK ps j = false := by
                            unfold nOK; rw [hB, HN.out, HPj'.out]; simp at hd; simp [hd.1, hd.2]
                          have HJ2 := hide (HJ.out.trans (nEnd_no hw))
                          have d1 : (pj' == 46) = false := by simp at hd; simp [hd.1]
                          have d2 : (pj' == 44) = false := by simp at hd; simp [hd.2]
                          clear hw HJ hB hd
                          go_wp2_with fail
                          refine hI.out.mono ?_
                          rintro e w3 ⟨rfl, hb4⟩
                          have k44 := keep_cell hb4 k43 l43
                          have cj1 := keep_cell hb4 cj0 hbz3
                          have hz3 := hb4.size
                          have l44 : w1.heap.size < w3.heap.size := by omega
                          have hbz4 : b < w3.heap.size := by omega
                          go_wp2_with fail
                          go_meet
                          exact ⟨rfl, by rw [HJ2.out], rfl, hb3.trans (hb4.mono hb3.size)⟩
                      · have hw : nOK ps j = false := by
                          unfold nOK; rw [hB, HN.out]; simp [hjn]
                        have HJ2 := hide (HJ.out.trans (nEnd_no hw))
                        clear hw HJ hB
                        go_wp2_with fail
                        refine hI.out.mono ?_
                        rintro e w3 ⟨rfl, hb4⟩
                        have k44 := keep_cell hb4 k43 l43
                        have hz3 := hb4.size
                        have l44 : w1.heap.size < w3.heap.size := by omega
                        go_wp2_with fail
                        go_meet
                        exact ⟨rfl, by rw [HJ2.out], rfl, hb3.trans (hb4.mono hb3.size)⟩
                    · rw [hB] at hI
                      have hw : nOK ps j = true := by unfold nOK; rw [hB]; rfl
                      have hjl : j < n := by have := nOK_lt hw; rw [HN.out] at this; exact this
                      have HJ2 := hide (HJ.out.trans (nEnd_ok hw (by rw [HN.out]; omega)))
                      clear hw HJ hB
                      go_wp2_with fail
                      refine hI.out.mono ?_
                      rintro e w3 ⟨rfl, hb4⟩
                      go_wp2
                      go_roundw
                      case rel => exact ⟨j + 1, f2 - 1, by omega, by omega, by omega, by go_num, hb3.trans (hb4.mono hb3.size), HJ2⟩
                      case measure => simp [intOf]; omega
                · have e2 : J = i + 1 := by rw [hJ]; unfold tokJ; rw [if_neg (by rw [HQ.out]; exact h2), if_neg (by rw [HQ.out]; exact h4)]
                  have q2 : (q == 2) = false := by simp [h2]
                  have q4 : (q == 4) = false := by simp [h4]
                  by_cases h6 : q = 6
                  · have e1 : K = 3 := by rw [hK]; unfold tokK; rw [if_neg (by rw [HQ.out]; exact h2), if_neg (by rw [HQ.out]; exact h4), if_pos (by rw [HQ.out]; exact h6)]
                    subst e1
                    subst h6
                    have HJ2 := hide e2
                    clear e2 hJ hK h2 h4
                    go_wp2_with fail
                    go_meet
                    exact ⟨rfl, by rw [HJ2.out]; go_num, rfl, Below.refl _ _⟩
                  · have e1 : K = 4 := by rw [hK]; unfold tokK; rw [if_neg (by rw [HQ.out]; exact h2), if_neg (by rw [HQ.out]; exact h4), if_neg (by rw [HQ.out]; exact h6)]
                    have q6 : (q == 6) = false := by simp [h6]
                    subst e1
                    have HJ2 := hide e2
                    clear e2 hJ hK h2 h4 h6
                    go_wp2_with fail
                    go_meet
                    exact ⟨rfl, by rw [HJ2.out]; go_num, rfl, Below.refl _ _⟩
            case rest =>
              obtain ⟨rfl, rfl, rfl, hb3⟩ := hcut
              have hb02 : Below w1.heap.size w1 w2 := hb1.trans (hb2.mono hb1.size)
              have hb0c : Below w1.heap.size w1 wc := hb02.trans (hb3.mono hb02.size)
              have hb2c : Below wr.heap.size wr wc := hb2.trans (hb3.mono hb2.size)
              have bRc := (bR.below hb0c hz1)
              have H4c := hide (H4.out.below hb2c l4)
              have hrow := HRW.out.of_block (hb2c.block _ hrl)
              have HOc := hide (own_below HO.out hb2c (Nat.le_refl _))
              have hJb := tokJ_bd (ps := ps) (i := i) (by rw [HN.out]; exact hin)
              rw [HN.out, ← HJT.out] at hJb
              obtain ⟨hJ1, hJ2⟩ := hJb
              obtain ⟨A0, c9, hv9, hnc9, hcm9⟩ := own_value HO.out
              subst hv9
              unfold maxLen at hcm9
              by_cases h300 : acc.length = 300
              · have he : tot.length > 300 := by
                  rw [HR2.out]
                  have := toksGo_le ps f (tokJ ps i) (acc ++ [tokAt ps i])
                  simp at this; omega
                have HE := hide (show cutB tot = ((2, -1), []) by unfold cutB; rw [if_pos he])
                have q0 : wc.cell? ⟨w.heap.size, 0, none⟩ = some (.int .i64 0) := bRc.cell 0
                have q1 : wc.cell? ⟨w.heap.size, 1, none⟩ = some (.int .i64 0) := bRc.cell 1
                have f0 := bRc.frozen 0
                have f1 := bRc.frozen 1
                have hzc := bRc.lt
                have hbwc : Below w.heap.size w wc := hbw.trans (hb0c.mono hbw.size)
                clear he HR2 bRc hrow
                rw [h300]
                clear h300
                go_wp2_with fail
                refine (tfault_any _ _ _).mono ?_
                rintro e w5 ⟨rfl, hb5⟩
                have hz5 : w.heap.size < w5.heap.size := by have := hb5.size; omega
                have q0 := keep_cell hb5 q0 hzc
                have q1 := keep_cell hb5 q1 hzc
                have f0 := keep_free hb5 f0 hzc
                have f1 := keep_free hb5 f1 hzc
                have hbw5 : Below w.heap.size w w5 := hbwc.trans (hb5.mono hbwc.size)
                go_wp2
                rw [HE.out]
                exact bodyPost_ret (v := .tuple #[.slice none 0 0, .agg #[.int .i64 2, .int .i64 (-1)]]) (by simp [results, Tryd.results12, go_sem, q0, q1, f0, f1, hz5]) rfl ⟨_, rfl, World.ownsRow_nil _ _ _ _, by go_grown⟩
              · have c300 : ((acc.length : Int) == 300) = false := by simp; omega
                have hA0 := hrow.cell (i := i) (by omega)
                have hA1 := hrow.cell (i := J) (by omega)
                have e0 : atF ps n i = .int .i64 (ofs ps i : Int) := by unfold atF; rw [if_pos (by omega)]
                have e1 : atF ps n J = .int .i64 (ofs ps J : Int) := by unfold atF; rw [if_pos hJ2]
                rw [e0] at hA0
                rw [e1] at hA1
                have hmon := ofs_mono ps (show i ≤ J by omega)
                have htl := ofs_total ps J
                rw [← HG.out] at htl
                have hsl0 : s.data.toList.length = s.size := by simp
                rw [hsl0] at htl
                have hsub := sub_take ps (show i ≤ J by omega)
                have hT : s.extract (ofs ps i) (ofs ps J) = ⟨(sub ps i J).toArray⟩ := by rw [Lib.extract_eq, HG.out, hsub]
                have htok : tokVals (tokAt ps i) = [.int .i64 K, .int .i64 (ofs ps i : Int), .int .i64 (ofs ps J : Int), .string (s.extract (ofs ps i) (ofs ps J))] := by
                  rw [hT]; unfold tokAt tokVals; rw [← HKT.out, ← HJT.out]
                have hsl := run_cut s (ofs ps i) (ofs ps J) hmon htl
                obtain ⟨T, hTT⟩ : ∃ T, T = s.extract (ofs ps i) (ofs ps J) := ⟨_, rfl⟩
                rw [← hTT] at hsl htok
                obtain ⟨oi, hoi⟩ : ∃ o, o = ofs ps i := ⟨_, rfl⟩
                obtain ⟨oj, hoj⟩ : ∃ o, o = ofs ps J := ⟨_, rfl⟩
                rw [← hoi, ← hoj] at hsl htok
                rw [← hoi] at hA0
                rw [← hoj] at hA1
                have hrow1 : tokRow [tokAt ps i] = [.int .i64 K, .int .i64 (oi : Int), .int .i64 (oj : Int), .string T] := by rw [← htok]; simp [tokRow]
                have HROW := hide hrow1
                have HRC := hide hrow
                have hgl := hrow.lt
                have HR3 := hide (show tot = toksGo ps f J (acc ++ [tokAt ps i]) by rw [HJT.out]; exact HR2.out)
                have hacc2 : acc.length < 300 := by omega
                clear hrow hrow1 htok hT hTT hsub hmon htl hoi hoj e0 e1 hsl0 HR2 bRc h300
                obtain ⟨m, hm⟩ : ∃ m, m = acc.length := ⟨_, rfl⟩
                have HOc := HOc.out
                rw [← hm] at HOc c300 hacc2 hnc9
                rw [← hm]
                have HM := hide hm
                have HOc := hide HOc
                clear hm
                go_wp2
                have j3 : (0 : Int) ≤ (i : Int) := by omega
                have j4 : (0 : Int) ≤ (J : Int) := by omega
                have j7 : (i : Int) < (n : Int) + 1 := by omega
                have j8 : (i : Int) ≤ (n : Int) := by omega
                have j9 : (J : Int) < (n : Int) + 1 := by omega
                have j10 : (J : Int) ≤ (n : Int) := by omega
                refine wp_mix (fun w' => w'.cell? ⟨w1.heap.size + 1 + 1, i, none⟩ = some (.int .i64 (oi : Int)) ∧ w'.cell? ⟨w1.heap.size + 1 + 1, J, none⟩ = some (.int .i64 (oj : Int))) 22 [(0, false), (1, false), (2, false), (3, false), (4, false), (5, false), (6, false), (7, false), (8, false), (9, false), (10, false), (11, false), (12, false), (13, false), (14, false), (15, false), (16, false), (17, false), (18, false), (19, false), (20, false), (21, true)] (by kernel_rfl) (by kernel_rfl) ?_ ?_
                · go_simp
                simp only [List.drop_succ_cons, List.drop_zero]
                repeat (refine mix_q (v := ?_) (by rfl) (by rfl) ?_ ?_; rotate_left; (focus (intro w' hC; (try dsimp only at hC); go_simp; (first | done | with_reducible rfl))); simp only [Act.put, List.setIfInBounds_toArray, List.set_cons_zero, List.set_cons_succ])
                refine mix_l (by rfl) (by rfl) (fun K hK => ?_)
                go_simp
                refine hK _ _ (by go_simp) ?_
                clear hK K
                refine mix_nil ?_; try simp only [Act.put, List.setIfInBounds_toArray, List.set_cons_zero, List.set_cons_succ]
                clear j3 j4 j7 j8 j9 j10
                go_wp2_with (at_builtin; refine wpList_append_own _ rfl (.tmp 140) (.tmp 161) 29 rfl (w1.heap.size + 1 + 1 + 1) 33 it _ 4 40 Tryd.underlying29 ht0 ht1 ht2 ht3 rfl (by omega) (.slice A0 m c9) m _ rfl (HOc.out.alloc _).drew ⟨wc.heap.size, 0, none⟩ 1 1 [.int .i64 K, .int .i64 (oi : Int), .int .i64 (oj : Int), .string T] rfl rfl (World.news_of_block (cs := #[.int .i64 K, .int .i64 (oi : Int), .int .i64 (oj : Int), .string T]) (t := 33) (fr := (0, 0)) ((Blk.at_ (by simp)).drew)) (by simp [Value.oneCell']) (by simp only [maxLen]; omega) (by omega) (by simp; have := hb0c.size; have := HRC.out.lt; omega) ?_; intro v' w6 hown6 hg6 _)
                refine NoPanic.normal ?_
                go_wp2
                go_roundg (n - J)
                case measure => omega
                case rel =>
                  have hlow : ∀ k, (Value.slice A0 m c9).ownBlock = some k → w1.heap.size + 1 + 1 + 1 ≤ k := fun k hk => (HOc.out.lt k hk).1
                  refine ⟨J, f, acc ++ [tokAt ps i], by omega, by omega, by simp; rw [← HM.out]; omega, rfl, ?_, ?_, ?_, ?_, HR3⟩
                  · rw [List.length_append, ← HM.out, tokRow_append, HROW.out]; exact hown6
                  · exact (below_drewN (hb0c.alloc hb0c.size _) 1).grown hg6 (by simp; have := hb0c.size; omega) (fun k hk => by have := hlow k hk; omega)
                  · exact ((H4c.out.alloc _).drew).grown hg6 (fun e => by have := hlow _ e.symm; omega)
                  · exact (HRC.out.alloc _).of_block (hg6.block _ (by simp; omega) (fun e => by have := hlow _ e.symm; omega))
        · have hi : i = n := by omega
          have he := HR.out.trans (toksGo_end (f := f) (acc := acc) (by rw [HN.out]; exact hin))
          have bRc := (bR.below hb1 hz1)
          have q0 : wr.cell? ⟨w.heap.size, 0, none⟩ = some (.int .i64 0) := bRc.cell 0
          have q1 : wr.cell? ⟨w.heap.size, 1, none⟩ = some (.int .i64 0) := bRc.cell 1
          have f0 := bRc.frozen 0
          have f1 := bRc.frozen 1
          have hzc := bRc.lt
          have hbwc : Below w.heap.size w wr := hbw.trans (hb1.mono hbw.size)
          have HE := hide (show cutB tot = ((0, 0), acc) by rw [he]; unfold cutB; rw [if_neg (by omega)])
          have HO := hide hown
          have hle : w.heap.size < w1.heap.size + 1 + 1 + 1 := by omega
          clear he HR bRc hrow b4 hown hb1 hi
          go_wp2
          rw [HE.out]
          exact bodyPost_ret (v := .tuple #[u11, .agg #[.int .i64 0, .int .i64 0]]) (by simp [results, Tryd.results12, go_sem, q0, q1, f0, f1, hzc]) rfl ⟨u11, rfl, own_mono (ownsRow_setCell_below (ownsRow_setCell_below HO.out (a := ⟨w.heap.size, 0, none⟩) hle _) (a := ⟨w.heap.size, 1, none⟩) hle _) (by omega), by go_grown⟩
end Go.Proofs.YtcchpijadlgagaaDoor
