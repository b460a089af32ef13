/- The reference's Tokens: the tokens of a text. -/
import Derived.Test.YtcchpijadlgagaaDoorTkQ
import Derived.Test.YtcchpijadlgagaaDoorTkW
namespace Gm
open Go Go.RowKit
theorem Rd.sub {w : World} {B n : Nat} {b off : Nat} {ps : List Int} (h : Rd w B 1 (some ⟨b, off, none⟩) n (intCell ps)) (hl : ps.length = n) {i j : Nat} (hj : j ≤ n) : Rd w B 1 (some ⟨b, off + i, none⟩) (j - i) (intCell ((ps.take j).drop i)) := by
  intro hn
  obtain ⟨b', off', hA, hlt, hc⟩ := h (by omega)
  simp only [Option.some.injEq, Addr.mk.injEq, and_true] at hA
  obtain ⟨rfl, rfl⟩ := hA
  refine ⟨b, off + i, rfl, hlt, fun k jj hk hjj => ?_⟩
  obtain rfl : jj = 0 := by omega
  have h1 := hc (i + k) 0 (by omega) (by omega)
  have e : off + i + (k * 1 + 0) = off + ((i + k) * 1 + 0) := by omega
  rw [e, h1]
  have h2 : i + k < j := by omega
  simp [intCell, List.getD, List.getElem?_drop, h2]
end Gm
namespace Go.Proofs.YtcchpijadlgagaaDoor
open Go.RowKit Gm
set_option linter.unusedSimpArgs false
set_option linter.unusedVariables false
theorem run_subI (b off n c i j : Nat) (hij : i ≤ j) (hjn : j ≤ n) (hnc : n ≤ c) (hic : i < c) (W : World) :
    (Instr.slice 43 (.slice (some ⟨b, off, none⟩) n c) (some (.int .i64 (i : Int))) (some (.int .i64 (j : Int))) none).run Tryd.prog W = .ok (.slice (some ⟨b, off + i, none⟩) (j - i) (c - i)) W := by
  have hne : ¬ c - i = 0 := by omega
  have hne2 : ¬ c = i := by omega
  by_cases h0 : i = 0
  · subst h0
    simp [go_sem, sliced, Addr.add, hne, hne2, (by omega : (j : Int) ≤ c), (by omega : j ≤ c)]
  · simp [go_sem, sliced, Addr.add, hne, hne2, h0, (by omega : (i : Int) ≤ j), (by omega : (j : Int) ≤ c), (by omega : j ≤ c), hij]
set_option maxRecDepth 100000 in
theorem tokens_bad (s : ByteArray) (w : World) (hs : s.size ≤ maxLen) (hq : (decR s.data.toList).1.1 ≠ 0) (hq2 : (decR s.data.toList).2 = []) :
    Calls Tryd.prog 31 #[.string s] w fun e w' => e = .returned (.tuple #[.slice none 0 0, .agg #[.int .i64 (decR s.data.toList).1.1, .int .i64 (decR s.data.toList).1.2]]) ∧ Below w.heap.size w w' := by
  have hne := fun a b c d W => run_neq_fault a b c d W
  have hD := rpoints_any s (w.alloc (Obj.cells #[.int .i64 0, .int .i64 0] 25)) hs
  obtain ⟨a1, h1⟩ : ∃ x, x = (decR s.data.toList).1.1 := ⟨_, rfl⟩
  obtain ⟨a2, h2⟩ : ∃ x, x = (decR s.data.toList).1.2 := ⟨_, rfl⟩
  rw [← h1] at hq
  simp only [← h1, ← h2] at hD ⊢
  have hfa := fEq_ne (b := a2) hq
  have HD := hide hD
  clear hD hq h1 h2 hq2 hs
  go_enter Tryd.func31, Tryd.ntmps31
  go_wp2_with fail
  refine HD.out.mono ?_
  rintro e w1 ⟨v, rfl, hown, hb1⟩
  clear HD hown
  have hz1 : w.heap.size < w1.heap.size := by have := hb1.size; simp at this; omega
  have hbw : Below w.heap.size w w1 := ((Below.refl _ _).alloc (Nat.le_refl _) _).trans (hb1.mono (by simp))
  have bR := (Blk.new w 25 #[.int .i64 0, .int .i64 0]).below hb1 (by simp)
  go_wp2
  generalize hW : World.alloc _ _ = W0
  have hbw0 : Below w.heap.size w W0 := by rw [← hW]; exact hbw.alloc hbw.size _
  have bR0 : Blk W0 w.heap.size 25 #[.int .i64 0, .int .i64 0] := by rw [← hW]; exact bR.alloc _
  have bF0 : Blk W0 w1.heap.size 25 #[.int .i64 a1, .int .i64 a2] := by rw [← hW]; exact Blk.new _ _ _
  have q0 : W0.cell? ⟨w.heap.size, 0, none⟩ = some (.int .i64 0) := bR0.cell 0
  have q1 : W0.cell? ⟨w.heap.size, 1, none⟩ = some (.int .i64 0) := bR0.cell 1
  have q2 : W0.cell? ⟨w1.heap.size, 0, none⟩ = some (.int .i64 a1) := bF0.cell 0
  have q3 : W0.cell? ⟨w1.heap.size, 1, none⟩ = some (.int .i64 a2) := bF0.cell 1
  have f0 := bR0.frozen 0
  have f1 := bR0.frozen 1
  have hz := bR0.lt
  have hzf := bF0.lt
  clear bR hb1 hW bR0 bF0 hbw
  refine wp_quiet_tail_lit 2 (by kernel_rfl) (by kernel_rfl) ?_
  simp only [List.take_succ_cons, List.take_zero, List.drop_succ_cons, List.drop_zero]
  repeat (quiet_step (fail))
  refine wpQuiet_nil ?_
  intro _ hw'; obtain ⟨nq, hw''⟩ := hw'; subst hw''
  go_wp2
  exact bodyPost_ret (v := .tuple #[.slice none 0 0, .agg #[.int .i64 a1, .int .i64 a2]]) (by simp [results, Tryd.results31, go_sem, q0, q1, f0, f1, hz]) rfl ⟨rfl, by go_grown; exact below_drewN hbw0 _⟩
set_option maxRecDepth 100000 in
set_option maxHeartbeats 4000000 in
theorem tokens_ok (s : ByteArray) (w : World) (hs : s.size ≤ maxLen) (ps : List Int) (hq : decR s.data.toList = ((0, 0), ps)) :
    Calls Tryd.prog 31 #[.string s] w fun e w' => ∃ v, e = .returned (.tuple #[v, .agg #[.int .i64 (cutB (toks ps)).1.1, .int .i64 (cutB (toks ps)).1.2]]) ∧
      w'.ownsRow w.heap.size 33 4 v (cutB (toks ps)).2.length (tokRow (cutB (toks ps)).2) ∧ Below w.heap.size w w' := by
  have hne := fun a b c d W => run_neq_fault a b c d W
  have hf0 : fEq 0 0 0 0 = true := rfl
  obtain ⟨it, ht0, ht1, ht2, ht3⟩ := info_parts tok_info
  have hD := rpoints_any s (w.alloc (Obj.cells #[.int .i64 0, .int .i64 0] 25)) hs
  rw [hq] at hD
  obtain ⟨g1, g2, g3⟩ := decR_ok hq
  have hlen := encL_len_le ps
  have hn4 : ps.length ≤ 4000 := by rw [← g2] at hlen; omega
  have HD := hide hD
  have HA := hide g1
  obtain ⟨n, hn⟩ : ∃ n, n = ps.length := ⟨_, rfl⟩
  rw [← hn] at hn4
  have HN := hide hn.symm
  obtain ⟨tot, htot⟩ : ∃ tot, tot = toks ps := ⟨_, rfl⟩
  rw [← htot]
  have HT := hide htot
  clear hD hq g1 g2 g3 hlen hs hn htot
  go_enter Tryd.func31, Tryd.ntmps31
  go_wp2_with fail
  refine HD.out.mono ?_
  rintro e w1 ⟨v, rfl, hown, hb1⟩
  clear HD
  have hown' : w1.ownsRow (w.heap.size + 1) 3 1 v n (intRow ps) := by rw [← HN.out]; have := hown; simpa using this
  clear hown
  obtain ⟨A, c, hv, hnc, hcm⟩ := own_value hown'
  subst hv
  unfold maxLen at hcm
  have hz1 : w.heap.size < w1.heap.size := by have := hb1.size; simp at this; omega
  have hbw : Below w.heap.size w w1 := ((Below.refl _ _).alloc (Nat.le_refl _) _).trans (hb1.mono (by simp))
  have bR := (Blk.new w 25 #[.int .i64 0, .int .i64 0]).below hb1 (by simp)
  have hrd : Rd w1 w1.heap.size 1 A n (intCell ps) := Rd.of_own hown' (HN.out ▸ intRow_at ps)
  clear hb1 hown'
  go_wp2
  generalize hW : World.alloc _ _ = W1
  have hb1 : Below w1.heap.size w1 W1 := by rw [← hW]; go_grown
  have hsz0 : w1.heap.size + 1 ≤ W1.heap.size := by rw [← hW]; simp
  clear hW
  have hTS : Hid (tot = toksGo ps (n + 1) 0 []) := by have := HT.out; unfold toks at this; rw [HN.out] at this; exact hide this
  clear HT
  go_loopg [8, 7, 6] n (fun gk iv av v wr => ∃ (i f o : Nat) (acc : List Tok), i + gk = n ∧ n < f + i ∧ acc.length ≤ i ∧ o ≤ 4 * i ∧ iv = .int .i64 i ∧ av = .int .i64 o ∧ Hid (o = ofs ps i) ∧ wr.ownsRow (w1.heap.size + 1) 33 4 v acc.length (tokRow acc) ∧
      Below w1.heap.size w1 wr ∧ w1.heap.size + 1 ≤ wr.heap.size ∧ Hid (tot = toksGo ps f i acc))
  case atStart => exact ⟨0, n + 1, 0, [], by omega, by omega, by simp, by omega, rfl, rfl, hide (ofs_zero ps).symm, World.ownsRow_nil _ _ _ _, hb1, hsz0, hTS⟩
  case round =>
    clear hb1 hTS hsz0
    obtain ⟨i, f, o, acc, hig, hf, hacc, ho4, rfl, rfl, HO, hown, hb1, hsz, HR⟩ := hrel
    by_cases hin : i < n
    · obtain ⟨b, off, p, hA, hb, c0, HP, HS, HC, hp0, hp1⟩ := point_at HN HA (hrd.below hb1 (Nat.le_refl _)) hin
      subst hA
      have hbz : b < wr.heap.size := by have := hb1.size; omega
      obtain ⟨f, rfl⟩ : ∃ f', f = f' + 1 := ⟨f - 1, by omega⟩
      obtain ⟨q, hq⟩ : ∃ q, q = cl ps i := ⟨_, rfl⟩
      rw [← hq] at HC
      by_cases h5 : q = 5
      · have he := HR.out.trans (toksGo_space (by rw [HN.out]; exact hin) (by rw [← hq]; exact h5))
        have hof := ofs_push (ps := ps) (i := i) (by rw [HN.out]; exact hin)
        rw [HP.out, ← HO.out] at hof
        have hw1 := enc1_len HS.out
        have hq4 := enc1_le p
        obtain ⟨z, hz⟩ : ∃ z, z = (enc1 p).length := ⟨_, rfl⟩
        rw [← hz] at hof hw1 hq4
        subst h5
        have HE := hide he
        have HW := hide hw1.symm
        have HOF := hide hof.symm
        have HOW := hide hown
        clear he HR hq hof hw1 hz hown
        go_wp2_with (first | (go_at_call 21; refine (rclass_at _ _ HC.out _).mono ?_; rintro e w' ⟨rfl, rfl⟩) | (go_at_call 37; refine (rwidth_at _ _ HW.out _).mono ?_; rintro e w' ⟨rfl, rfl⟩))
        go_roundg (gk - 1)
        case measure => omega
        case rel => exact ⟨i + 1, f, o + z, acc, by omega, by omega, by omega, by omega, by go_num, by go_num, HOF, HOW.out, hb1, hsz, HE⟩
      · have q5 : (q == 5) = false := by simp [h5]
        have HR2 := hide (HR.out.trans (toksGo_tok (by rw [HN.out]; exact hin) (by rw [← hq]; exact h5)))
        obtain ⟨J, hJ⟩ : ∃ J, J = tokJ ps i := ⟨_, rfl⟩
        obtain ⟨K, hK⟩ : ∃ K, K = tokK ps i := ⟨_, rfl⟩
        have hJb := tokJ_bd (ps := ps) (i := i) (by rw [HN.out]; exact hin)
        rw [HN.out, ← hJ] at hJb
        obtain ⟨hJ1, hJ2⟩ := hJb
        have hrb := fun K0 h => rb_tok (ps := ps) (i := i) (by rw [HN.out]; exact hin) K0 h
        rw [HN.out, ← hJ, ← hK, ← hq] at hrb
        have HRB := hide hrb
        have HJT := hide hJ
        have HKT := hide hK
        have HOW := hide hown
        have hic : i < c := by omega
        clear h5 hq HR hJ hK hrb hown
        have hstep : ∃ K0 : Int, ∃ b6 : Bool, (q == 6) = b6 ∧ K0 = (if b6 then 3 else 4) ∧ Hid (rb ps i (n + 1) (i + 1) K0 1 = (K, J - i)) := by
          by_cases h6 : q = 6
          · exact ⟨3, true, by simp [h6], rfl, hide (HRB.out 3 (by rw [if_pos h6]))⟩
          · exact ⟨4, false, by simp [h6], rfl, hide (HRB.out 4 (by rw [if_neg h6]))⟩
        obtain ⟨K0, b6, q6, hK0, HB0⟩ := hstep
        clear HRB
        cases b6
        all_goals
          simp only [if_true, if_false, Bool.false_eq_true] at hK0
          subst hK0
          go_wp2_with (go_at_call 21; refine (rclass_at _ _ HC.out _).mono ?_; rintro e w' ⟨rfl, rfl⟩)
          go_loop [11, 9, 10] (fun jv kv nv => ∃ (j f2 N : Nat) (K2 : Int), i < j ∧ j ≤ n + 1 ∧ n + 1 < f2 + j ∧ N ≤ n ∧ jv = .int .i64 j ∧ kv = .int .i64 K2 ∧ nv = .int .i64 N ∧ Hid (rb ps i f2 j K2 N = (K, J - i))) (fun jv _ _ => n + 1 - (intOf jv).toNat)
          case atStart => exact ⟨i + 1, n + 1, 1, _, by omega, by omega, by omega, by omega, by go_num, rfl, rfl, HB0⟩
          case round =>
            clear HB0
            obtain ⟨j, f2, N, K2, hj1, hj2, hf2, hN, rfl, rfl, rfl, HB⟩ := hrel
            by_cases hjn : j ≤ n
            · obtain ⟨f2, rfl⟩ : ∃ f', f2 = f' + 1 := ⟨f2 - 1, by omega⟩
              have hst : (if wordB (sl ps i j) = true then rb ps i f2 (j + 1) 1 (j - i) else if numB (sl ps i j) = true then rb ps i f2 (j + 1) 2 (j - i) else rb ps i f2 (j + 1) K2 N) = (K, J - i) := by
                have := HB.out; unfold rb at this; rw [if_pos (by rw [HN.out]; exact hjn)] at this; exact this
              have hsl := run_subI b off n c i j (by omega) hjn hnc hic
              have hsr := Rd.sub (hrd.below hb1 (Nat.le_refl _)) HN.out (i := i) hjn
              have hwd := wordly_any (some ⟨b, off + i, none⟩) (j - i) (c - i) (sl ps i j) wr w1.heap.size (sl_len (by rw [HN.out]; exact hjn)) (by omega) hsr
              have hnm := numeral_any (some ⟨b, off + i, none⟩) (j - i) (c - i) (sl ps i j) wr w1.heap.size (sl_len (by rw [HN.out]; exact hjn)) (by omega) hsr
              have ej : ((j - i : Nat) : Int) = (j : Int) - (i : Int) := by omega
              clear hsr HB
              cases hw : wordB (sl ps i j)
              · rw [hw] at hst hwd
                rw [if_neg (by simp)] at hst
                have HWD := hide hwd
                clear hwd hw
                cases hn2 : numB (sl ps i j)
                · rw [hn2] at hst hnm
                  rw [if_neg (by simp)] at hst
                  have HNM := hide hnm
                  have HE := hide hst
                  clear hnm hn2 hst ej
                  go_wp2_with (first | (go_at_call 22; refine HWD.out.mono ?_; rintro e w' ⟨rfl, rfl⟩) | (go_at_call 23; refine HNM.out.mono ?_; rintro e w' ⟨rfl, rfl⟩))
                  go_round
                  case rel => exact ⟨j + 1, f2, N, K2, by omega, by omega, by omega, hN, by go_num, rfl, rfl, HE⟩
                  case measure => simp [intOf]; omega
                · rw [hn2] at hst hnm
                  rw [if_pos rfl] at hst
                  have HNM := hide hnm
                  have HE := hide hst
                  have EJ := hide ej
                  clear hnm hn2 hst ej
                  go_wp2_with (first | (go_at_call 22; refine HWD.out.mono ?_; rintro e w' ⟨rfl, rfl⟩) | (go_at_call 23; refine HNM.out.mono ?_; rintro e w' ⟨rfl, rfl⟩))
                  go_round
                  case rel => exact ⟨j + 1, f2, j - i, 2, by omega, by omega, by omega, by omega, by go_num, rfl, by rw [EJ.out], HE⟩
                  case measure => simp [intOf]; omega
              · rw [hw] at hst hwd
                rw [if_pos rfl] at hst
                have HWD := hide hwd
                have HE := hide hst
                have EJ := hide ej
                clear hwd hw hst ej hnm
                go_wp2_with (go_at_call 22; refine HWD.out.mono ?_; rintro e w' ⟨rfl, rfl⟩)
                go_round
                case rel => exact ⟨j + 1, f2, j - i, 1, by omega, by omega, by omega, by omega, by go_num, rfl, by rw [EJ.out], HE⟩
                case measure => simp [intOf]; omega
            · have hrr : (K2, N) = (K, J - i) := by
                have := HB.out
                cases f2 with
                | zero => exact this
                | succ f2 => unfold rb at this; rw [if_neg (by rw [HN.out]; exact hjn)] at this; exact this
              obtain ⟨rfl, hNJ⟩ := Prod.mk.inj hrr
              have hiN : i + N = J := by omega
              clear hrr HB
              have hsl := run_subI b off n c i J (by omega) hJ2 hnc hic
              have eJ : (J : Int) = (i : Int) + (N : Int) := by omega
              rw [eJ] at hsl
              have hsr := Rd.sub (hrd.below hb1 (Nat.le_refl _)) HN.out (i := i) hJ2
              have hby := rbytes_any (some ⟨b, off + i, none⟩) (J - i) (c - i) (sl ps i J) wr w1.heap.size (sl_len (by rw [HN.out]; exact hJ2)) (by omega) (by omega) hsr (fun x hx => HA.out x (List.mem_of_mem_take (List.mem_of_mem_drop hx)))
              have hsub : encL (sl ps i J) = sub ps i J := rfl
              rw [hsub] at hby
              have hsl2 := sub_len ps (show i ≤ J by omega)
              have hofJ := ofs_le ps J
              obtain ⟨T, hT⟩ : ∃ T, T = (⟨(sub ps i J).toArray⟩ : ByteArray) := ⟨_, rfl⟩
              have hTz : T.size = (sub ps i J).length := by rw [hT]; simp [ByteArray.size]
              rw [← hT] at hby
              rw [← HO.out, ← hTz] at hsl2
              have htok : tokRow [tokAt ps i] = [.int .i64 K2, .int .i64 (o : Int), .int .i64 ((o : Int) + (T.size : Int)), .string T] := by
                have e9 : (ofs ps J : Int) = (o : Int) + (T.size : Int) := by omega
                simp only [tokRow, List.flatMap_cons, List.flatMap_nil, List.append_nil, tokAt, tokVals, ← HJT.out, ← HKT.out, ← HO.out, ← hT, e9]
              have HBY := hide hby
              have HTOK := hide htok
              have HSL2 := hide hsl2
              have HR3 := hide (show tot = toksGo ps f J (acc ++ [tokAt ps i]) by rw [HJT.out]; exact HR2.out)
              have hTb : T.size ≤ 16000 := by omega
              obtain ⟨m, hm⟩ : ∃ m, m = acc.length := ⟨_, rfl⟩
              have HOW2 := HOW.out
              rw [← hm] at HOW2 hacc
              have HM := hide hm
              have HOW2 := hide HOW2
              obtain ⟨A0, c9, hv9, hnc9, hcm9⟩ := own_value HOW2.out
              subst hv9
              unfold maxLen at hcm9
              have EJ := hide eJ
              clear hm hby htok hsl2 hsr hsub hT hTz HR2 hNJ eJ hofJ
              go_wp2_with fail
              refine HBY.out.mono ?_
              rintro e w3 ⟨rfl, hb3⟩
              have hown3 := own_below HOW2.out hb3 (Nat.le_refl _)
              have hb13 : Below w1.heap.size w1 w3 := hb1.trans (hb3.mono hb1.size)
              have hsz3 : w1.heap.size + 1 ≤ w3.heap.size := by have := hb3.size; omega
              have HO3 := hide hown3
              clear hb3 hown3 HOW2 HOW
              go_wp2_with (at_builtin; refine wpList_append_own _ rfl (.tmp 78) (.tmp 87) 29 rfl (w1.heap.size + 1) 33 it _ 4 40 Tryd.underlying29 ht0 ht1 ht2 ht3 rfl (by omega) (.slice A0 m c9) m _ rfl (HO3.out.alloc _) ⟨w3.heap.size, 0, none⟩ 1 1 [.int .i64 K2, .int .i64 (o : Int), .int .i64 ((o : Int) + (T.size : Int)), .string T] rfl rfl (World.news_of_block (cs := #[.int .i64 K2, .int .i64 (o : Int), .int .i64 ((o : Int) + (T.size : Int)), .string T]) (t := 33) (fr := (0, 0)) (Blk.at_ (by simp))) (by simp [Value.oneCell']) (by simp only [maxLen]; omega) (by omega) (by simp; omega) ?_; intro v' w6 hown6 hg6 _)
              go_roundg (n - J)
              case measure => omega
              case rel =>
                have hlow : ∀ k, (Value.slice A0 m c9).ownBlock = some k → w1.heap.size + 1 ≤ k := fun k hk => (HO3.out.lt k hk).1
                refine ⟨J, f, o + T.size, acc ++ [tokAt ps i], by omega, by omega, by simp; rw [← HM.out]; omega, by have := HSL2.out; have := ofs_le ps J; omega, by rw [EJ.out], by go_num, hide (HSL2.out), ?_, ?_, ?_, HR3⟩
                · rw [List.length_append, ← HM.out, tokRow_append, HTOK.out]; exact hown6
                · exact (hb13.alloc hb13.size _).grown hg6 (by simp; omega) (fun k hk => by have := hlow k hk; omega)
                · have := hg6.size; simp at this; omega
    · have he := HR.out.trans (toksGo_end (f := f) (acc := acc) (by rw [HN.out]; exact hin))
      have bRc := (bR.below hb1 hz1)
      have q0 : wr.cell? ⟨w.heap.size, 0, none⟩ = some (.int .i64 0) := bRc.cell 0
      have q1 : wr.cell? ⟨w.heap.size, 1, none⟩ = some (.int .i64 0) := bRc.cell 1
      have f0 := bRc.frozen 0
      have f1 := bRc.frozen 1
      have hzc := bRc.lt
      have hbwc : Below w.heap.size w wr := hbw.trans (hb1.mono hbw.size)
      obtain ⟨A0, c9, hv9, hnc9, hcm9⟩ := own_value hown
      subst hv9
      unfold maxLen at hcm9
      by_cases h300 : 300 < acc.length
      · have HE := hide (show cutB tot = ((2, -1), []) by rw [he]; unfold cutB; rw [if_pos h300])
        clear he HR bRc hown hb1
        have hac : acc.length ≤ 4000 := by omega
        go_wp2_with fail
        refine (rfault_any _ _ _).mono ?_
        rintro e w5 ⟨rfl, hb5⟩
        have hz5 : w.heap.size < w5.heap.size := by have := hb5.size; omega
        have q0 := keep_cell hb5 q0 hzc
        have q1 := keep_cell hb5 q1 hzc
        have f0 := keep_free hb5 f0 hzc
        have f1 := keep_free hb5 f1 hzc
        have hbw5 : Below w.heap.size w w5 := hbwc.trans (hb5.mono hbwc.size)
        go_wp2
        rw [HE.out]
        exact bodyPost_ret (v := .tuple #[.slice none 0 0, .agg #[.int .i64 2, .int .i64 (-1)]]) (by simp [results, Tryd.results31, go_sem, q0, q1, f0, f1, hz5]) rfl ⟨_, rfl, World.ownsRow_nil _ _ _ _, by go_grown⟩
      · have HE := hide (show cutB tot = ((0, 0), acc) by rw [he]; unfold cutB; rw [if_neg h300])
        have HO9 := hide hown
        have hle : w.heap.size < w1.heap.size + 1 := by omega
        clear he HR bRc hown hb1
        go_wp2
        rw [HE.out]
        exact bodyPost_ret (v := .tuple #[.slice A0 acc.length c9, .agg #[.int .i64 0, .int .i64 0]]) (by simp [results, Tryd.results31, go_sem, q0, q1, f0, f1, hzc]) rfl ⟨_, rfl, own_mono (ownsRow_setCell_below (ownsRow_setCell_below HO9.out (a := ⟨w.heap.size, 0, none⟩) hle _) (a := ⟨w.heap.size, 1, none⟩) hle _) (by omega), by go_grown⟩
end Go.Proofs.YtcchpijadlgagaaDoor
