/- The law TokenCutsCover, walked: it returns true. -/
import Derived.Test.YthblidbpicilkaaDoorTkK
namespace Go.Proofs.YthblidbpicilkaaDoor
open Go.RowKit Gm
set_option linter.unusedSimpArgs false
set_option linter.unusedVariables false
theorem cutR_cases (l : List UInt8) : (∃ ps, decR l = ((0, 0), ps) ∧ cutR l = ((0, 0), toks ps) ∧ (toks ps).length ≤ 300) ∨ ((cutR l).1.1 ≠ 0 ∧ (cutR l).2 = []) := by
  rcases decR_cases l with ⟨ps, h⟩ | ⟨h1, h2⟩
  · have e : cutR l = cutB (toks ps) := by unfold cutR; rw [h]; exact if_pos rfl
    by_cases h3 : 300 < (toks ps).length
    · right; rw [e]; unfold cutB; rw [if_pos h3]; exact ⟨by simp, rfl⟩
    · left; refine ⟨ps, h, ?_, by omega⟩; rw [e]; unfold cutB; rw [if_neg h3]
  · right
    have e : cutR l = ((decR l).1, []) := by unfold cutR; rw [if_neg (by intro h; rw [h] at h1; exact h1 rfl)]
    rw [e]; exact ⟨h1, rfl⟩
theorem ext_le (s : ByteArray) (a b : Nat) (h : s.size ≤ maxLen) : (s.extract a b).size ≤ maxLen := by
  rw [ByteArray.size_extract]; omega
/-- A piece of a text, read: the points between. -/
theorem rpoints_piece (s : ByteArray) (ps : List Int) (hs : s.size ≤ maxLen) (HG : Hid (s.data.toList = encL ps)) (HA : Hid (allS ps)) (h4 : s.size ≤ 4000) (i j : Nat) (hij : i ≤ j) (w : World) :
    Calls Tryd.prog 11 #[.string (s.extract (ofs ps i) (ofs ps j))] w fun e w' => ∃ v, e = .returned (.tuple #[v, .agg #[.int .i64 0, .int .i64 0]]) ∧ Ints w' w'.heap.size v (sl ps i j) ∧ Below w.heap.size w w' := by
  have h := rpoints_ints (s.extract (ofs ps i) (ofs ps j)) w (ext_le s _ _ hs)
  have hsub := sub_take ps hij
  have hT : s.extract (ofs ps i) (ofs ps j) = ⟨(sub ps i j).toArray⟩ := by rw [Lib.extract_eq, HG.out, hsub]
  have hlen : (encL ps).length ≤ 4000 := by rw [← HG.out]; simp; exact h4
  have e : (s.extract (ofs ps i) (ofs ps j)).data.toList = sub ps i j := by rw [hT]
  rw [e, decR_sl HA.out hlen] at h
  exact h
set_option maxRecDepth 100000 in
set_option maxHeartbeats 4000000 in
theorem cover_any (s : ByteArray) (w : World) (hT : Tabs w) (hs : s.size ≤ maxLen) :
    Calls Tryd.prog 7 #[.string s] w fun e w' => e = .returned (.bool true) ∧ Below w.heap.size w w' := by
  have hne := fun a b c d W => run_neq_fault a b c d W
  have hf0 : fEq 0 0 0 0 = true := rfl
  have HT := hide hT
  have HS := hide hs
  rcases cutR_cases s.data.toList with ⟨ps, hq, hc, h300⟩ | ⟨hq, _⟩
  · have hD := fun W (h : Tabs W) => cut_any s W h hs
    rw [hc] at hD
    obtain ⟨g1, g2, g3⟩ := decR_ok hq
    have HD := hide hD
    have HA := hide g1
    have HG := hide g2
    have hsz : s.size ≤ 4000 := by have : s.data.toList.length = s.size := by simp
                                   omega
    have hcov := toks_cov ps
    obtain ⟨L, hL⟩ : ∃ L, L = toks ps := ⟨_, rfl⟩
    rw [← hL] at HD hcov h300
    have hpl := encL_len_le ps
    rw [← g2] at hpl
    have hpn : ps.length ≤ 4000 := by omega
    have htot : ofs ps ps.length = s.size := by
      unfold ofs; rw [List.take_of_length_le (Nat.le_refl _), ← g2]; simp
    have HTOT := hide htot
    have HCOV := hide hcov
    clear hT hs hD g1 g2 g3 hq hc hL hcov hpl htot
    go_enter Tryd.func7, Tryd.ntmps7
    go_wp2_with fail
    refine (cutex_any _ HT.out).mono ?_
    rintro e w1 ⟨rfl, hb1⟩
    go_wp2_with fail
    refine (HD.out _ (tabs_keep HT.out hb1 (Nat.le_refl _))).mono ?_
    rintro e w2 ⟨v2, rfl, hv2, hb2⟩
    have hbw : Below w.heap.size w w2 := hb1.trans (hb2.mono hb1.size)
    clear hb1 hb2 HD
    obtain ⟨A, m, c, rfl, HM, hmc, hmb, hrd⟩ := hv2
    have hm300 : m ≤ 300 := by rw [← HM.out]; exact h300
    clear h300 hmb
    go_wp2
    generalize hW : World.alloc _ _ = W0
    have hb20 : Below w2.heap.size w2 W0 := by rw [← hW]; go_grown
    have hbw0 : Below w.heap.size w W0 := hbw.trans (hb20.mono hbw.size)
    have hrd0 := hrd.below hb20 (Nat.le_refl _)
    have hz20 : w2.heap.size ≤ W0.heap.size := hb20.size
    clear hW hbw hb20 hrd
    go_loopg [6, 5] (m + 1) (fun gk kv av wr => ∃ (k a o : Nat), k + gk = m + 1 ∧ kv = .int .i64 k ∧ av = .int .i64 o ∧ Hid (o = ofs ps a) ∧ Below W0.heap.size W0 wr ∧ Hid (k ≤ m → Cov ps a (L.drop k)))
    case atStart => exact ⟨0, 0, 0, by omega, rfl, rfl, hide (ofs_zero ps).symm, Below.refl _ _, hide (fun _ => HCOV.out)⟩
    case round =>
      obtain ⟨k, a, o, hkg, rfl, rfl, HO, hbr, HC⟩ := hrel
      by_cases hkm : k < m
      · obtain ⟨b, off, t, rfl, hbB, c0, c1, c2, c3, HTK⟩ := tok_at (hrd0.below hbr hz20) hkm
        have hcv := HC.out (by omega)
        have hdk : L.drop k = t :: L.drop (k + 1) := by
          have hkl : k < L.length := by rw [HM.out]; exact hkm
          rw [List.drop_eq_getElem_cons hkl]
          congr 1
          rw [← HTK.out]; simp [List.getD, hkl]
        rw [hdk] at hcv
        obtain ⟨i, hai, hin, hsp, _, ht, hrest⟩ := hcv
        obtain ⟨fit1, fit2⟩ := tokAt_fits hin
        have hmon := ofs_mono ps hai
        have hJb := tokJ_bd hin
        subst ht
        obtain ⟨si, hsi⟩ : ∃ x, x = ofs ps i := ⟨_, rfl⟩
        obtain ⟨sj, hsj⟩ : ∃ x, x = ofs ps (tokJ ps i) := ⟨_, rfl⟩
        have e1 : (tokAt ps i).s = (si : Int) := by rw [hsi]; rfl
        have e2 : (tokAt ps i).e = (sj : Int) := by rw [hsj]; rfl
        rw [e1] at c1 fit1
        rw [e2] at c2 fit1 fit2
        have hsizeL : (encL ps).length = s.size := by rw [← HG.out]; simp
        rw [hsizeL] at fit2
        have hsl := run_cut s si sj (by omega) (by omega)
        have hTe : s.extract si sj = ⟨(tokAt ps i).t.toArray⟩ := by
          rw [hsi, hsj, Lib.extract_eq, HG.out, sub_take ps (by omega)]; rfl
        rw [hTe] at hsl
        obtain ⟨T, hTT⟩ : ∃ T, T = (⟨(tokAt ps i).t.toArray⟩ : ByteArray) := ⟨_, rfl⟩
        rw [← hTT] at hsl c3
        obtain ⟨K, hK⟩ : ∃ K, K = (tokAt ps i).k := ⟨_, rfl⟩
        rw [← hK] at c0
        rw [← HO.out, ← hsi] at hmon
        have hsl2 := run_cut s o si hmon (by omega)
        have hPc := fun W => rpoints_piece s ps HS.out HG HA hsz a i hai W
        rw [← HO.out, ← hsi] at hPc
        have HP := hide hPc
        have HSP := hide (sl_sp (by omega) hsp)
        have HJ := hide hsj
        have HREST := hide hrest
        have hpz : (sl ps a i).length ≤ 4000 := by rw [sl_len (by omega)]; omega
        have hbz : b < wr.heap.size := by have := hbr.size; omega
        have t1 : decide (si < o) = false := by simp; omega
        have t2 : decide (sj ≤ si) = false := by simp; omega
        have t3 : decide (s.size < sj) = false := by simp; omega
        have j0 : (0 : Int) ≤ (k : Int) := by omega
        have j1 : (k : Int) < (m : Int) := by omega
        clear hdk hsp e1 e2 hTe hTT hK hPc hsi hsj hrest HTK hsizeL HC
        go_wp2
        go_quiet (fail)
        go_wp2_with fail
        refine (HP.out _).mono ?_
        rintro e w5 ⟨v5, rfl, hv5, hb5⟩
        have hsz5 := hb5.size
        simp at hsz5
        have hbr5 : Below W0.heap.size W0 w5 := hbr.trans ((Below.trans (below_drewN ((Below.refl wr.heap.size wr).alloc (Nat.le_refl _) (Obj.cells #[.int .i64 K, .int .i64 (si : Int), .int .i64 (sj : Int), .string T] 44)) nq) (hb5.mono (by simp))).mono hbr.size)
        obtain ⟨A5, n5, c5, rfl, HM5, hmc5, hmb5, hrd5⟩ := hv5
        have hn5 : n5 ≤ 4000 := by rw [← HM5.out]; exact hpz
        have hb5b := hb5
        have hbz2 : b < ((wr.alloc (Obj.cells #[.int .i64 K, .int .i64 (si : Int), .int .i64 (sj : Int), .string T] 44)).drewN nq).heap.size := by simp; omega
        clear hb5 hmb5
        go_wp2
        generalize hW5 : World.alloc _ _ = W5
        have hb55 : Below w5.heap.size w5 W5 := by rw [← hW5]; go_grown
        have hb05 : Below W0.heap.size W0 W5 := hbr5.trans (hb55.mono hbr5.size)
        have hrd55 := hrd5.below hb55 (Nat.le_refl _)
        have c25 : W5.cell? ⟨b, off + k * 4 + 2, none⟩ = some (.int .i64 (sj : Int)) := keep_cell hb55 (keep_cell hb5b (by go_simp) hbz2) (by omega)
        clear hW5 hrd5 hb55 hbr5 hb5b
        go_loop [83] (fun iv => ∃ x : Nat, x ≤ n5 ∧ iv = .int .i64 x) (fun iv => n5 - (intOf iv).toNat)
        case atStart => exact ⟨0, by omega, rfl⟩
        case round =>
          obtain ⟨x, hx, rfl⟩ := hrel
          by_cases hxn : x < n5
          · obtain ⟨bx, ox, px, qx, rfl, cx, HPx, HCx, HQx⟩ := pt_at hrd55 hxn
            have h5x : clsP px = 5 := HSP.out px (by rw [← HPx.out]; exact getI_mem (by rw [HM5.out]; exact hxn))
            have H5 := hide h5x
            clear h5x
            go_wp2_with (go_at_call 17; refine (rclass_at _ _ H5.out _).mono ?_; rintro e w' ⟨rfl, rfl⟩)
            go_round
            case rel => first | exact ⟨x + 1, by omega, by go_num⟩ | ((repeat apply Exists.intro); exact ⟨⟨x + 1, by omega, rfl⟩, rfl, rfl⟩)
            case measure => simp [intOf]; omega
          · obtain rfl : n5 = x := by omega
            go_wp2
            go_roundg (gk - 1)
            case measure => omega
            case rel => exact ⟨k + 1, tokJ ps i, sj, by omega, by go_num, rfl, HJ, hb05, hide (fun _ => HREST.out)⟩
      · by_cases hke : k = m
        · have hcv := HC.out (by omega)
          have hdk : L.drop k = [] := List.drop_eq_nil_of_le (by rw [HM.out]; omega)
          rw [hdk] at hcv
          obtain ⟨han, hsp⟩ := hcv
          have hmon := ofs_mono ps han
          rw [← HO.out, HTOT.out] at hmon
          have hsl2 := run_cut s o s.size hmon (Nat.le_refl _)
          have hPc := fun W => rpoints_piece s ps HS.out HG HA hsz a ps.length han W
          rw [← HO.out, HTOT.out] at hPc
          have HP := hide hPc
          have HSP := hide (sl_sp (Nat.le_refl _) hsp)
          have hpz : (sl ps a ps.length).length ≤ 4000 := by rw [sl_len (Nat.le_refl _)]; omega
          have hkm2 : decide (k < m) = false := by simp; omega
          clear hdk hsp hPc HC
          obtain rfl : m = k := hke.symm
          clear hke
          go_wp2_with fail
          refine (HP.out _).mono ?_
          rintro e w5 ⟨v5, rfl, hv5, hb5⟩
          have hsz5 := hb5.size
          have hbr5 : Below W0.heap.size W0 w5 := hbr.trans ((hb5).mono hbr.size)
          obtain ⟨A5, n5, c5, rfl, HM5, hmc5, hmb5, hrd5⟩ := hv5
          have hn5 : n5 ≤ 4000 := by rw [← HM5.out]; exact hpz
          clear hb5 hmb5
          go_wp2
          generalize hW5 : World.alloc _ _ = W5
          have hb55 : Below w5.heap.size w5 W5 := by rw [← hW5]; go_grown
          have hb05 : Below W0.heap.size W0 W5 := hbr5.trans (hb55.mono hbr5.size)
          have hrd55 := hrd5.below hb55 (Nat.le_refl _)
          clear hW5 hrd5 hb55 hbr5
          go_loop [83] (fun iv => ∃ x : Nat, x ≤ n5 ∧ iv = .int .i64 x) (fun iv => n5 - (intOf iv).toNat)
          case atStart => exact ⟨0, by omega, rfl⟩
          case round =>
            obtain ⟨x, hx, rfl⟩ := hrel
            by_cases hxn : x < n5
            · obtain ⟨bx, ox, px, qx, rfl, cx, HPx, HCx, HQx⟩ := pt_at hrd55 hxn
              have h5x : clsP px = 5 := HSP.out px (by rw [← HPx.out]; exact getI_mem (by rw [HM5.out]; exact hxn))
              have H5 := hide h5x
              clear h5x
              go_wp2_with (go_at_call 17; refine (rclass_at _ _ H5.out _).mono ?_; rintro e w' ⟨rfl, rfl⟩)
              go_round
              case rel => first | exact ⟨x + 1, by omega, by go_num⟩ | ((repeat apply Exists.intro); exact ⟨⟨x + 1, by omega, rfl⟩, rfl, rfl⟩)
              case measure => simp [intOf]; omega
            · obtain rfl : n5 = x := by omega
              go_wp2
              go_roundg (gk - 1)
              case measure => omega
              case rel => exact ⟨m + 1, a, o, by omega, by go_num, rfl, HO, hb05, hide (fun h => by omega)⟩
        · clear HC
          have hkm2 : m + 1 = k := by omega
          subst hkm2
          go_wp2
          go_ret
          exact ⟨rfl, hbw0.trans (hbr.mono hbw0.size)⟩
  · have hD := fun W (h : Tabs W) => cut_any s W h hs
    obtain ⟨a1, h1⟩ : ∃ x, x = (cutR s.data.toList).1.1 := ⟨_, rfl⟩
    obtain ⟨a2, h2⟩ : ∃ x, x = (cutR s.data.toList).1.2 := ⟨_, rfl⟩
    rw [← h1] at hq
    simp only [← h1, ← h2] at hD
    have hfa := fEq_ne (b := a2) hq
    have HD := hide hD
    clear hD hq h1 h2 hT hs
    go_enter Tryd.func7, Tryd.ntmps7
    go_wp2_with fail
    refine (cutex_any _ HT.out).mono ?_
    rintro e w1 ⟨rfl, hb1⟩
    go_wp2_with fail
    refine (HD.out _ (tabs_keep HT.out hb1 (Nat.le_refl _))).mono ?_
    rintro e w2 ⟨v2, rfl, hv2, hb2⟩
    have hbw : Below w.heap.size w w2 := hb1.trans (hb2.mono hb1.size)
    clear hv2
    go_wp2
    go_ret
    exact ⟨rfl, by have := hbw.size; go_grown⟩
end Go.Proofs.YthblidbpicilkaaDoor
