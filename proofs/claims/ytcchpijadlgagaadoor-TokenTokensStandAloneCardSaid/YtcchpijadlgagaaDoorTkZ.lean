/- token.Join, walked. -/
import Derived.Test.YtcchpijadlgagaaDoorTkY
namespace Go.Proofs.YtcchpijadlgagaaDoor
open Go.RowKit Gm
set_option linter.unusedSimpArgs false
set_option linter.unusedVariables false
set_option maxRecDepth 100000 in
set_option maxHeartbeats 20000000 in
theorem tjoin_any (v : Value) (l : List (List UInt8)) (w : World) (B : Nat) (hT : Tabs w) (hB : B ≤ w.heap.size) (h : Strs w B v l) :
    Calls Tryd.prog 9 #[v] w fun e w' => e = .returned (.tuple #[.string ⟨(joinR l).2.toArray⟩, .agg #[.int .i64 (joinR l).1.1, .int .i64 (joinR l).1.2]]) ∧ Below w.heap.size w w' := by
  have hne := fun a b c d W => run_neq_fault a b c d W
  have hf0 : fEq 0 0 0 0 = true := rfl
  obtain ⟨i0, hi0, hz0', hz1', hz2'⟩ := info_parts str_info
  obtain ⟨A, n, c, rfl, HN, hnc, hnb, hrd0, HX⟩ := h
  unfold big at hnb
  have HTB := hide hT
  clear hT
  by_cases h300 : 300 < n
  · have HE := hide (show joinR l = ((2, -1), []) by unfold joinR; rw [if_pos (by rw [HN.out]; exact h300)])
    rw [HE.out]
    clear hrd0 HX HE HN
    go_enter Tryd.func9, Tryd.ntmps9
    go_wp2_with fail
    refine (tfault_any _ _ _).mono ?_
    rintro e w1 ⟨rfl, hb1⟩
    have bR := (Blk.new w 25 #[.int .i64 0, .int .i64 0]).below hb1 (by simp)
    have q0 : w1.cell? ⟨w.heap.size, 0, none⟩ = some (.int .i64 0) := bR.cell 0
    have q1 : w1.cell? ⟨w.heap.size, 1, none⟩ = some (.int .i64 0) := bR.cell 1
    have f0 := bR.frozen 0
    have f1 := bR.frozen 1
    have hz := bR.lt
    have hbw : Below w.heap.size w w1 := ((Below.refl _ _).alloc (Nat.le_refl _) _).trans (hb1.mono (by simp))
    clear bR hb1
    go_wp2
    exact bodyPost_ret (v := .tuple #[.string ⟨#[]⟩, .agg #[.int .i64 2, .int .i64 (-1)]]) (by simp [results, Tryd.results9, go_sem, q0, q1, f0, f1, hz]) rfl ⟨rfl, by go_grown⟩
  · obtain ⟨tot, htot⟩ : ∃ x, x = jGo l (n + 1) 0 [] := ⟨_, rfl⟩
    have HJ := hide (joinR_of HN.out h300 htot)
    have HT := hide htot
    clear htot
    go_enter Tryd.func9, Tryd.ntmps9
    go_wp2
    generalize hW : World.alloc _ _ = W0
    have hbw : Below w.heap.size w W0 := by rw [← hW]; go_grown
    have bR : Blk W0 w.heap.size 25 #[.int .i64 0, .int .i64 0] := by rw [← hW]; exact Blk.new _ _ _
    have hz0 := bR.lt
    have hrd : Rd W0 W0.heap.size 1 A n (strCell l) := (hrd0.below hbw hB).mono (by omega)
    clear hrd0 hW
    go_loopg [18, 4] n (fun gk iv pv wr => ∃ (k f : Nat) (acc : List (List UInt8)), k + gk = n ∧ n < f + k ∧ iv = .int .i64 k ∧ acc.length ≤ 2 * k ∧
        wr.ownsRow W0.heap.size 9 1 pv acc.length (strRow acc) ∧ Hid (∀ x ∈ acc, x.length ≤ 4000) ∧ Below W0.heap.size W0 wr ∧ Hid (tot = jGo l f k acc))
    case atStart => exact ⟨0, n + 1, [], by omega, by omega, rfl, by simp, World.ownsRow_nil _ _ _ _, hide (by simp), Below.refl _ _, HT⟩
    case round =>
      clear HT
      obtain ⟨k, f, acc, hkg, hf, rfl, hacc, hown, HAC, hb, HR⟩ := hrel
      have bRc := bR.below hb hz0
      have q0 : wr.cell? ⟨w.heap.size, 0, none⟩ = some (.int .i64 0) := bRc.cell 0
      have q1 : wr.cell? ⟨w.heap.size, 1, none⟩ = some (.int .i64 0) := bRc.cell 1
      have f0 := bRc.frozen 0
      have f1 := bRc.frozen 1
      have hzc := bRc.lt
      have hbwc : Below w.heap.size w wr := hbw.trans (hb.mono hbw.size)
      clear bRc
      obtain ⟨A0, c9, hv9, hnc9, hcm9⟩ := own_value hown
      subst hv9
      unfold maxLen at hcm9
      have HO := hide hown
      clear hown
      by_cases hkn : k < n
      · obtain ⟨f, rfl⟩ : ∃ f', f = f' + 1 := ⟨f - 1, by omega⟩
        obtain ⟨b, off, s, hA, hbB, c0, HSX, hsm, HS2⟩ := str_at (hrd.below hb (Nat.le_refl _)) HN HX hkn
        subst hA
        have hbz : b < wr.heap.size := by have := hb.size; omega
        have hkl : k < l.length := by rw [HN.out]; exact hkn
        have hlen : (l.getD k []).length = s.size := by rw [HSX.out]; simp
        have hC := cut_any s wr (tabs_keep HTB.out hbwc (Nat.le_refl _)) hsm
        have hone := cutR_one s.data.toList
        have hssl : s.data.toList.length = s.size := by simp
        rw [hssl] at hone
        cases hok : okW s.data.toList
        · have HOK := hide hok
          by_cases h4 : 4000 < s.size
          · have hj : jF (l.getD k []) = 1 := by unfold jF; rw [if_pos (by omega)]
            have he := HR.out.trans (jGo_bad hkl (by rw [hj]; decide))
            rw [hj] at he
            have HE := hide (show joinR l = ((1, (k : Int)), []) by rw [HJ.out, he]; simp)
            rw [hone.2 h4] at hC
            have HC := hide hC
            unfold maxLen at hsm
            clear he hj hlen HR hC hone hok HOK
            go_wp2_with fail
            refine HC.out.mono ?_
            rintro e w1 ⟨v1, rfl, hv1, hb1⟩
            have hz1 := hb1.size
            obtain ⟨A1, m, c1, rfl, HM, hmc, hmb, hrd1⟩ := hv1
            clear HC hmb hrd1
            go_wp2_with fail
            refine (tfault_any _ _ _).mono ?_
            rintro e w5 ⟨rfl, hb5⟩
            have hbx : Below wr.heap.size wr w5 := hb1.trans (Below.trans (show Below wr.heap.size w1 _ by go_grown) (hb5.mono (by simp; omega)))
            have hz5 : w.heap.size < w5.heap.size := by have := hbx.size; omega
            have q0 := keep_cell hbx q0 hzc
            have q1 := keep_cell hbx q1 hzc
            have f0 := keep_free hbx f0 hzc
            have f1 := keep_free hbx f1 hzc
            have hbw5 : Below w.heap.size w w5 := hbwc.trans (hbx.mono hbwc.size)
            clear hb5 hbx
            go_wp2
            rw [HE.out]
            exact bodyPost_ret (v := .tuple #[.string ⟨#[]⟩, .agg #[.int .i64 1, .int .i64 k]]) (by simp [results, Tryd.results9, go_sem, q0, q1, f0, f1, hz5]) rfl ⟨rfl, by go_grown⟩
          · have hno := cutR_no hok
            have h1n : (cutR s.data.toList).1.1 ≠ 1 := fun e => h4 (hone.1 e)
            unfold maxLen at hsm
            by_cases hfz : (cutR s.data.toList).1 = (0, 0)
            · rw [hfz] at hC
              rcases hno with hno | hno | ⟨t, ht1, ht2⟩
              · exact absurd hfz hno
              · have HC := hide hC
                have HL1 := hide hno
                clear hC hno hone hok hfz h1n
                go_wp2_with fail
                refine HC.out.mono ?_
                rintro e w1 ⟨v1, rfl, hv1, hb1⟩
                have hz1 := hb1.size
                obtain ⟨A1, m, c1, rfl, HM, hmc, hmb, hrd1⟩ := hv1
                have hm1 : ((m : Int) != 1) = true := by
                  have := HL1.out; rw [HM.out] at this; simp; omega
                clear HC hmb hrd1
                have HE := hide (show joinR l = ((5, (k : Int)), []) by
                  have hj : jF (l.getD k []) = 5 := by unfold jF; rw [if_neg (by omega), if_neg (by rw [HSX.out, HOK.out]; simp)]
                  have he := HR.out.trans (jGo_bad hkl (by rw [hj]; decide))
                  rw [hj] at he
                  rw [HJ.out, he]; simp)
                clear HR
                go_wp2_with fail
                refine (tfault_any _ _ _).mono ?_
                rintro e w5 ⟨rfl, hb5⟩
                have hbx : Below wr.heap.size wr w5 := hb1.trans (Below.trans (show Below wr.heap.size w1 _ by go_grown) (hb5.mono (by simp; omega)))
                have hz5 : w.heap.size < w5.heap.size := by have := hbx.size; omega
                have q0 := keep_cell hbx q0 hzc
                have q1 := keep_cell hbx q1 hzc
                have f0 := keep_free hbx f0 hzc
                have f1 := keep_free hbx f1 hzc
                have hbw5 : Below w.heap.size w w5 := hbwc.trans (hbx.mono hbwc.size)
                clear hb5 hbx
                go_wp2
                rw [HE.out]
                exact bodyPost_ret (v := .tuple #[.string ⟨#[]⟩, .agg #[.int .i64 5, .int .i64 k]]) (by simp [results, Tryd.results9, go_sem, q0, q1, f0, f1, hz5]) rfl ⟨rfl, by go_grown⟩
              · rw [ht1] at hC
                have HC := hide hC
                have hneS : (⟨t.t.toArray⟩ : ByteArray) ≠ s := fun e => ht2 (by rw [← e])
                obtain ⟨T, hTT⟩ : ∃ T, T = (⟨t.t.toArray⟩ : ByteArray) := ⟨_, rfl⟩
                rw [← hTT] at hneS
                have hn1 : ¬ T.data = s.data := fun e => hneS (ByteArray.ext e)
                have hn2 : ¬ T.toList = s.toList := by rw [Lib.toList_data, Lib.toList_data]; intro e; exact hn1 (Array.ext' e)
                have hn3 : (T.toList == s.toList) = false := by simp [hn2]
                have HTT := hide hTT
                clear hTT hC hone hok hfz h1n ht1 ht2 hneS
                go_wp2_with fail
                refine HC.out.mono ?_
                rintro e w1 ⟨v1, rfl, hv1, hb1⟩
                have hz1 := hb1.size
                obtain ⟨A1, m, c1, rfl, HM, hmc, hmb, hrd1⟩ := hv1
                obtain rfl : m = 1 := HM.out.symm
                obtain ⟨bt, ot, a, hAt, hbt, d0, d1, d2, d3, HA⟩ := tok_at hrd1 (show 0 < 1 by omega)
                obtain rfl : a = t := HA.out.symm
                subst hAt
                simp only [Nat.zero_mul, Nat.add_zero] at d0 d1 d2 d3
                rw [← HTT.out] at d3
                clear HC hmb hrd1 HA HM d1 d2
                have HE := hide (show joinR l = ((5, (k : Int)), []) by
                  have hj : jF (l.getD k []) = 5 := by unfold jF; rw [if_neg (by omega), if_neg (by rw [HSX.out, HOK.out]; simp)]
                  have he := HR.out.trans (jGo_bad hkl (by rw [hj]; decide))
                  rw [hj] at he
                  rw [HJ.out, he]; simp)
                clear HR
                go_wp2_with fail
                refine (tfault_any _ _ _).mono ?_
                rintro e w5 ⟨rfl, hb5⟩
                have hbx : Below wr.heap.size wr w5 := hb1.trans (Below.trans (show Below wr.heap.size w1 _ by go_grown) (hb5.mono (by simp; omega)))
                have hz5 : w.heap.size < w5.heap.size := by have := hbx.size; omega
                have q0 := keep_cell hbx q0 hzc
                have q1 := keep_cell hbx q1 hzc
                have f0 := keep_free hbx f0 hzc
                have f1 := keep_free hbx f1 hzc
                have hbw5 : Below w.heap.size w w5 := hbwc.trans (hbx.mono hbwc.size)
                clear hb5 hbx
                go_wp2
                rw [HE.out]
                exact bodyPost_ret (v := .tuple #[.string ⟨#[]⟩, .agg #[.int .i64 5, .int .i64 k]]) (by simp [results, Tryd.results9, go_sem, q0, q1, f0, f1, hz5]) rfl ⟨rfl, by go_grown⟩
            · obtain ⟨a1, h1⟩ : ∃ x, x = (cutR s.data.toList).1.1 := ⟨_, rfl⟩
              obtain ⟨a2, h2⟩ : ∃ x, x = (cutR s.data.toList).1.2 := ⟨_, rfl⟩
              have hfa : fEq a1 a2 0 0 = false := fEq_false (fun e => hfz (Prod.ext (h1.symm.trans e.1) (h2.symm.trans e.2)))
              rw [← h1] at h1n
              have hb1n : (a1 == 1) = false := by simp [h1n]
              simp only [← h1, ← h2] at hC
              have HC := hide hC
              clear hC hno hone hok hfz h1n h1 h2
              go_wp2_with fail
              refine HC.out.mono ?_
              rintro e w1 ⟨v1, rfl, hv1, hb1⟩
              have hz1 := hb1.size
              obtain ⟨A1, m, c1, rfl, HM, hmc, hmb, hrd1⟩ := hv1
              clear HC hmb hrd1
              have HE := hide (show joinR l = ((5, (k : Int)), []) by
                have hj : jF (l.getD k []) = 5 := by unfold jF; rw [if_neg (by omega), if_neg (by rw [HSX.out, HOK.out]; simp)]
                have he := HR.out.trans (jGo_bad hkl (by rw [hj]; decide))
                rw [hj] at he
                rw [HJ.out, he]; simp)
              clear HR
              go_wp2_with fail
              refine (tfault_any _ _ _).mono ?_
              rintro e w5 ⟨rfl, hb5⟩
              have hbx : Below wr.heap.size wr w5 := hb1.trans (Below.trans (show Below wr.heap.size w1 _ by go_grown) (hb5.mono (by simp; omega)))
              have hz5 : w.heap.size < w5.heap.size := by have := hbx.size; omega
              have q0 := keep_cell hbx q0 hzc
              have q1 := keep_cell hbx q1 hzc
              have f0 := keep_free hbx f0 hzc
              have f1 := keep_free hbx f1 hzc
              have hbw5 : Below w.heap.size w w5 := hbwc.trans (hbx.mono hbwc.size)
              clear hb5 hbx
              go_wp2
              rw [HE.out]
              exact bodyPost_ret (v := .tuple #[.string ⟨#[]⟩, .agg #[.int .i64 5, .int .i64 k]]) (by simp [results, Tryd.results9, go_sem, q0, q1, f0, f1, hz5]) rfl ⟨rfl, by go_grown⟩
        · obtain ⟨t, ht1, ht2, ht3⟩ := cutR_ok hok
          have hs4 : s.size ≤ 4000 := by have := okW_le hok; omega
          have he := HR.out.trans (jGo_ok hkl (jF_ok.2 (by rw [HSX.out]; exact hok)))
          have hjs : jS (l.getD k []) = decide (t.k = 3) := by
            unfold jS; rw [HSX.out, ht3]
            have := tokK_stop (decR s.data.toList).2
            by_cases h6 : cl (decR s.data.toList).2 0 = 6
            · simp [h6, this.2 h6]
            · simp [h6, this]
          have eT : (⟨t.t.toArray⟩ : ByteArray) = s := by rw [ht2]
          rw [ht1] at hC
          have HC := hide hC
          have HE := hide he
          have HJS := hide hjs
          have HET := hide eT
          have hxl : (l.getD k []).length ≤ 4000 := by omega
          have hsr : strRow [l.getD k []] = [.string s] := by unfold strRow; simp only [List.map_cons, List.map_nil, ← HS2.out]
          have HSR := hide hsr
          have HXL := hide hxl
          clear hC hone hok ht1 ht2 ht3 he hjs eT HR hsr hxl hlen hssl HS2 HSX
          go_wp2_with fail
          refine HC.out.mono ?_
          rintro e w1 ⟨v1, rfl, hv1, hb1⟩
          have hz1 := hb1.size
          obtain ⟨A1, m, c1, rfl, HM, hmc, hmb, hrd1⟩ := hv1
          obtain rfl : m = 1 := HM.out.symm
          obtain ⟨bt, ot, a, hAt, hbt, d0, d1, d2, d3, HA⟩ := tok_at hrd1 (show 0 < 1 by omega)
          obtain rfl : a = t := HA.out.symm
          subst hAt
          simp only [Nat.zero_mul, Nat.add_zero] at d0 d1 d2 d3
          rw [HET.out] at d3
          obtain ⟨K, hK⟩ : ∃ K, K = a.k := ⟨_, rfl⟩
          rw [← hK] at d0
          have HJS2 : Hid (jS (l.getD k []) = decide (K = 3)) := hide (by rw [hK]; exact HJS.out)
          have HO1 := hide (own_below HO.out hb1 (Nat.le_refl _))
          have hb01 : Below W0.heap.size W0 w1 := hb.trans (hb1.mono hb.size)
          have hlow : ∀ k, (Value.slice A0 acc.length c9).ownBlock = some k → W0.heap.size ≤ k := fun k hk => (HO1.out.lt k hk).1
          have HLOW := hide hlow
          have hW01 := hb01.size
          clear HC hmb hrd1 HA HM d1 d2 HJS HET hK HO hlow
          by_cases hsp : 0 < k ∧ K ≠ 3
          · obtain ⟨hk0, hK3⟩ := hsp
            have hjp : jP k (l.getD k []) = [[32], l.getD k []] := by
              unfold jP; rw [HJS2.out]; simp [hk0, hK3]
            have HJP := hide hjp
            have hK3b : (K == 3) = false := by simp [hK3]
            have hs32 : strRow [[32]] = [.string ⟨#[32]⟩] := rfl
            have HS32 := hide hs32
            obtain ⟨k, rfl⟩ : ∃ j, k = j + 1 := ⟨k - 1, by omega⟩
            clear hjp HJS2 hs32 hK3 hk0
            go_wp2_with (first
              | (at_builtin; refine wpList_append_own _ rfl (.tmp 60) (.tmp 61) 22 rfl W0.heap.size 9 i0 _ 1 16 Tryd.underlying22 hi0 hz0' hz1' hz2' rfl (by omega) (.slice A0 acc.length c9) acc.length _ rfl ((HO1.out.alloc _).alloc _) ⟨w1.heap.size + 1, 0, none⟩ 1 1 [.string ⟨#[32]⟩] rfl rfl (World.news_of_block (cs := #[.string ⟨#[32]⟩]) (t := 9) (fr := (0, 0)) (Blk.at_ (by simp))) (by simp [Value.oneCell']) (by simp only [maxLen]; omega) (by omega) (by simp; omega) ?_; intro v' w6 hown6 hg6 _; obtain ⟨A6, c6, hv6, hnc6, hcm6⟩ := own_value hown6; subst hv6; have hb06 : Below W0.heap.size W0 w6 := ((hb01.alloc hb01.size _).alloc (by simp; omega) _).grown hg6 (by simp; omega) (fun k hk => by have := HLOW.out k hk; omega); have hW06 := hb06.size; have HO6 := hide hown6; clear hown6 hg6)
              | (at_builtin; refine wpList_append_own _ rfl (.tmp 63) (.tmp 65) 22 rfl W0.heap.size 9 i0 _ 1 16 Tryd.underlying22 hi0 hz0' hz1' hz2' rfl (by omega) (.slice A6 (acc.length + 1) c6) (acc.length + 1) _ rfl (HO6.out.alloc _) ⟨w6.heap.size, 0, none⟩ 1 1 [.string s] rfl rfl (World.news_of_block (cs := #[.string s]) (t := 9) (fr := (0, 0)) (Blk.at_ (by simp))) (by simp [Value.oneCell']) (by simp only [maxLen]; omega) (by omega) (by simp; omega) ?_; intro v' w7 hown7 hg7 _))
            go_roundg (gk - 1)
            case measure => omega
            case rel =>
              refine ⟨k + 1 + 1, f, acc ++ jP (k + 1) (l.getD (k + 1) []), by omega, by omega, by go_num, by rw [HJP.out]; simp; omega, ?_, hide ?_, ?_, HE⟩
              · rw [HJP.out, List.length_append, strRow_append, show strRow [[32], l.getD (k + 1) []] = strRow [[32]] ++ strRow [l.getD (k + 1) []] from rfl, HSR.out, HS32.out, ← List.append_assoc]; exact hown7
              · rw [HJP.out]
                intro y hy
                rcases List.mem_append.1 hy with hy | hy
                · exact HAC.out y hy
                · rcases List.mem_cons.1 hy with hy | hy
                  · rw [hy]; simp
                  · rw [List.mem_singleton.1 hy]; exact HXL.out
              · exact (hb06.alloc hb06.size _).grown hg7 (by simp; omega) (fun k hk => (HO6.out.lt k hk).1)
          · have hjp : jP k (l.getD k []) = [l.getD k []] := by
              unfold jP; rw [HJS2.out]
              by_cases h0 : 0 < k
              · have : K = 3 := by
                  by_cases h3 : K = 3
                  · exact h3
                  · exact absurd ⟨h0, h3⟩ hsp
                simp [this]
              · simp [h0]
            have HJP := hide hjp
            clear hjp HJS2
            have hk3 : k = 0 ∨ ∃ j, k = j + 1 ∧ K = 3 := by
              by_cases h0 : 0 < k
              · right
                refine ⟨k - 1, by omega, ?_⟩
                by_cases h3 : K = 3
                · exact h3
                · exact absurd ⟨h0, h3⟩ hsp
              · left; omega
            clear hsp
            rcases hk3 with rfl | ⟨k, rfl, rfl⟩
            · go_wp2_with (at_builtin; refine wpList_append_own _ rfl (.tmp 63) (.tmp 65) 22 rfl W0.heap.size 9 i0 _ 1 16 Tryd.underlying22 hi0 hz0' hz1' hz2' rfl (by omega) (.slice A0 acc.length c9) acc.length _ rfl ((HO1.out.alloc _).alloc _) ⟨w1.heap.size + 1, 0, none⟩ 1 1 [.string s] rfl rfl (World.news_of_block (cs := #[.string s]) (t := 9) (fr := (0, 0)) (Blk.at_ (by simp))) (by simp [Value.oneCell']) (by simp only [maxLen]; omega) (by omega) (by simp; omega) ?_; intro v' w6 hown6 hg6 _)
              go_roundg (gk - 1)
              case measure => omega
              case rel =>
                refine ⟨1, f, acc ++ jP 0 (l.getD 0 []), by omega, by omega, by go_num, by rw [HJP.out]; simp; omega, ?_, hide ?_, ?_, HE⟩
                · rw [HJP.out, List.length_append, strRow_append, HSR.out]; exact hown6
                · rw [HJP.out]
                  intro y hy
                  rcases List.mem_append.1 hy with hy | hy
                  · exact HAC.out y hy
                  · rw [List.mem_singleton.1 hy]; exact HXL.out
                · exact ((hb01.alloc hb01.size _).alloc (by simp; omega) _).grown hg6 (by simp; omega) (fun k hk => by have := HLOW.out k hk; omega)
            · go_wp2_with (at_builtin; refine wpList_append_own _ rfl (.tmp 63) (.tmp 65) 22 rfl W0.heap.size 9 i0 _ 1 16 Tryd.underlying22 hi0 hz0' hz1' hz2' rfl (by omega) (.slice A0 acc.length c9) acc.length _ rfl ((HO1.out.alloc _).alloc _) ⟨w1.heap.size + 1, 0, none⟩ 1 1 [.string s] rfl rfl (World.news_of_block (cs := #[.string s]) (t := 9) (fr := (0, 0)) (Blk.at_ (by simp))) (by simp [Value.oneCell']) (by simp only [maxLen]; omega) (by omega) (by simp; omega) ?_; intro v' w6 hown6 hg6 _)
              go_roundg (gk - 1)
              case measure => omega
              case rel =>
                refine ⟨(k + 1 + 1), f, acc ++ jP (k + 1) (l.getD (k + 1) []), by omega, by omega, by go_num, by rw [HJP.out]; simp; omega, ?_, hide ?_, ?_, HE⟩
                · rw [HJP.out, List.length_append, strRow_append, HSR.out]; exact hown6
                · rw [HJP.out]
                  intro y hy
                  rcases List.mem_append.1 hy with hy | hy
                  · exact HAC.out y hy
                  · rw [List.mem_singleton.1 hy]; exact HXL.out
                · exact ((hb01.alloc hb01.size _).alloc (by simp; omega) _).grown hg6 (by simp; omega) (fun k hk => by have := HLOW.out k hk; omega)
      · have he := HR.out.trans (jGo_end (f := f) (acc := acc) (by rw [HN.out]; exact hkn))
        obtain rfl : n = k := by omega
        have hj := HJ.out
        rw [he, if_pos rfl] at hj
        replace hj : joinR l = jB acc.flatten := hj
        have hfl := flat_le HAC.out
        have hrow : Rd wr wr.heap.size 1 A0 acc.length (strCell acc) := Rd.of_own HO.out (strRow_at acc)
        obtain ⟨m, hm⟩ : ∃ m, m = acc.length := ⟨_, rfl⟩
        rw [← hm] at hrow hacc hnc9 hfl
        have HO2 := HO.out
        rw [← hm] at HO2
        have HO2 := hide HO2
        obtain ⟨T, hTe⟩ : ∃ T, T = acc.flatten.length := ⟨_, rfl⟩
        rw [← hTe] at hfl
        have HTE := hide hTe
        have HM := hide hm
        have HJ2 := hide hj
        have htz : (acc.take 0).flatten.length = 0 := by simp
        have HTZ := hide htz
        have hsl9 : (Value.slice A0 acc.length c9) = .slice A0 m c9 := by rw [hm]
        rw [hsl9]
        clear hj he HR HO hm hTe htz hsl9 HJ
        go_wp2
        go_loop [70, 9] (fun iv sv => ∃ j o : Nat, j ≤ m ∧ o ≤ T ∧ iv = .int .i64 j ∧ sv = .int .i64 o ∧ Hid (o = (acc.take j).flatten.length)) (fun iv _ => m - (intOf iv).toNat)
        case atStart => exact ⟨0, 0, by omega, by omega, rfl, rfl, hide HTZ.out.symm⟩
        case round =>
          obtain ⟨j, o, hj, ho, rfl, rfl, HOJ⟩ := hrel
          by_cases hjm : j < m
          · obtain ⟨bj, oj, hAj, hbj, cj⟩ := hrow.at1 hjm
            subst hAj
            obtain ⟨x, hx⟩ : ∃ x, x = (⟨(acc.getD j []).toArray⟩ : ByteArray) := ⟨_, rfl⟩
            have hxs : x.size = (acc.getD j []).length := by rw [hx]; simp [ByteArray.size]
            have ecj : strCell acc j 0 = .string x := by rw [hx]; rfl
            rw [ecj] at cj
            have h1 := flat_take (l := acc) (k := j) (by rw [← HM.out]; exact hjm)
            rw [← hxs, ← HOJ.out] at h1
            have h2 := flat_take_le acc (j + 1)
            rw [h1, ← HTE.out] at h2
            have HN1 := hide h1.symm
            clear ecj hx hxs h1
            go_wp2
            go_round
            case rel => first | exact ⟨j + 1, o + x.size, by omega, by omega, by go_num, by go_num, HN1⟩ | (repeat apply Exists.intro); exact ⟨⟨j + 1, by omega, o + x.size, by omega, by omega, rfl, rfl, HN1⟩, rfl, rfl⟩
            case measure => simp [intOf]; omega
          · obtain rfl : m = j := by omega
            have hoT : o = T := by rw [HOJ.out, HTE.out, List.take_of_length_le (by rw [← HM.out]; exact Nat.le_refl _)]
            subst hoT
            clear HOJ HTZ
            by_cases h4 : 4000 < o
            · have HE := hide (show joinR l = ((1, -1), []) by rw [HJ2.out]; unfold jB; rw [← HTE.out, if_pos h4])
              clear HTE HJ2
              go_wp2_with fail
              refine (tfault_any _ _ _).mono ?_
              rintro e w5 ⟨rfl, hb5⟩
              have hz5 : w.heap.size < w5.heap.size := by have := hb5.size; omega
              have q0 := keep_cell hb5 q0 hzc
              have q1 := keep_cell hb5 q1 hzc
              have f0 := keep_free hb5 f0 hzc
              have f1 := keep_free hb5 f1 hzc
              have hbw5 : Below w.heap.size w w5 := hbwc.trans (hb5.mono hbwc.size)
              go_wp2
              rw [HE.out]
              exact bodyPost_ret (v := .tuple #[.string ⟨#[]⟩, .agg #[.int .i64 1, .int .i64 (-1)]]) (by simp [results, Tryd.results9, go_sem, q0, q1, f0, f1, hz5]) rfl ⟨rfl, by go_grown⟩
            · have HE := hide (show joinR l = ((0, 0), acc.flatten) by rw [HJ2.out]; unfold jB; rw [← HTE.out, if_neg h4])
              have hjc : Calls Tryd.prog 18 #[.slice A0 m c9, .string ⟨#[]⟩] wr fun e w' => e = .returned (.string ⟨acc.flatten.toArray⟩) ∧ Below wr.heap.size wr w' := by
                by_cases hm0 : m = 0
                · subst hm0
                  have : acc = [] := List.eq_nil_of_length_eq_zero HM.out.symm
                  rw [this]
                  exact (Tryd.strings_Join_none A0 c9 ⟨#[]⟩ wr).mono fun e w' h => ⟨h.1, by rw [h.2]; exact Below.refl _ _⟩
                · obtain ⟨g, cap, hv, _, hlt⟩ := HO2.out.form (by omega)
                  have hA : A0 = some ⟨g, 0, none⟩ := by injection hv
                  subst hA
                  have hr := hrow
                  have hj3 := Tryd.strings_Join g 0 c9 (acc.map fun x => (⟨x.toArray⟩ : ByteArray)) ⟨#[]⟩ wr (fun j x hx => by
                    rw [List.getElem?_map] at hx
                    obtain ⟨y, hy, rfl⟩ := Option.map_eq_some_iff.1 hx
                    have hjl : j < m := by rw [HM.out]; exact (List.getElem?_eq_some_iff.1 hy).1
                    obtain ⟨bj, oj, hAj, hbj, cj⟩ := hr.at1 hjl
                    simp only [Option.some.injEq, Addr.mk.injEq, and_true] at hAj
                    obtain ⟨rfl, rfl⟩ := hAj
                    rw [cj]
                    simp [strCell, hy]) hlt (by simp [← HM.out]; omega) (by simp [← HM.out]; omega) (by
                    rw [List.map_map]
                    have : (acc.map ((fun x : ByteArray => x.data.toList) ∘ fun x => (⟨x.toArray⟩ : ByteArray))) = acc := by simp [Function.comp_def]
                    rw [this]
                    show (Lib.join acc []).length ≤ _
                    rw [join_nil_sep, ← HTE.out]; omega)
                  have e1 : (acc.map fun x => (⟨x.toArray⟩ : ByteArray)).length = m := by simp [← HM.out]
                  have e2 : ((acc.map fun x => (⟨x.toArray⟩ : ByteArray)).map (·.data.toList)) = acc := by simp [Function.comp_def]
                  rw [e1, e2] at hj3
                  have e3 : Lib.join acc (⟨#[]⟩ : ByteArray).data.toList = acc.flatten := join_nil_sep acc
                  rw [e3] at hj3
                  exact hj3
              have HJC := hide hjc
              clear hjc HTE HJ2 hrow HO2
              go_wp2_with fail
              refine HJC.out.mono ?_
              rintro e w5 ⟨rfl, hb5⟩
              have hz5 : w.heap.size < w5.heap.size := by have := hb5.size; omega
              have q0 := keep_cell hb5 q0 hzc
              have q1 := keep_cell hb5 q1 hzc
              have f0 := keep_free hb5 f0 hzc
              have f1 := keep_free hb5 f1 hzc
              have hbw5 : Below w.heap.size w w5 := hbwc.trans (hb5.mono hbwc.size)
              go_wp2
              rw [HE.out]
              exact bodyPost_ret (v := .tuple #[.string ⟨acc.flatten.toArray⟩, .agg #[.int .i64 0, .int .i64 0]]) (by simp [results, Tryd.results9, go_sem, q0, q1, f0, f1, hz5]) rfl ⟨rfl, by go_grown⟩
end Go.Proofs.YtcchpijadlgagaaDoor
