/- The reference's Labels, walked at any machine. -/
import Derived.Test.YtopakcbhodnipaaLbP
import Derived.Test.YtopakcbhodnipaaCuW
import Derived.Test.YtopakcbhodnipaaReach
import Derived.IntWalk
import Derived.Deep.Cut
import Derived.Deep.CutRange
import Derived.Deep.RegionLaw
import Derived.LoopTactic
namespace Go.Proofs.Ytopakcbhodnipaa
open Go.RowKit Gm
set_option linter.unusedSimpArgs false
set_option linter.unusedVariables false
theorem own_belowI {w w' : World} {base sz n : Nat} {e : TypeId} {v : Value} {xs : List Value} (h : w.ownsRow base e sz v n xs) (hb : Below w.heap.size w w') : w'.ownsRow base e sz v n xs :=
  h.kept (row := none) ⟨hb.os, hb.tape, hb.output, hb.size, fun k hk _ => hb.block k hk⟩ (by cases v.ownBlock <;> simp)
theorem step_append_any {P : Program} {ops : Array Oper} {o : Oper} {a : Act} {w : World} {K : Act → World → Prop} {Q : Exit → Act → World → Prop} {EE : Prop} (hg : o.guard = none) (s x : Operand) (t : TypeId)
    (ho : o.op = .call { callee := .builtin .append, args := #[s, x], argTypes := #[t, t] })
    (base : Nat) (e : TypeId) (i : TypeInfo) (z : Value) (size bytes : Nat) (ht : P.underlying t = some (.slice e)) (hi : P.info? e = some i) (hz : i.zero = some z)
    (hsize : i.size = size) (hby : i.bytes = bytes) (hzs : z.cells.size = size) (hsz : 0 < size)
    (v : Value) (n : Nat) (xs : List Value) (hs : a.eval s = v) (hown : w.ownsRow base e size v n xs)
    (B : Nat) (A : Option Addr) (m c : Nat) (news : List Value) (f : Nat → Nat → Value) (hx : a.eval x = .slice A m c) (hr : Rd w B size A m f) (hA : A = none → m = 0) (hl : news.length = m * size) (hnews : ∀ i j, i < m → j < size → news[i * size + j]? = some (f i j)) (h1 : ∀ u ∈ news, u.oneCell' = true)
    (h63 : n + m ≤ maxLen) (hbytes : (n + m) * bytes ≤ 140737488355328) (hbase : base ≤ w.heap.size)
    (h : ∀ v' w', w'.ownsRow base e size v' (n + m) (xs ++ news) → w.grownBy w' v.ownBlock → (v'.ownBlock = v.ownBlock ∨ v'.ownBlock = some w.heap.size) → K (a.put o.dst v') w') :
    if Region.wanted o (yielded ops a.tmps) = true then Oper.wp P o a w K Q else EE := by
  have hw : Region.wanted o (yielded ops a.tmps) = true := by simp [Region.wanted, hg]
  rw [if_pos hw]
  exact wp_append_any w s x t ho base e i z size bytes ht hi hz hsize hby hzs hsz v n xs hs hown B A m c news f hx hr hA hl hnews h1 h63 hbytes hbase h
theorem own_emptyI {w : World} {base g sz : Nat} {e : TypeId} (h : Blk w g e #[]) (hb : base ≤ g) : w.ownsRow base e sz (.slice (some ⟨g, 0, none⟩) 0 0) 0 [] := by
  exact ⟨by simp, .inr ⟨g, 0, #[], rfl, hb, h, Nat.le_refl _, Nat.zero_le _, by simp, by simp⟩⟩
theorem own_monoI {w : World} {b1 b2 sz n : Nat} {e : TypeId} {v : Value} {xs : List Value} (h : w.ownsRow b1 e sz v n xs) (hb : b2 ≤ b1) : w.ownsRow b2 e sz v n xs := by
  obtain ⟨h1, h2⟩ := h
  refine ⟨h1, ?_⟩
  rcases h2 with h2 | ⟨g, cap, cur, e1, e2, e3⟩
  · exact .inl h2
  · exact .inr ⟨g, cap, cur, e1, by omega, e3⟩
theorem rd_single {w : World} {g : Nat} {t : TypeId} {x : Int} (h : Blk w g t #[.int .i64 x]) : Rd w w.heap.size 1 (some ⟨g, 0, none⟩) 1 (intCell [x]) := fun _ => by
  refine ⟨g, 0, rfl, h.lt, fun i j hi hj => ?_⟩
  obtain rfl : i = 0 := by omega
  obtain rfl : j = 0 := by omega
  have := h.cell 0
  simpa [intCell] using this
theorem nums_form {W : World} {B : Nat} {V : Value} {l : List Int} (h : Nums W B V l) : ∃ A c, V = .slice A l.length c ∧ Rd W B 1 A l.length (intCell l) ∧ (A = none → l.length = 0) := by
  obtain ⟨A, n, c, rfl, h1, h2, h3, h4⟩ := h
  have e := h1.out
  subst e
  refine ⟨A, c, rfl, h4, fun hA => ?_⟩
  rcases Nat.eq_zero_or_pos l.length with h0 | h0
  · exact h0
  · obtain ⟨b, off, g, _⟩ := h4 h0
    rw [hA] at g; cases g
set_option maxRecDepth 100000 in
set_option maxHeartbeats 16000000 in
theorem labels_any (va : Value) (a : Mach) (w : World) (B : Nat) (hB : B ≤ w.heap.size) (ha : MachAt w B va a) (hlen : a.arcs.length ≤ 1000000) :
    Calls Try.prog 27 #[va] w fun e w' => ∃ A' c', e = .returned (.slice A' (labsR a.arcs).length c') ∧ w'.ownsRow w.heap.size 3 1 (.slice A' (labsR a.arcs).length c') (labsR a.arcs).length (intRow (labsR a.arcs)) ∧ Below w.heap.size w w' := by
  obtain ⟨A, AF, n, c, nf, cf, rfl, HN, HF, hnc, hnfc, hnb, hnfb, hA, hF⟩ := ha
  rw [HN.out] at hlen
  have HRA := hide hA
  obtain ⟨i0, hi0, hz0, hz1, hz2⟩ := info_parts int_info
  clear hA hF HF
  unfold big at hnb hnfb
  go_enter Try.func27, Try.ntmps27
  go_upto_region 3 with fail
  generalize hW2 : World.alloc _ _ = W2
  have HBW := hide (show Below w.heap.size w W2 by rw [← hW2]; go_grown)
  have hz2' : w.heap.size ≤ W2.heap.size := HBW.out.size
  have HRA2 := hide (HRA.out.below HBW.out hB)
  obtain ⟨H, hH⟩ : ∃ H, H = w.heap.size := ⟨_, rfl⟩
  rw [← hH] at HBW hz2' hB ⊢
  have HHW := hide hH
  clear hW2 hH HRA
  go_loopw [3, 10] (fun lv iv wr => ∃ (k : Nat) (A3 : Option Addr) (q c3 : Nat) (l : List Int), k ≤ n ∧ iv = .int .i64 k ∧ lv = .slice A3 q c3 ∧ Hid (l = labsR (a.arcs.take k)) ∧ Hid (l.length = q) ∧ q ≤ k ∧ Hid (wr.ownsRow H 3 1 (.slice A3 q c3) q (intRow l)) ∧ Hid (Below H W2 wr) ∧ H ≤ wr.heap.size) (fun _ iv _ => n - (intOf iv).toNat)
  case atStart => exact ⟨0, none, 0, 0, [], by omega, rfl, rfl, hide rfl, hide rfl, by omega, hide (World.ownsRow_nil _ _ _ _), hide (Below.refl _ _), hz2'⟩
  case round =>
    obtain ⟨k, A3, q, c3, l, hk, rfl, rfl, HL, HQ, hqk, HOWN, HBK, hzr⟩ := hrel
    by_cases hkn : k < n
    · obtain ⟨bb, off, x, rfl, hbB, d0, d1, d2, d3, d4, HX⟩ := arcs_at (HRA2.out.below HBK.out hB) hkn
      have hkl : k < a.arcs.length := by rw [HN.out]; exact hkn
      have HTK := hide (show labsR (a.arcs.take (k + 1)) = if x.i = 0 then l else insI x.i l by
        rw [HL.out, ← labsR_snoc, List.take_add_one, List.getElem?_eq_getElem hkl, show a.arcs[k] = x by rw [← HX.out]; simp [hkl]]; rfl)
      have lb : bb < wr.heap.size := by omega
      clear HX hkl
      by_cases hx0 : x.i = 0
      · rw [if_pos hx0] at HTK
        go_wp2
        go_roundw
        case rel => exact ⟨k + 1, A3, q, c3, l, by omega, by go_num, rfl, hide HTK.out.symm, HQ, by omega, hide (HOWN.out.alloc _), hide (HBK.out.alloc (by omega) _), by simp; omega⟩
        case measure => simp [intOf]; omega
      · rw [if_neg hx0] at HTK
        have t0 : decide (x.i = 0) = false := decide_eq_false hx0
        go_wp2
        generalize hW5 : World.alloc _ _ = W5
        obtain ⟨X9, hX9⟩ : ∃ z, z = wr.heap.size := ⟨_, rfl⟩
        have HX5 := hide (show Blk W5 X9 61 #[.int .i64 x.f, .int .i64 x.t, .int .i64 x.i, .int .i64 x.o, .int .i64 x.w] by rw [← hW5]; exact Blk.at_ hX9)
        have HOWN5 := hide (show W5.ownsRow H 3 1 (.slice A3 q c3) q (intRow l) by rw [← hW5]; exact HOWN.out.alloc _)
        have HB5 := hide (show Below H W2 W5 by rw [← hW5]; exact HBK.out.alloc (by omega) _)
        have hs5 : X9 < W5.heap.size := HX5.out.lt
        have hHX : H ≤ X9 := by omega
        have HP := hide (posI_le x.i l)
        simp only [← hX9]
        clear hW5 hX9 d0 d1 d2 d3 d4 lb HOWN HBK
        go_loopw [6] (fun jv wi => ∃ j : Nat, j ≤ posI x.i l ∧ jv = .int .i64 j ∧ Hid (Below W5.heap.size W5 wi)) (fun jv _ => posI x.i l - (intOf jv).toNat)
        case atStart => exact ⟨0, by omega, rfl, hide (Below.refl _ _)⟩
        case round =>
          obtain ⟨j, hj, rfl, HB6⟩ := hrel
          have HST := hide (posI_step x.i l j hj)
          have HOWN6 := hide (own_belowI HOWN5.out HB6.out)
          have HRD := hide (Rd.of_own HOWN6.out (HQ.out ▸ intRow_at l))
          have x2 := (HX5.out.below HB6.out hs5).cell 2
          have lX : X9 < wr.heap.size := by have := HB6.out.size; omega
          simp at x2
          obtain ⟨b1, hb1⟩ : ∃ b : Bool, b = decide (j < posI x.i l) := ⟨_, rfl⟩
          have HB1 := hide hb1
          clear hb1
          go_upto_region 7 with fail
          go_cut [29] from 17 to 29 (fun s29 wx => s29 = .bool b1 ∧ Hid (∃ k, wx = wr.drewN k))
          case first =>
            by_cases hjq : j < q
            · obtain ⟨b2, o2, y, rfl, h2, c2, HY⟩ := num_at HRD.out hjq
              have hb : b1 = decide (y < x.i) := by
                have h := HST.out
                rw [HQ.out, HY.out] at h
                rw [HB1.out]
                by_cases g : y < x.i
                · rw [decide_eq_true g, decide_eq_true (h.1 ⟨hjq, g⟩)]
                · rw [decide_eq_false g, decide_eq_false (fun g' => g (h.2 g').2)]
              subst hb
              clear HY HB1
              go_wp2
              go_quiet (fail)
              go_wp2
              go_meet
              exact ⟨rfl, hide ⟨nq, rfl⟩⟩
            · have hb : b1 = false := by
                have h := HST.out
                rw [HQ.out] at h
                rw [HB1.out, decide_eq_false (fun g' => hjq (h.2 g').1)]
              have hjq' : j = q := by have := HP.out; rw [HQ.out] at this; omega
              subst hb
              clear hjq HB1
              subst hjq'
              go_wp2
              go_quiet (fail)
              go_wp2
              go_meet
              exact ⟨rfl, hide ⟨nq, rfl⟩⟩
          case rest =>
            obtain ⟨rfl, HWX⟩ := hcut
            obtain ⟨k1, rfl⟩ := HWX.out
            clear HWX
            by_cases hjp : j < posI x.i l
            · have hb : b1 = true := by rw [HB1.out, decide_eq_true hjp]
              have hjl : j < n := by have := HP.out; rw [HQ.out] at this; omega
              clear HB1
              subst hb
              go_wp2
              go_roundw
              case rel => exact ⟨j + 1, by omega, by go_num, hide (below_drewN HB6.out k1)⟩
              case measure => simp [intOf]; omega
            · have hb : b1 = false := by rw [HB1.out, decide_eq_false hjp]
              have hjp' : posI x.i l = j := by omega
              have hjq := hj
              rw [hjp'] at HP
              have hjq : j ≤ q := by have := HP.out; rw [HQ.out] at this; exact this
              clear HB1 hj hjp HST
              subst hb
              obtain ⟨WR, hWR⟩ : ∃ z, z = wr.drewN k1 := ⟨_, rfl⟩
              have HB7 := hide (show Below W5.heap.size W5 WR by rw [hWR]; exact below_drewN HB6.out k1)
              rw [← hWR]
              clear hWR x2 lX HRD HOWN6 HB6
              have HOWN7 := hide (own_belowI HOWN5.out HB7.out)
              have HRD7 := hide (Rd.of_own HOWN7.out (HQ.out ▸ intRow_at l))
              have x2 := (HX5.out.below HB7.out hs5).cell 2
              have lX : X9 < WR.heap.size := by have := HB7.out.size; omega
              simp at x2
              go_upto_region 9 with fail
              obtain ⟨b2, hb2⟩ : ∃ b : Bool, b = !decide (j < q ∧ l.getD j 0 = x.i) := ⟨_, rfl⟩
              have HB2 := hide hb2
              clear hb2
              go_cut [44] from 32 to 44 (fun s44 wx => s44 = .bool b2 ∧ Hid (∃ k, wx = WR.drewN k))
              case first =>
                by_cases hjq' : j < q
                · obtain ⟨b3, o3, y, rfl, h2, c2, HY⟩ := num_at HRD7.out hjq'
                  have tj : ((j : Int) == (q : Int)) = false := by simp; omega
                  have hb : b2 = (y != x.i) := by
                    rw [HB2.out, HY.out]
                    by_cases g : y = x.i
                    · subst g; simp [hjq']
                    · simp [g]
                  subst hb
                  clear HY HB2
                  go_wp2
                  go_quiet (fail)
                  go_wp2
                  go_meet
                  exact ⟨rfl, hide ⟨nq, rfl⟩⟩
                · have hb : b2 = true := by rw [HB2.out]; simp [hjq']
                  have hjq3 : j = q := by omega
                  subst hb
                  clear hjq' hjq HB2
                  subst hjq3
                  go_wp2
                  go_quiet (fail)
                  go_wp2
                  go_meet
                  exact ⟨rfl, hide ⟨nq, rfl⟩⟩
              case rest =>
                obtain ⟨rfl, HWX⟩ := hcut
                obtain ⟨k2, rfl⟩ := HWX.out
                clear HWX
                obtain ⟨WW, hWW⟩ : ∃ z, z = WR.drewN k2 := ⟨_, rfl⟩
                have HB8 := hide (show Below W5.heap.size W5 WW by rw [hWW]; exact below_drewN HB7.out k2)
                rw [← hWW]
                clear hWW x2 lX HRD7 HOWN7 HB7
                have HOWN8 := hide (own_belowI HOWN5.out HB8.out)
                have HBW8 := hide (HB5.out.trans (HB8.out.mono (by omega)))
                have hz8 : W5.heap.size ≤ WW.heap.size := HB8.out.size
                by_cases hin : j < q ∧ l.getD j 0 = x.i
                · have hb : b2 = false := by rw [HB2.out]; simp only [Bool.not_eq_false', decide_eq_true_eq]; exact hin
                  have HIN := hide (insI_yes (x := x.i) (l := l) ⟨by rw [hjp', HQ.out]; exact hin.1, by rw [hjp']; exact hin.2⟩)
                  rw [HIN.out] at HTK
                  subst hb
                  clear hin HB2 HIN
                  go_wp2
                  go_roundw
                  case rel => exact ⟨k + 1, A3, q, c3, l, by omega, by go_num, rfl, hide HTK.out.symm, HQ, by omega, HOWN8, HBW8, by omega⟩
                  case measure => simp [intOf]; omega
                · have hb : b2 = true := by rw [HB2.out]; simp only [Bool.not_eq_true', decide_eq_false_iff_not]; exact hin
                  have HIN := hide (insI_no (x := x.i) (l := l) (fun h => hin (by rw [hjp', HQ.out] at h; exact h)))
                  rw [HIN.out, hjp'] at HTK
                  subst hb
                  clear hin HB2 HIN
                  obtain ⟨A3', c3', hv3, hqc3, _⟩ := own_value HOWN8.out
                  have hqc3 : q ≤ c3 := by injection hv3 with e1 e2 e3; omega
                  clear hv3
                  have HRD8 := hide (Rd.of_own HOWN8.out (HQ.out ▸ intRow_at l))
                  have x2 := (HX5.out.below HB8.out hs5).cell 2
                  have lX : X9 < WW.heap.size := by omega
                  simp at x2
                  obtain ⟨V1, hV1, hn1⟩ := cut_take (A := A3) (c := c3) (k := j) hjq hqc3 (by unfold big; omega)
                  obtain ⟨V2, hV2, hn2⟩ := cut_drop (A := A3) (c := c3) (k := j) hjq hqc3 (by unfold big; omega)
                  have HNW := hide (show Nums WW WW.heap.size (.slice A3 q c3) l from ⟨_, _, _, rfl, HQ, hqc3, by unfold big; omega, HRD8.out⟩)
                  obtain ⟨A1, c1, rfl, hr1, hA1⟩ := nums_form (hn1 _ _ _ HNW.out)
                  obtain ⟨A2, c2, rfl, hr2, hA2⟩ := nums_form (hn2 _ _ _ HNW.out)
                  have HL1 := hide (show (l.take j).length = j by rw [List.length_take, HQ.out]; omega)
                  have HL2 := hide (show (l.drop j).length = q - j by rw [List.length_drop, HQ.out])
                  rw [HL1.out] at hV1 hr1 hA1
                  rw [HL2.out] at hV2 hr2 hA2
                  have HR1 := hide hr1
                  have HR2 := hide hr2
                  clear hr1 hr2 hn1 hn2 HNW HRD8
                  go_upto_region 10 with fail
                  go_region_law (first
                    | (refine step_append_any rfl (.tmp 53) (.tmp 56) 22 rfl WW.heap.size 3 i0 _ 1 8 Try.underlying22 hi0 hz0 hz1 hz2 rfl (by omega) (.slice A7 (j + 1) c7) (j + 1) (intRow (l.take j) ++ intRow [x.i]) rfl (by exact hown7) WW.heap.size A2 (q - j) c2 (intRow (l.drop j)) (intCell (l.drop j)) rfl (by exact HR2.out.below HB7.out (Nat.le_refl _)) hA2 (by rw [intRow_length, HL2.out, Nat.mul_one]) (fun i j' hi hj => intRow_at _ i j' (by rw [HL2.out]; exact hi) hj) (intRow_one _) (by simp only [maxLen]; omega) (by omega) (by have := HB7.out.size; simp <;> omega) ?_; intro v8 w8 hown8 hg8 _; rw [show j + 1 + (q - j) = q + 1 by omega] at hown8; obtain ⟨A8, c8, rfl, hkc8, _⟩ := own_value hown8; have HB8' := hide (HB7.out.grown hg8 (by have := HB7.out.size; simp <;> omega) (fun q hq => (hown7.lt q hq).1)))
                    | (refine step_append_any rfl (.tmp 49) (.tmp 52) 22 rfl WW.heap.size 3 i0 _ 1 8 Try.underlying22 hi0 hz0 hz1 hz2 rfl (by omega) (.slice A6 j c6) j (intRow (l.take j)) rfl (by exact hown6) _ (some ⟨WW.heap.size + 1, 0, none⟩) 1 1 (intRow [x.i]) (intCell [x.i]) rfl (by exact rd_single (t := 3) (by (repeat (first | ((with_reducible refine Blk.at_ ?_); first | (with_reducible rfl) | (simp; done)) | (with_reducible refine Blk.alloc ?_ _) | (with_reducible refine Blk.drew ?_) | (with_reducible exact HE6.out))))) (by simp) (by simp [intRow]) (intRow_at [x.i]) (intRow_one _) (by simp only [maxLen]; omega) (by omega) (by have := HB6.out.size; simp <;> omega) ?_; intro v7 w7 hown7 hg7 _; obtain ⟨A7, c7, rfl, hkc7, _⟩ := own_value hown7; have HB7 := hide (HB6.out.grown hg7 (by have := HB6.out.size; simp <;> omega) (fun q hq => (hown6.lt q hq).1)))
                    | (refine step_append_any rfl (.tmp 49) (.tmp 52) 22 rfl WW.heap.size 3 i0 _ 1 8 Try.underlying22 hi0 hz0 hz1 hz2 rfl (by omega) (.slice A6 j c6) j (intRow (l.take j)) rfl (by exact hown6) _ (some ⟨WW.heap.size, 0, none⟩) 1 1 (intRow [x.i]) (intCell [x.i]) rfl (by exact rd_single (t := 3) (by (repeat (first | ((with_reducible refine Blk.at_ ?_); first | (with_reducible rfl) | (simp; done)) | (with_reducible refine Blk.alloc ?_ _) | (with_reducible refine Blk.drew ?_) | (with_reducible exact HE6.out))))) (by simp) (by simp [intRow]) (intRow_at [x.i]) (intRow_one _) (by simp only [maxLen]; omega) (by omega) (by have := HB6.out.size; simp <;> omega) ?_; intro v7 w7 hown7 hg7 _; obtain ⟨A7, c7, rfl, hkc7, _⟩ := own_value hown7; have HB7 := hide (HB6.out.grown hg7 (by have := HB6.out.size; simp <;> omega) (fun q hq => (hown6.lt q hq).1)))
                    | (refine step_append_any rfl (.tmp 49) (.tmp 52) 22 rfl WW.heap.size 3 i0 _ 1 8 Try.underlying22 hi0 hz0 hz1 hz2 rfl (by omega) (.slice A6 j c6) j (intRow (l.take j)) rfl (by exact hown6.alloc _) _ (some ⟨w6.heap.size, 0, none⟩) 1 1 (intRow [x.i]) (intCell [x.i]) rfl (by exact rd_single (t := 3) (by (repeat (first | ((with_reducible refine Blk.at_ ?_); first | (with_reducible rfl) | (simp; done)) | (with_reducible refine Blk.alloc ?_ _) | (with_reducible refine Blk.drew ?_) | (with_reducible exact HE6.out))))) (by simp) (by simp [intRow]) (intRow_at [x.i]) (intRow_one _) (by simp only [maxLen]; omega) (by omega) (by have := HB6.out.size; simp <;> omega) ?_; intro v7 w7 hown7 hg7 _; obtain ⟨A7, c7, rfl, hkc7, _⟩ := own_value hown7; have HB7 := hide ((HB6.out.alloc (by have := HB6.out.size; omega) _).grown hg7 (by have := HB6.out.size; simp <;> omega) (fun q hq => (hown6.lt q hq).1)))
                    | (refine step_append_any rfl (.tmp 45) (.tmp 48) 22 rfl WW.heap.size 3 i0 _ 1 8 Try.underlying22 hi0 hz0 hz1 hz2 rfl (by omega) (.slice (some ⟨WW.heap.size, 0, none⟩) 0 0) 0 [] rfl (own_emptyI (by (repeat (first | ((with_reducible refine Blk.at_ ?_); first | (with_reducible rfl) | (simp; done)) | (with_reducible refine Blk.alloc ?_ _) | (with_reducible refine Blk.drew ?_) | (with_reducible exact HE6.out)))) (by simp)) WW.heap.size A1 j c1 (intRow (l.take j)) (intCell (l.take j)) rfl (by exact HR1.out.below (show Below WW.heap.size WW _ by go_grown) (Nat.le_refl _)) hA1 (by rw [intRow_length, HL1.out, Nat.mul_one]) (fun i j' hi hj => intRow_at _ i j' (by rw [HL1.out]; exact hi) hj) (intRow_one _) (by simp only [maxLen]; omega) (by omega) (by simp <;> omega) ?_; intro v6 w6 hown6 hg6 _; simp only [Nat.zero_add, List.nil_append] at hown6; obtain ⟨A6, c6, rfl, hkc6, _⟩ := own_value hown6; have HB6 := hide ((((Below.refl WW.heap.size WW).alloc (Nat.le_refl _) _).alloc (by simp) _).drew.grown hg6 (by simp <;> omega) (fun q hq => by simp [Value.ownBlock] at hq; omega)); have HE6 := hide ((show Blk _ (WW.heap.size + 1) 3 #[.int .i64 x.i] by exact (Blk.at_ (by simp))).grown hg6 (by simp [Value.ownBlock])); have x26 := keep_cell HB6.out x2 lX; have lX6 : X9 < w6.heap.size := Nat.lt_of_lt_of_le lX HB6.out.size)
                    | (refine step_append_any rfl (.tmp 45) (.tmp 48) 22 rfl WW.heap.size 3 i0 _ 1 8 Try.underlying22 hi0 hz0 hz1 hz2 rfl (by omega) (.slice (some ⟨WW.heap.size, 0, none⟩) 0 0) 0 [] rfl (own_emptyI (by (repeat (first | ((with_reducible refine Blk.at_ ?_); first | (with_reducible rfl) | (simp; done)) | (with_reducible refine Blk.alloc ?_ _) | (with_reducible refine Blk.drew ?_) | (with_reducible exact HE6.out)))) (by simp)) WW.heap.size A1 j c1 (intRow (l.take j)) (intCell (l.take j)) rfl (by exact HR1.out.below (show Below WW.heap.size WW _ by go_grown) (Nat.le_refl _)) hA1 (by rw [intRow_length, HL1.out, Nat.mul_one]) (fun i j' hi hj => intRow_at _ i j' (by rw [HL1.out]; exact hi) hj) (intRow_one _) (by simp only [maxLen]; omega) (by omega) (by simp <;> omega) ?_; intro v6 w6 hown6 hg6 _; simp only [Nat.zero_add, List.nil_append] at hown6; obtain ⟨A6, c6, rfl, hkc6, _⟩ := own_value hown6; have HB6 := hide (((Below.refl WW.heap.size WW).alloc (Nat.le_refl _) _).drew.grown hg6 (by simp) (fun q hq => by simp [Value.ownBlock] at hq; omega)); have x26 := keep_cell HB6.out x2 lX; have lX6 : X9 < w6.heap.size := Nat.lt_of_lt_of_le lX HB6.out.size)
                    | (refine step_append_any rfl (.tmp 45) (.tmp 48) 22 rfl WW.heap.size 3 i0 _ 1 8 Try.underlying22 hi0 hz0 hz1 hz2 rfl (by omega) (.slice (some ⟨WW.heap.size + 1, 0, none⟩) 0 0) 0 [] rfl (own_emptyI (by (repeat (first | ((with_reducible refine Blk.at_ ?_); first | (with_reducible rfl) | (simp; done)) | (with_reducible refine Blk.alloc ?_ _) | (with_reducible refine Blk.drew ?_) | (with_reducible exact HE6.out)))) (by simp)) WW.heap.size A1 j c1 (intRow (l.take j)) (intCell (l.take j)) rfl (by exact HR1.out.below (show Below WW.heap.size WW _ by go_grown) (Nat.le_refl _)) hA1 (by rw [intRow_length, HL1.out, Nat.mul_one]) (fun i j' hi hj => intRow_at _ i j' (by rw [HL1.out]; exact hi) hj) (intRow_one _) (by simp only [maxLen]; omega) (by omega) (by simp <;> omega) ?_; intro v6 w6 hown6 hg6 _; simp only [Nat.zero_add, List.nil_append] at hown6; obtain ⟨A6, c6, rfl, hkc6, _⟩ := own_value hown6; have HB6 := hide ((((Below.refl WW.heap.size WW).alloc (Nat.le_refl _) _).alloc (by simp) _).drew.grown hg6 (by simp <;> omega) (fun q hq => by simp [Value.ownBlock] at hq; omega)); have HE6 := hide ((show Blk _ (WW.heap.size) 3 #[.int .i64 x.i] by exact ((Blk.at_ rfl).alloc _)).grown hg6 (by simp [Value.ownBlock])); have x26 := keep_cell HB6.out x2 lX; have lX6 : X9 < w6.heap.size := Nat.lt_of_lt_of_le lX HB6.out.size))
                  all_goals go_wp2
                  all_goals
                    go_roundw
                    · exact ⟨k + 1, A8, q + 1, c8, l.take j ++ [x.i] ++ l.drop j, by omega, by go_num, rfl, hide HTK.out.symm, hide (by simp only [List.length_append, List.length_cons, List.length_nil]; rw [HL1.out, HL2.out]; omega), by omega, hide (own_monoI (show _ from (by rw [intRow_append, intRow_append]; exact hown8)) (show H ≤ WW.heap.size by omega)), hide (HBW8.out.trans (HB8'.out.mono (by omega))), by have := HB8'.out.size; omega⟩
                    · simp [intOf]; omega
    · obtain rfl : n = k := by omega
      have hend : a.arcs.take n = a.arcs := List.take_of_length_le (by rw [HN.out]; exact Nat.le_refl _)
      have HL' := HL.out
      rw [hend] at HL'
      have HE := hide (show (labsR a.arcs).length = q by rw [← HL', HQ.out])
      rw [HL'] at HOWN
      have HBE := hide (HBW.out.trans HBK.out)
      go_wp2
      refine bodyPost_ret (v := .slice A3 q c3) (by simp [results, Try.results27, go_sem]) rfl ⟨A3, c3, ?_⟩
      rw [HE.out, ← HHW.out]
      exact ⟨rfl, HOWN.out, HBE.out⟩
end Go.Proofs.Ytopakcbhodnipaa
