/- machine.Weight, walked. -/
import Derived.Test.YtmgpcnkmmgkjgaaWdW
import Derived.Test.YtmgpcnkmmgkjgaaHpC
import Derived.Test.YtmgpcnkmmgkjgaaWtQ
import Derived.Test.YtmgpcnkmmgkjgaaOuP
import Derived.Test.YtmgpcnkmmgkjgaaTrimA
import Derived.Test.YtmgpcnkmmgkjgaaReach
import Derived.Deep.CutRange
namespace Gm
open Go Go.RowKit
theorem wt_step {a b c e : Nat} (h1 : e + b * 1000000 ≤ c) (h2 : a + 1 = b) : e + a * 1000000 ≤ c := by
  have h3 := Nat.mul_le_mul_right 1000000 (show a ≤ b by omega)
  exact Nat.le_trans (Nat.add_le_add_left h3 e) h1
theorem wt_push {a b c w d : Nat} (h1 : w + b * 1000000 ≤ c) (h2 : a + 1 = b) (h3 : d ≤ 1000000) : w + d + a * 1000000 ≤ c := by
  have h4 : b * 1000000 = a * 1000000 + 1000000 := by rw [← h2, Nat.add_mul, Nat.one_mul]
  rw [h4] at h1
  clear h4 h2
  generalize a * 1000000 = A at *
  omega
theorem stp_no1 {u v : List Int} {a : Arc} {i j : Nat} (h1 : a.i ≠ 0) (h2 : i = u.length ∨ u.getD i 0 ≠ a.i) : stp u v a i j = none := by
  unfold stp; rw [if_pos ⟨h1, h2⟩]
theorem stp_no2 {u v : List Int} {a : Arc} {i j : Nat} (h1 : a.o ≠ 0) (h2 : j = v.length ∨ v.getD j 0 ≠ a.o) : stp u v a i j = none := by
  unfold stp
  by_cases h : a.i ≠ 0 ∧ (i = u.length ∨ u.getD i 0 ≠ a.i)
  · rw [if_pos h]
  · rw [if_neg h, if_pos ⟨h1, h2⟩]
theorem stp_yes {u v : List Int} {a : Arc} {i j i1 j1 : Nat} (h1 : (a.i = 0 ∧ i1 = i) ∨ (a.i ≠ 0 ∧ i ≠ u.length ∧ u.getD i 0 = a.i ∧ i1 = i + 1)) (h2 : (a.o = 0 ∧ j1 = j) ∨ (a.o ≠ 0 ∧ j ≠ v.length ∧ v.getD j 0 = a.o ∧ j1 = j + 1)) : stp u v a i j = some (i1, j1) := by
  unfold stp
  rcases h1 with ⟨g1, rfl⟩ | ⟨g1, g2, g3, rfl⟩ <;> rcases h2 with ⟨k1, rfl⟩ | ⟨k1, k2, k3, rfl⟩
  · simp [g1, k1]
  · rw [if_neg (by simp [g1]), if_neg (by rintro ⟨_, h | h⟩ <;> contradiction), if_pos g1, if_neg k1]
  · rw [if_neg (by rintro ⟨_, h | h⟩ <;> contradiction), if_neg (by simp [k1]), if_neg g1, if_pos k1]
  · rw [if_neg (by rintro ⟨_, h | h⟩ <;> contradiction), if_neg (by rintro ⟨_, h | h⟩ <;> contradiction), if_neg g1, if_neg k1]
theorem dij_Y {m : Mach} {u v : List Int} {q : List Pl} {D : Nat → Nat → Nat → Option Nat} {la s0 i0 j0 : Nat} {Y Y' : Arc → Prop} (h : Dij m u v q D la s0 i0 j0 Y) (e : ∀ a, Y' a → Y a) : Dij m u v q D la s0 i0 j0 Y' where
  open_ := h.open_
  done_ := h.done_
  next_ := fun s i j d hd a ha hf hY => h.next_ s i j d hd a ha hf (fun hp => e a (hY hp))
  start_ := h.start_
end Gm
namespace Go.Proofs.Ytmgpcnkmmgkjgaa
open Go.RowKit Gm
set_option linter.unusedSimpArgs false
set_option linter.unusedVariables false
theorem arcs_info : (Try.prog.info? 22).map (fun i => (i.zero, i.size, i.bytes)) = some (some (.slice none 0 0), 1, 24) := by kernel_rfl
theorem ta_place (v : Value) (w : World) : Sem.run Try.prog (Instr.typeAssert (.iface 91 v) 20 91 false) w = .ok v w := by kernel_rfl
set_option maxRecDepth 100000 in
set_option maxHeartbeats 8000000 in
theorem weight_good (v v1 v2 : Value) (m : Mach) (S : Nat) (lu lo : List Int) (w : World) (B : Nat) (hB : B ≤ w.heap.size) (h : MachAt w B v m) (hS : m.n = (S : Int)) (hS0 : 0 < S) (hS4 : S ≤ 400) (hn2 : m.arcs.length ≤ 2000) (hrng : inRange m.arcs S) (hwa : ∀ a ∈ m.arcs, 0 ≤ a.w ∧ a.w ≤ 1000000) (hfr : ∀ x ∈ m.fins, 0 ≤ x.s ∧ x.s < (S : Int) ∧ 0 ≤ x.w ∧ x.w ≤ 1000000)
    (huni : ∀ y ∈ m.fins, ∀ z ∈ m.fins, z.s = y.s → z.w = y.w) (hu30 : lu.length ≤ 30) (ho30 : lo.length ≤ 30)
    (hv : validate m = (0, 0)) (h1 : Nums w B v1 lu) (h2 : Nums w B v2 lo) (hu : ∀ ix, wordF lu ix = (0, 0)) (ho : ∀ ix, wordF lo ix = (0, 0)) :
    Calls Try.prog 50 #[v, v1, v2] w fun e w' => e = .returned (.tuple #[.int .i64 (max (wgt m lu lo) 0), .bool (decide (0 ≤ wgt m lu lo)), .agg #[.int .i64 0, .int .i64 0]]) ∧ Below w.heap.size w w' := by
  obtain ⟨wv, hwv⟩ : ∃ x, x = wgt m lu lo := ⟨_, rfl⟩
  rw [← hwv]
  have HWV := hide hwv
  clear hwv
  have hne := fun a b c d W => run_neq_fault a b c d W
  have hf0 : fEq 0 0 0 0 = true := rfl
  have hV := fun W (hB : B ≤ W.heap.size) (h : MachAt W B v m) => validate_ok v m W B hB h hv
  have hM := h
  obtain ⟨AM, AF, n, c, nf, cf, rfl, HN, HF, hnc, hnfc, hnb, hnfb, hA, hF⟩ := h
  rw [hS] at hV hM ⊢
  have HV := hide hV
  have HM := hide hM
  have hU := fun ix W (hB : B ≤ W.heap.size) (h : Nums W B v1 lu) => word_any v1 lu ix W B hB h
  have hO := fun ix W (hB : B ≤ W.heap.size) (h : Nums W B v2 lo) => word_any v2 lo ix W B hB h
  simp only [hu, ho] at hU hO
  have HU := hide hU
  have HO := hide hO
  have H1 := hide h1
  have H2 := hide h2
  have HS := hide hS
  rw [HN.out] at hn2
  obtain ⟨ia, ha0, ha1, ha2, ha3⟩ := info_parts arc_info
  have hmk := fun (W : World) => run_make_row' (P := Try.prog) 79 22 (.slice none 0 0) 24 Try.underlying79 arcs_info rfl .i64 .i64 S (by omega) (by omega) W
  have HMK := hide hmk
  have hmkF := fun (W : World) => run_make_row' (P := Try.prog) 36 3 (.int .i64 0) 8 Try.underlying36 int_info rfl .i64 .i64 S (by omega) (by omega) W
  have HMKF := hide hmkF
  have HWA := hide hwa
  have HFR := hide hfr
  have HSZ := hide hS0
  have HUNI := hide huni
  have HU30 := hide hu30
  have HO30 := hide ho30
  clear hmkF hwa hfr huni hu30 ho30
  clear hV hM hU hO h1 h2 hu ho hv hmk hS
  go_enter Try.func50, Try.ntmps50
  go_wp2_with fail
  refine (HV.out _ (by simp; omega) (HM.out.below (show Below w.heap.size w _ by go_grown) hB)).mono ?_
  rintro e w1 ⟨rfl, hb1⟩
  have hbw1 : Below w.heap.size w w1 := Below.trans (show Below w.heap.size w _ by go_grown) (hb1.mono (by simp; omega))
  have bM1 : Blk w1 w.heap.size 25 #[.int .i64 (S : Int), .slice AM n c, .slice AF nf cf] := ((Blk.new w _ _).alloc _).below hb1 (by simp; omega)
  have bR1 : Blk w1 (w.heap.size + 1) 28 #[.int .i64 0, .int .i64 0] := (Blk.at_ (by simp)).below hb1 (by simp)
  have hz1 := bR1.lt
  clear hb1 HV HM
  go_wp2_with fail
  refine (HU.out _ _ (by simp; omega) (H1.out.below (hbw1.alloc hbw1.size _) hB)).mono ?_
  rintro e w2 ⟨rfl, hb2⟩
  have hbw2 : Below w.heap.size w w2 := (hbw1.alloc hbw1.size _).trans (hb2.mono (by simp; omega))
  have bM2 := (bM1.alloc _).below hb2 (by simp; omega)
  have bR2 := (bR1.alloc _).below hb2 (by simp; omega)
  have hz2 := bR2.lt
  clear hb2 hbw1 bM1 bR1
  go_wp2_with fail
  refine (HO.out _ _ (by simp; omega) (H2.out.below (hbw2.alloc hbw2.size _) hB)).mono ?_
  rintro e w3 ⟨rfl, hb3⟩
  have hbw3 : Below w.heap.size w w3 := (hbw2.alloc hbw2.size _).trans (hb3.mono (by simp; omega))
  have bM3 := (bM2.alloc _).below hb3 (by simp; omega)
  have bR3 := (bR2.alloc _).below hb3 (by simp; omega)
  have hz3 := bR3.lt
  clear hb3 hbw2 bM2 bR2 HU HO
  have kM0 : w3.cell? ⟨w.heap.size, 0, none⟩ = some (.int .i64 (S : Int)) := bM3.cell 0
  have kM1 : w3.cell? ⟨w.heap.size, 1, none⟩ = some (.slice AM n c) := bM3.cell 1
  have lM := bM3.lt
  have hSb : ((S : Int) == 0) = false := by simp; omega
  obtain ⟨A1, nu, c1, rfl, HNU, hu1, hu2, hru⟩ := H1.out
  obtain ⟨A2, no, c2, rfl, HNO, ho1, ho2, hro⟩ := H2.out
  have hmk := HMK.out
  go_wp2
  clear hmk
  generalize hW : World.alloc _ _ = W0
  obtain ⟨G, hG⟩ : ∃ G, G = w3.heap.size + 1 := ⟨_, rfl⟩
  have hb30 : Below w3.heap.size w3 W0 := by rw [← hW]; go_grown
  have hbw0 : Below w.heap.size w W0 := hbw3.trans (hb30.mono hbw3.size)
  have ll0 : OwnLL W0 (G + 1) 22 45 5 G S (fun _ => .slice none 0 0) (fun i => arcRow (outs (m.arcs.take 0) i)) (fun i => (outs (m.arcs.take 0) i).length) := by
    rw [← hW, hG]
    refine ⟨?_, by omega, fun i _ => World.ownsRow_nil _ _ _ _, fun i j _ _ _ => .inl rfl⟩
    have := World.rowIs_made (w3.alloc (Obj.cells #[.int .i64 0, .int .i64 0] 28)) (.slice none 0 0) S 22
    simpa using this
  have hz0 : G + 1 ≤ W0.heap.size := by rw [← hW, hG]; simp
  have bM := bM3.below hb30 lM
  have bR := bR3.below hb30 hz3
  rw [← hG]
  have hMG : w.heap.size < G := by rw [hG]; omega
  have hRG : w.heap.size + 1 < G := by rw [hG]; omega
  have hA0 : Rd W0 G 5 AM n (arcCell m.arcs) := (hA.below hbw0 hB).mono (by omega)
  have hF0 : Rd W0 G 2 AF nf (finCell m.fins) := (hF.below hbw0 hB).mono (by omega)
  have hru0 : Rd W0 G 1 A1 nu (intCell lu) := (hru.below hbw0 hB).mono (by omega)
  have hro0 : Rd W0 G 1 A2 no (intCell lo) := (hro.below hbw0 hB).mono (by omega)
  clear hW hb30 hA hF hru hro bM3 bR3 hz3 kM0 kM1 lM hbw3 H1 H2
  have HGE := hide hG
  clear hG
  have HBM := hide bM
  have HBR := hide bR
  have HA0 := hide hA0
  have HF0 := hide hF0
  have HRU := hide hru0
  have HRO := hide hro0
  have HRNG := hide hrng
  unfold big at hu2 ho2 hnb hnfb
  clear bM bR hA0 hF0 hru0 hro0 hrng
  go_loopw [57] (fun iv wr => ∃ (k : Nat) (vs : Nat → Value), k ≤ n ∧ iv = .int .i64 k ∧ Hid (Below G W0 wr) ∧ Hid (OwnLL wr (G + 1) 22 45 5 G S vs (fun i => arcRow (outs (m.arcs.take k) i)) (fun i => (outs (m.arcs.take k) i).length)) ∧ G + 1 ≤ wr.heap.size) (fun iv _ => n - (intOf iv).toNat)
  case atStart => exact ⟨0, _, by omega, rfl, hide (Below.refl _ _), hide ll0, hz0⟩
  case round =>
    clear ll0 hz0
    obtain ⟨k, vs, hk, rfl, HB1, HLL, hz⟩ := hrel
    have hkM := HBM.out.below HB1.out hMG
    have k0 : wr.cell? ⟨w.heap.size, 0, none⟩ = some (.int .i64 (S : Int)) := hkM.cell 0
    have k1 : wr.cell? ⟨w.heap.size, 1, none⟩ = some (.slice AM n c) := hkM.cell 1
    have k2 : wr.cell? ⟨w.heap.size, 2, none⟩ = some (.slice AF nf cf) := hkM.cell 2
    have hlt : w.heap.size < wr.heap.size := by omega
    clear hkM
    by_cases hkn : k < n
    · obtain ⟨b, off, a, rfl, hbB, c0, c1, c2, c3, c4, HA⟩ := arcs_at (HA0.out.below HB1.out (Nat.le_refl _)) hkn
      have hbw' : b < wr.heap.size := by omega
      have hGl : G < wr.heap.size := by omega
      have hin := HRNG.out a (getD_mem (by rw [HN.out]; exact hkn) HA.out)
      obtain ⟨r0, r1, r2, r3⟩ := hin
      have hkey : a.f.toNat < S := by omega
      have cG := HLL.out.row.cell hkey
      have fG := HLL.out.row.frozen a.f.toNat
      obtain ⟨vk, hvk⟩ : ∃ x, x = vs a.f.toNat := ⟨_, rfl⟩
      have HVK := hide hvk
      rw [← hvk] at cG
      have ownk := HLL.out.own _ hkey
      have hlen := outs_le (m.arcs.take k) a.f.toNat
      rw [List.length_take] at hlen
      rw [← hvk] at ownk
      clear hvk
      have hownlt := ownk.lt
      have ne1 : vk.ownBlock ≠ some wr.heap.size := fun e => by have := (hownlt _ e).2; omega
      have neG : vk.ownBlock ≠ some G := fun e => by have := (hownlt _ e).1; omega
      obtain ⟨olen, hol⟩ : ∃ z, z = (outs (m.arcs.take k) a.f.toNat).length := ⟨_, rfl⟩
      have HOL := hide hol
      rw [← hol] at ownk hlen
      have OWK := hide ownk
      have HOWLT := hide hownlt
      clear ownk hol hownlt
      go_wp2
      refine wp_mix (fun w' => w'.cell? ⟨wr.heap.size, 0, none⟩ = some (.int .i64 a.f) ∧ w'.cell? ⟨wr.heap.size, 1, none⟩ = some (.int .i64 a.t) ∧ w'.cell? ⟨wr.heap.size, 2, none⟩ = some (.int .i64 a.i) ∧ w'.cell? ⟨wr.heap.size, 3, none⟩ = some (.int .i64 a.o) ∧ w'.cell? ⟨wr.heap.size, 4, none⟩ = some (.int .i64 a.w) ∧ w'.cell? ⟨G, a.f.toNat, none⟩ = some vk) 11 [(0, false), (1, false), (2, false), (3, false), (4, false), (5, false), (6, false), (7, false), (8, false), (9, true), (10, true)] (by kernel_rfl) (by kernel_rfl) ?_ ?_
      · go_simp
      simp only [List.drop_succ_cons, List.drop_zero]
      repeat (refine mix_q (v := ?_) (by rfl) (by rfl) ?_ ?_; rotate_left; (focus (intro w' hC; (try dsimp only at hC); go_simp; (first | done | with_reducible rfl))); simp only [Act.put, List.setIfInBounds_toArray, List.set_cons_zero, List.set_cons_succ])
      refine mix_l (by rfl) (by rfl) (fun K hK => ?_)
      go_simp
      refine hK _ _ (by go_simp) ?_
      clear hK K
      refine mix_l (by rfl) (by rfl) (fun K hK => ?_)
      refine wp_append_lies _ (.tmp 68) (.tmp 70) 22 (by rfl) (G + 1) 45 ia _ 5 40 Try.underlying22 ha0 ha1 ha2 ha3 rfl (by omega) vk _ _ (by rfl) (((OWK.out.alloc _).alloc _).drew)
            ⟨wr.heap.size + 1, 0, none⟩ 1 1 [.int .i64 a.f, .int .i64 a.t, .int .i64 a.i, .int .i64 a.o, .int .i64 a.w] (by rfl) (by rfl) (World.news_of_block (cs := #[.int .i64 a.f, .int .i64 a.t, .int .i64 a.i, .int .i64 a.o, .int .i64 a.w]) (t := 45) (fr := (0, 0)) ((Blk.at_ (by simp)).drew)) (by simp [Value.oneCell'])
            (by omega) (by simp only [maxLen]; omega) (by omega) (by simp; omega) (wr.heap.size + 1 + 1) (by simp) ?_
      intro gg cap w4 hown1 hgrow hat hltg
      have fG1 : w4.frozen? ⟨G, a.f.toNat, none⟩ = false := far_free hgrow neG (by simp; omega) ((((HLL.out.alloc _).alloc _).drew).row.frozen _)
      have cG1 : w4.cell? ⟨G, a.f.toNat, none⟩ = some vk := far_cell hgrow neG (by go_simp)
      refine hK _ _ ⟨far_cell hgrow ne1 (by go_simp), far_cell hgrow ne1 (by go_simp), far_cell hgrow ne1 (by go_simp), far_cell hgrow ne1 (by go_simp), far_cell hgrow ne1 (by go_simp), cG1⟩ ?_
      clear hK K
      refine mix_nil ?_; try simp only [Act.put, List.setIfInBounds_toArray, List.set_cons_zero, List.set_cons_succ]
      go_wp2
      refine NoPanic.normal ?_
      go_wp2
      have hvb : vk.ownBlock = (vs a.f.toNat).ownBlock := by rw [HVK.out]
      have llp := (((HLL.out.alloc _).alloc _).drew).push hkey (hvb ▸ hgrow) hown1 (hat.elim (fun e => .inl (by rw [← hvb, e]; rfl)) (fun e => .inr ⟨gg, rfl, by rw [e]; simp⟩))
      have hk1 : a.f = ((a.f.toNat : Nat) : Int) := by omega
      have e1 := outsRow_push (l := m.arcs.take k) hk1
      have e2 := outsLen_push (l := m.arcs.take k) hk1
      rw [← HOL.out] at e2
      rw [e1, e2, ← take_push (by rw [HN.out]; exact hkn) HA.out] at llp
      clear e1 e2
      go_roundw
      case rel => exact ⟨k + 1, _, by omega, by go_num, hide ((((((HB1.out.alloc (by omega) _).alloc (by simp; omega) _).drew).grown hgrow (by simp; omega) (fun k hk => by have := (HOWLT.out _ hk).1; omega)).setCell (by simp) _)), hide llp, by have := hgrow.size; simp [World.setCell] at this ⊢; omega⟩
      case measure => simp [intOf]; omega
    · have hend : m.arcs.take k = m.arcs := List.take_of_length_le (by rw [HN.out]; omega)
      have ll := HLL.out
      rw [hend] at ll
      have hrows : ∀ s, s < S → ∃ A n c, vs s = .slice A n c ∧ n = (outs m.arcs s).length ∧ Rd wr wr.heap.size 5 A n (arcCell (outs m.arcs s)) := fun s hs => by
        have ow := ll.own s hs
        obtain ⟨A, c, hv, _, _⟩ := own_value ow
        rw [hv] at ow
        exact ⟨A, _, c, hv, rfl, Rd.of_own ow (arcRow_at _)⟩
      have HROWS := hide hrows
      have HGR := hide ll.row
      clear ll hend hrows HLL
      obtain ⟨WA, hWA⟩ : ∃ W, W = wr := ⟨_, rfl⟩
      rw [← hWA] at HROWS HGR
      have HWA := hide hWA
      have hmk := HMKF.out
      clear hWA
      go_wp2
      clear hmk
      generalize hW : World.alloc _ _ = W2
      obtain ⟨H1, hH1⟩ : ∃ H, H = wr.heap.size := ⟨_, rfl⟩
      have rF0 : W2.rowIs H1 3 S (fun i => .int .i64 (if i < 0 then -1 else 0)) := by
        rw [← hW, hH1]; exact (World.rowIs_made wr (.int .i64 0) S 3).congr (fun i _ => by simp)
      have HB2 := hide (show Below G W0 W2 by rw [← hW]; exact HB1.out.alloc (by omega) _)
      have HWAH := hide (show WA.heap.size = H1 by rw [HWA.out, hH1])
      have HBA := hide (show Below H1 WA W2 by rw [HWA.out, ← hW, hH1]; exact (Below.refl _ _).alloc (Nat.le_refl _) _)
      have hz2 : H1 + 1 ≤ W2.heap.size := by rw [← hW, hH1]; simp
      have hGH : G < H1 := by omega
      rw [← hH1]
      clear hW hH1 k0 k1 k2 hlt hz HB1 HWA
      go_loopw [79] (fun iv wr => ∃ k : Nat, k ≤ S ∧ iv = .int .i64 k ∧ Hid (Below H1 W2 wr) ∧ Hid (wr.rowIs H1 3 S (fun i => .int .i64 (if i < k then -1 else 0))) ∧ H1 + 1 ≤ wr.heap.size) (fun iv _ => S - (intOf iv).toNat)
      case atStart => exact ⟨0, by omega, rfl, hide (Below.refl _ _), hide rF0, hz2⟩
      case round =>
        clear rF0 hz2
        obtain ⟨q, hq, rfl, HB3, HR, hz⟩ := hrel
        have kM := (HBM.out.below HB2.out hMG).below HB3.out (by omega)
        have k2 : wr.cell? ⟨w.heap.size, 2, none⟩ = some (.slice AF nf cf) := kM.cell 2
        have k0 : wr.cell? ⟨w.heap.size, 0, none⟩ = some (.int .i64 (S : Int)) := kM.cell 0
        have lM : w.heap.size < wr.heap.size := by omega
        clear kM
        by_cases hqS : q < S
        · have cH := HR.out.cell hqS
          have fH := HR.out.frozen q
          have lH : H1 < wr.heap.size := by omega
          have j0 : (0 : Int) ≤ (q : Int) := by omega
          have j1 : (q : Int) < (S : Int) := by omega
          go_wp2
          go_roundw
          case rel => exact ⟨q + 1, by omega, by go_num, hide (HB3.out.setCell (by simp) _), hide ((HR.out.set q (.int .i64 (-1))).congr (fun i _ => by by_cases e : i = q <;> simp [e] <;> (by_cases e2 : i < q <;> simp [e2] <;> omega))), by simpa [World.setCell] using hz⟩
          case measure => simp [intOf]; omega
        · obtain rfl : S = q := by omega
          have rN : wr.rowIs H1 3 S (fun i => .int .i64 (finU (m.fins.take 0) i)) := HR.out.congr (fun i hi => by simp [hi, finU])
          have HB23 := HB3
          go_wp2
          go_loopw [89] (fun iv wr => ∃ k : Nat, k ≤ nf ∧ iv = .int .i64 k ∧ Hid (Below H1 W2 wr) ∧ Hid (wr.rowIs H1 3 S (fun i => .int .i64 (finU (m.fins.take k) i))) ∧ H1 + 1 ≤ wr.heap.size) (fun iv _ => nf - (intOf iv).toNat)
          case atStart => exact ⟨0, by omega, rfl, HB23, hide rN, hz⟩
          case round =>
            clear rN hz HB3 HB23 HR k0 k2 lM
            obtain ⟨q, hq, rfl, HB3, HR, hz⟩ := hrel
            have kM := (HBM.out.below HB2.out hMG).below HB3.out (by omega)
            have k0 : wr.cell? ⟨w.heap.size, 0, none⟩ = some (.int .i64 (S : Int)) := kM.cell 0
            have lM : w.heap.size < wr.heap.size := by omega
            clear kM
            by_cases hqn : q < nf
            · obtain ⟨b, off, x, rfl, hbB, c0, c1, HX⟩ := fins_at ((HF0.out.below HB2.out (Nat.le_refl _)).below HB3.out (by omega)) hqn
              have hql : q < m.fins.length := by rw [HF.out]; exact hqn
              obtain ⟨r0, r1, r2, r3⟩ := HFR.out x (by rw [← HX.out]; simp [List.getD, hql])
              have hxS : x.s.toNat < S := by omega
              have cH := HR.out.cell hxS
              have fH := HR.out.frozen x.s.toNat
              have lH : H1 < wr.heap.size := by omega
              have hbz : b < wr.heap.size := by omega
              have HT := hide (takeF hql HX.out)
              go_wp2
              go_roundw
              case rel => exact ⟨q + 1, by omega, by go_num, hide ((HB3.out.setCell (by simp) _).alloc (by simp [World.setCell]; omega) _), hide (((HR.out.set x.s.toNat (.int .i64 x.w)).alloc _).congr (fun i _ => by
                rw [HT.out, finU_snoc]
                by_cases e : i = x.s.toNat
                · subst e; rw [if_pos rfl, if_pos (by omega)]
                · rw [if_neg e, if_neg (by omega)])), by simp [World.setCell]; omega⟩
              case measure => simp [intOf]; omega
            · have hend : m.fins.take q = m.fins := List.take_of_length_le (by rw [HF.out]; omega)
              have hr := HR.out
              rw [hend] at hr
              have HR := hide hr
              clear hend hr
              obtain ⟨N1, hN1⟩ : ∃ N, N = S * (nu + 1) := ⟨_, rfl⟩
              obtain ⟨N, hN⟩ : ∃ N, N = N1 * (no + 1) := ⟨_, rfl⟩
              have hnu : nu ≤ 30 := by rw [← HNU.out]; exact HU30.out
              have hno : no ≤ 30 := by rw [← HNO.out]; exact HO30.out
              have hN1b : N1 ≤ 12400 := by
                have := Nat.mul_le_mul hS4 (show nu + 1 ≤ 31 by omega)
                omega
              have hNb : N ≤ 384400 := by
                have := Nat.mul_le_mul hN1b (show no + 1 ≤ 31 by omega)
                omega
              have hN1I : (S : Int) * ((nu : Int) + 1) = (N1 : Int) := by rw [hN1]; push_cast; rfl
              have hNI : (N1 : Int) * ((no : Int) + 1) = (N : Int) := by rw [hN]; push_cast; rfl
              have HN1 := hide hN1
              have HN2 := hide hN
              have hmkB := fun (W : World) => run_make_row' (P := Try.prog) 88 4 (.bool false) 1 Try.underlying88 bool_info rfl .i64 .i64 N (by omega) (by omega) W
              clear hN1 hN
              go_wp2
              clear hmkB
              generalize hW : World.alloc _ _ = W3
              obtain ⟨H2, hH2⟩ : ∃ H, H = wr.heap.size := ⟨_, rfl⟩
              have hb3 : Below H2 wr W3 := by rw [← hW, hH2]; go_grown
              have hGH2 : G < H2 := by omega
              have hHH : H1 < H2 := by omega
              have HD0 := hide (show W3.rowIs H2 4 N (fun i => .bool ((fun _ => false : Nat → Bool) i)) by
                rw [← hW, hH2]; exact ((World.rowIs_made wr (.bool false) N 4).alloc _).alloc _)
              have hbQ : Blk W3 (H2 + 2) 93 #[.slice (some ⟨H2 + 1, 0, none⟩) 1 1] := by
                rw [← hW, hH2]; exact Blk.at_ (by simp)
              have hbR : Blk W3 (H2 + 1) 91 #[.int .i64 0, .int .i64 0, .int .i64 0, .int .i64 0] := by
                rw [← hW, hH2]; exact (Blk.at_ (by simp)).alloc _
              have HP0 := hide (show HpAt 93 91 W3 (H2 + 2) (H2 + 1) H2 [⟨0, 0, 0, 0⟩] from
                ⟨_, hbQ, ⟨rfl, .inr ⟨H2 + 1, 1, _, rfl, Nat.le_refl _, hbR, Nat.le_refl _, by simp [maxLen], rfl, rfl⟩⟩, by simp [Value.ownBlock], by simp [Value.ownBlock]⟩)
              have hz3 : H2 + 3 ≤ W3.heap.size := hbQ.lt
              have HM3 := hide ((((HBM.out.below HB2.out hMG).below HB3.out (by omega))).below hb3 (by omega))
              have HR3 := hide ((((HBR.out.below HB2.out hRG).below HB3.out (by omega))).below hb3 (by omega))
              have hbw3 : Below w.heap.size w W3 := hbw0.trans ((((HB2.out.trans (HB3.out.mono (by omega))).trans (hb3.mono (by omega)))).mono (by omega))
              have HROW3 := hide (show ∀ s, s < S → ∃ A n c, W3.cell? ⟨G, s, none⟩ = some (.slice A n c) ∧ n = (outs m.arcs s).length ∧ Rd W3 H2 5 A n (arcCell (outs m.arcs s)) from fun s hs => by
                obtain ⟨A, n, c, e1, e2, e3⟩ := HROWS.out s hs
                have hc := HGR.out.cell hs
                rw [e1] at hc
                have hbb : Below H1 WA W3 := (HBA.out.trans HB3.out).trans (hb3.mono (by omega))
                rw [HWAH.out] at e3
                exact ⟨A, n, c, keep_cell hbb hc hGH, e2, (e3.below hbb (Nat.le_refl _)).mono (by omega)⟩)
              have HFIN3 := hide (HR.out.of_block (hb3.block H1 hHH))
              have HU3 := hide ((((HRU.out.below HB2.out (Nat.le_refl _)).below HB3.out (by omega)).below hb3 (by omega)).mono (show G ≤ H2 by omega))
              have HO3 := hide ((((HRO.out.below HB2.out (Nat.le_refl _)).below HB3.out (by omega)).below hb3 (by omega)).mono (show G ≤ H2 by omega))
              have hMH : w.heap.size + 1 < H2 := by omega
              rw [← hH2]
              have hN3 : N = S * (nu + 1) * (no + 1) := by rw [HN2.out, HN1.out]
              have HN3 := hide hN3
              have HS0 := hide hS0
              have HDIJ0 := hide (dij_start (m := m) (u := lu) (v := lo) (show 0 < m.n by rw [HS.out]; omega))
              have HL0 := hide (leastD_start (m := m) (u := lu) (v := lo))
              have HU0 := hide (undn_none N)
              clear hW hH2 hb3 hbQ hbR HB2 HB3 HR HROWS HGR HBA HWAH HRU HRO HBM HBR hbw0 hN3 k0 lM hz hz2
              go_loopg [19] (1 + N * 2001) (fun gk lv wr => ∃ (q : List Pl) (D : Nat → Nat → Nat → Option Nat) (la : Nat) (dn : Nat → Bool) (least : Int) (s0 i0 j0 : Nat), lv = .int .i64 least ∧ Hid (Below H2 W3 wr) ∧ Hid (wr.rowIs H2 4 N (fun i => .bool (dn i))) ∧
                Hid (HpAt 93 91 wr (H2 + 2) (H2 + 1) H2 q) ∧ Hid (hOrd q q.length) ∧ Hid (Dij m lu lo q D la s0 i0 j0 (fun _ => True)) ∧ Hid (LeastD m lu lo D least) ∧ Hid (∀ s i j, s < S → i ≤ nu → j ≤ no → dn (ixp nu no s i j) = (D s i j).isSome) ∧
                Hid (q.length + undn dn N * 2001 ≤ gk) ∧ gk ≤ 800000000 ∧ Hid (∀ e ∈ q, e.w + undn dn N * 1000000 ≤ 384400000000) ∧ -1 ≤ least ∧ least ≤ 400000000000 ∧ H2 + 3 ≤ wr.heap.size)
              case atStart =>
                exact ⟨[⟨0, 0, 0, 0⟩], _, 0, _, -1, 0, 0, 0, rfl, hide (Below.refl _ _), HD0, HP0, hide (fun k h1 h2 => by simp at h2; omega), HDIJ0, HL0, hide (fun _ _ _ _ _ _ => rfl), hide (by rw [HU0.out]; simp), by omega, hide (by
                  intro e he
                  simp only [List.mem_singleton] at he
                  subst he
                  rw [HU0.out]; simp only; omega), by omega, by omega, hz3⟩
              case round =>
                clear HD0 HP0 HDIJ0 HL0 HU0 hz3
                obtain ⟨q, D, la, dn, least, s0, i0, j0, rfl, HB, HDN, HHP, HORD, HDIJ, HLST, HLNK, HQN, hgk, HQW, hl0, hl1, hz⟩ := hrel
                obtain ⟨vq, bQ, hown, hvQ, _⟩ := HHP.out
                obtain ⟨AQ, cq, hvq, hnq, hcq⟩ := own_value hown
                subst hvq
                have cQ : wr.cell? ⟨H2 + 2, 0, none⟩ = some (.slice AQ q.length cq) := bQ.cell 0
                have kM := HM3.out.below HB.out (by omega)
                have kR := HR3.out.below HB.out (by omega)
                have q0 : wr.cell? ⟨w.heap.size + 1, 0, none⟩ = some (.int .i64 0) := kR.cell 0
                have q1 : wr.cell? ⟨w.heap.size + 1, 1, none⟩ = some (.int .i64 0) := kR.cell 1
                have f0 := kR.frozen 0
                have f1 := kR.frozen 1
                have hzR : w.heap.size + 1 < wr.heap.size := by omega
                have hbwr : Below w.heap.size w wr := hbw3.trans (HB.out.mono (by omega))
                clear kM kR bQ hown hvQ hnq hcq
                rcases q with _ | ⟨x0, q0l⟩
                · have hle := leastD_end (dij_end HDIJ.out) HLST.out
                  have hw := HWV.out.trans (wgt_eq hle)
                  have HW := hide hw
                  rw [List.length_nil] at cQ
                  clear hle hw HDIJ HLST HORD HQW HQN HHP HLNK HDN HB
                  go_upto_region 53 with (go_at_call 67; refine (pl_len _ _ _ _).mono ?_; rintro e w' ⟨rfl, rfl⟩)
                  have hcase : least = -1 ∨ ∃ z : Nat, least = (z : Int) := by
                    by_cases hz : least < 0
                    · left; omega
                    · right; exact ⟨least.toNat, by omega⟩
                  rcases hcase with rfl | ⟨z, rfl⟩
                  · go_wp21
                    rw [HW.out]
                    exact bodyPost_ret (v := .tuple #[.int .i64 0, .bool false, .agg #[.int .i64 0, .int .i64 0]]) (by simp [results, Try.results50, go_sem, q0, q1, f0, f1, hzR]) rfl ⟨rfl, by go_grown⟩
                  · have t1 : ¬ ((0 : Int) > (z : Int)) := by omega
                    have t2 : decide ((z : Int) ≥ 0) = true := by simp
                    have t3 : max (z : Int) 0 = (z : Int) := by omega
                    have t4 : decide ((0 : Int) ≤ (z : Int)) = true := by simp
                    go_wp21
                    rw [HW.out, t3, t4]
                    exact bodyPost_ret (v := .tuple #[.int .i64 (z : Int), .bool true, .agg #[.int .i64 0, .int .i64 0]]) (by simp [results, Try.results50, go_sem, q0, q1, f0, f1, hzR]) rfl ⟨rfl, by go_grown⟩
                · obtain ⟨nq, hnq'⟩ : ∃ z, z = q0l.length := ⟨_, rfl⟩
                  rw [List.length_cons, ← hnq'] at cQ
                  have hqn := HQN.out
                  rw [List.length_cons, ← hnq'] at hqn
                  have HPOP := hide (heap_pop (x0 :: q0l) nq (H2 + 2) (H2 + 1) H2 wr (by omega) (by omega) (by rw [List.length_cons, hnq']) (by omega) HHP.out HORD.out)
                  have hgk0 : 0 < gk := by omega
                  have HNQ := hide hnq'
                  have HQN2 := hide hqn
                  have t0 : decide ((0 : Int) < (nq : Int) + 1) = true := decide_eq_true (by omega)
                  clear hnq' hqn HHP HORD HQN q0 q1 f0 f1
                  go_upto_region 33 with (go_at_call 67; refine (pl_len _ _ _ _).mono ?_; rintro e w' ⟨rfl, rfl⟩)
                  go_wp2_with fail
                  refine HPOP.out.mono ?_
                  rintro e w5 ⟨x, q', rfl, hhp5, hperm, hmin, hord5, hb5⟩
                  have hxm : x ∈ x0 :: q0l := hperm.mem_iff.2 (by simp)
                  obtain ⟨hrx, hlx⟩ := HDIJ.out.open_ x hxm
                  obtain ⟨hxi, hxj⟩ := rch_in hrx
                  have hxs := rch_s HS0.out HRNG.out hrx
                  have hxw := HQW.out x hxm
                  rw [HNU.out] at hxi
                  rw [HNO.out] at hxj
                  have hlq : q'.length = nq := by
                    have := hperm.length_eq
                    simp only [List.length_cons] at this
                    rw [HNQ.out]; omega
                  obtain ⟨k1, hk1⟩ : ∃ k, k = x.s * (nu + 1) := ⟨_, rfl⟩
                  obtain ⟨k2, hk2⟩ : ∃ k, k = k1 + x.i := ⟨_, rfl⟩
                  obtain ⟨k3, hk3⟩ : ∃ k, k = k2 * (no + 1) := ⟨_, rfl⟩
                  obtain ⟨K, hK⟩ : ∃ k, k = k3 + x.j := ⟨_, rfl⟩
                  have hKix : K = ixp nu no x.s x.i x.j := by rw [hK, hk3, hk2, hk1]; rfl
                  have hKN : K < N := by rw [hKix, HN3.out]; exact ixp_lt hxs hxi hxj
                  have e1 : (x.s : Int) * ((nu : Int) + 1) = (k1 : Int) := by rw [hk1]; push_cast; rfl
                  have e2 : (k1 : Int) + (x.i : Int) = (k2 : Int) := by rw [hk2]; push_cast; rfl
                  have e3 : (k2 : Int) * ((no : Int) + 1) = (k3 : Int) := by rw [hk3]; push_cast; rfl
                  have e4 : (k3 : Int) + (x.j : Int) = (K : Int) := by rw [hK]; push_cast; rfl
                  have hk23 : k2 ≤ k3 := by rw [hk3]; exact Nat.le_mul_of_pos_right _ (by omega)
                  have hDN5 := HDN.out.of_block (hb5.block H2 (by omega))
                  have hcK := hDN5.cell hKN
                  have hz5 := hb5.size
                  have HB5 := hide (HB.out.trans (hb5.mono (by omega)))
                  have HLN := hide (HLNK.out x.s x.i x.j hxs hxi hxj)
                  have HKX := hide hKix
                  have HLNK2 := HLNK
                  have HPERM := hide hperm
                  have HMIN := hide hmin
                  have HORD5 := hide hord5
                  have HHP5 := hide hhp5
                  have HDN5 := hide hDN5
                  have HRX := hide hrx
                  have HXW := hide hxw
                  have HLQ := hide hlq
                  have HQW5 := hide (show ∀ e ∈ q', e.w + undn dn N * 1000000 ≤ 384400000000 from fun e he => HQW.out e (hperm.mem_iff.2 (by simp [he])))
                  have hkb : k1 ≤ 400000 ∧ k2 ≤ 400000 ∧ k3 ≤ 400000 := by omega
                  obtain ⟨hkb1, hkb2, hkb3⟩ := hkb
                  obtain ⟨hxw2⟩ : ∃ _ : True, x.w ≤ 384400000000 := ⟨trivial, by omega⟩
                  clear hb5 hperm hmin hord5 hhp5 hDN5 hrx hlx hxw hlq hxm HPOP HB HDN HLNK HQW cQ hK hk1 hk2 hk3 hk23 hKix
                  have lH2 : H2 < w5.heap.size := by omega
                  have kI0 : (0 : Int) ≤ (K : Int) := by omega
                  have kI1 : (K : Int) < (N : Int) := by omega
                  cases hdk : dn K
                  · rw [hdk] at hcK
                    have hnone : D x.s x.i x.j = none := by
                      have h := HLN.out
                      rw [← HKX.out, hdk] at h
                      cases hd : D x.s x.i x.j with
                      | none => rfl
                      | some d => rw [hd] at h; cases h
                    have HDJ := hide (dij_take HDIJ.out HPERM.out HMIN.out hnone)
                    obtain ⟨nl, hnl⟩ : ∃ z, z = nextL m lu.length lo.length x least := ⟨_, rfl⟩
                    have hls := (leastD_step (fun y hy => ⟨(HFR.out y hy).1, (HFR.out y hy).2.2.1⟩) HUNI.out HLST.out HRX.out)
                    rw [← hnl] at hls
                    have HLS := hide hls
                    rw [HNU.out, HNO.out] at hnl
                    have HNL := hide hnl
                    clear hls hnl
                    have HUND := hide (undn_upd hdk N hKN)
                    have hta := fun v W => ta_place v W
                    have fcK := HDN5.out.frozen K
                    clear hnone HDIJ HLST HMIN
                    go_upto_region 37 with fail
                    generalize hW5 : World.alloc _ _ = W5
                    obtain ⟨P, hP⟩ : ∃ P, P = w5.heap.size := ⟨_, rfl⟩
                    have HBP := hide (show Blk W5 P 91 #[.int .i64 (x.w : Int), .int .i64 (x.s : Int), .int .i64 (x.i : Int), .int .i64 (x.j : Int)] by
                      rw [← hW5]; exact Blk.at_ (by rw [hP]; simp [World.setCell]))
                    have HB6 := hide (show Below H2 W3 W5 by rw [← hW5]; exact (HB5.out.setCell (p := ⟨H2, K, none⟩) (Nat.le_refl _) _).alloc (by simp [World.setCell]; omega) _)
                    have HDN6 := hide (show W5.rowIs H2 4 N (fun i => .bool (upd dn K i)) by
                      rw [← hW5]; exact (((HDN5.out.set K (.bool true)).alloc _).congr (fun i _ => by unfold upd; split <;> rfl)))
                    have HHP6 := hide (show HpAt 93 91 W5 (H2 + 2) (H2 + 1) P q' by
                      rw [← hW5]; exact ((HHP5.out.set (a := ⟨H2, K, none⟩) (by simp) (by simp) _).re (by simp [World.setCell, hP])).alloc _)
                    have hzW5 : P + 1 ≤ W5.heap.size := by rw [← hW5, hP]; simp [World.setCell]
                    have hPH : H2 + 3 ≤ P := by omega
                    rw [← hP]
                    clear hW5 hP HB5 HDN5 HHP5 hcK fcK lH2 hz5
                    have cF : W5.cell? ⟨H1, x.s, none⟩ = some (.int .i64 (finU m.fins x.s)) := (HFIN3.out.of_block (HB6.out.block H1 hHH)).cell hxs
                    obtain ⟨fu, hfu⟩ : ∃ z, z = finU m.fins x.s := ⟨_, rfl⟩
                    rw [← hfu] at cF
                    have hfub : fu ≤ 1000000 := by
                      by_cases h0 : 0 ≤ fu
                      · rw [hfu] at h0 ⊢
                        obtain ⟨y, hy, _, hyw⟩ := finU_mem h0
                        have := (HFR.out y hy).2.2.2
                        omega
                      · omega
                    have HFU := hide hfu
                    have p0 : W5.cell? ⟨P, 0, none⟩ = some (.int .i64 (x.w : Int)) := HBP.out.cell 0
                    have p1 : W5.cell? ⟨P, 1, none⟩ = some (.int .i64 (x.s : Int)) := HBP.out.cell 1
                    have p2 : W5.cell? ⟨P, 2, none⟩ = some (.int .i64 (x.i : Int)) := HBP.out.cell 2
                    have p3 : W5.cell? ⟨P, 3, none⟩ = some (.int .i64 (x.j : Int)) := HBP.out.cell 3
                    have lP : P < W5.heap.size := by omega
                    have lH1 : H1 < W5.heap.size := by omega
                    have xs0 : (0 : Int) ≤ (x.s : Int) := by omega
                    have xs1 : (x.s : Int) < (S : Int) := by omega
                    clear hfu
                    obtain ⟨bb, hbb⟩ : ∃ b : Bool, b = (decide (x.i = nu) && (decide (x.j = no) && decide (0 ≤ fu))) := ⟨_, rfl⟩
                    have HBBE := hide hbb
                    clear hbb
                    go_cut [165] from 114 to 246 (fun s165 wx => s165 = .bool bb ∧ wx = W5)
                    case first =>
                      by_cases hi : x.i = nu
                      · have ti : ((x.i : Int) == (nu : Int)) = true := by simp; omega
                        by_cases hj : x.j = no
                        · have tj : ((x.j : Int) == (no : Int)) = true := by simp; omega
                          by_cases hf : 0 ≤ fu
                          · have HV := hide (show bb = true by rw [HBBE.out]; simp [hi, hj, hf])
                            have tf : decide (fu ≥ 0) = true := decide_eq_true hf
                            have tf' : decide (0 ≤ fu) = true := decide_eq_true hf
                            clear hi hj hf HBBE
                            go_wp2
                            go_meet
                            exact ⟨by rw [HV.out], rfl⟩
                          · have HV := hide (show bb = false by rw [HBBE.out]; simp [hf])
                            have tf : decide (fu ≥ 0) = false := decide_eq_false hf
                            have tf' : decide (0 ≤ fu) = false := decide_eq_false hf
                            clear hi hj hf HBBE
                            go_wp2
                            go_meet
                            exact ⟨by rw [HV.out], rfl⟩
                        · have HV := hide (show bb = false by rw [HBBE.out]; simp [hj])
                          have tj : ((x.j : Int) == (no : Int)) = false := by simp; omega
                          clear hi hj HBBE
                          go_wp2
                          go_meet
                          exact ⟨by rw [HV.out], rfl⟩
                      · have HV := hide (show bb = false by rw [HBBE.out]; simp [hi])
                        have ti : ((x.i : Int) == (nu : Int)) = false := by simp; omega
                        clear hi HBBE
                        go_wp2
                        go_meet
                        exact ⟨by rw [HV.out], rfl⟩
                    case rest =>
                    obtain ⟨rfl, rfl⟩ := hcut
                    go_upto_if 165 with fail
                    go_cut [19, 24] from 114 to 246 (fun s19 s24 wx => s19 = .int .i64 nl ∧ ∃ nq, wx = wc.drewN nq)
                    case first =>
                      cases hbv : bb
                      · have HV := hide (show nl = least by
                            have hb := HBBE.out
                            rw [hbv] at hb
                            rw [HNL.out, nextL, if_neg]
                            rintro ⟨g1, g2, g3⟩
                            rw [← HFU.out] at g3
                            simp [g1, g2, g3] at hb)
                        clear hbv HBBE
                        go_wp2
                        go_meet
                        exact ⟨by rw [HV.out], 0, rfl⟩
                      · have hb := HBBE.out
                        rw [hbv] at hb
                        simp only [eq_comm (a := true), Bool.and_eq_true, decide_eq_true_eq] at hb
                        obtain ⟨g1, g2, g3⟩ := hb
                        have HV := hide (show nl = if least < 0 ∨ (x.w : Int) + fu < least then (x.w : Int) + fu else least by
                            have g4 := g3
                            rw [HFU.out] at g4
                            rw [HNL.out, nextL, if_pos ⟨g1, g2, g4⟩, ← HFU.out])
                        have hxwb := HXW.out
                        have hxw3 : (x.w : Int) ≤ 384400000000 := by omega
                        clear hbv HBBE g1 g2 hxwb
                        by_cases hl : least < 0
                        · have tl : decide (least < 0) = true := decide_eq_true hl
                          have HL2 := hide (HV.out.trans (if_pos (.inl hl)))
                          go_wp2
                          go_quiet (fail)
                          go_wp2
                          go_meet
                          exact ⟨by rw [HL2.out], _, rfl⟩
                        · have tl : decide (least < 0) = false := decide_eq_false hl
                          by_cases hs : (x.w : Int) + fu < least
                          · have ts : decide ((x.w : Int) + fu < least) = true := decide_eq_true hs
                            have HL2 := hide (HV.out.trans (if_pos (.inr hs)))
                            go_wp2
                            go_quiet (fail)
                            go_wp2
                            go_meet
                            exact ⟨by rw [HL2.out], _, rfl⟩
                          · have ts : decide ((x.w : Int) + fu < least) = false := decide_eq_false hs
                            have HL2 := hide (HV.out.trans (if_neg (by omega)))
                            go_wp2
                            go_quiet (fail)
                            go_wp2
                            go_meet
                            exact ⟨by rw [HL2.out], _, rfl⟩
                    case rest =>
                    obtain ⟨rfl, nq2, rfl⟩ := hcut
                    obtain ⟨A6, n6, c6, hG6, hn6, hR6⟩ := HROW3.out x.s hxs
                    have hG7 := keep_cell HB6.out hG6 hGH2
                    have hnqb : nq ≤ 800000000 := by have := HQN2.out; omega
                    have hnlb : -1 ≤ nl ∧ nl ≤ 400000000000 := by
                      rw [HNL.out, nextL]
                      have h1 := HXW.out
                      rw [HFU.out] at hfub
                      have h2 : x.w ≤ 384400000000 := Nat.le_trans (Nat.le_add_right _ _) h1
                      clear h1
                      split
                      · rename_i hc
                        obtain ⟨_, _, hc3⟩ := hc
                        split <;> omega
                      · omega
                    obtain ⟨hnl0, hnl1⟩ := hnlb
                    have hxwb := HXW.out
                    have hxw3 : (x.w : Int) ≤ 384400000000 := by omega
                    have hn62 : n6 ≤ 2000 := by have := outs_le m.arcs x.s; have := HN.out; omega
                    have HN6 := hide hn6
                    have HR6 := hide hR6
                    have lG : G < wc.heap.size := by omega
                    clear hxwb hn6 hR6 hG6 cF HBBE HFU hfub HNL lH1 HRX HPERM p0 p1 p2 p3
                    generalize hW6 : wc.drewN nq2 = W6
                    have HB7 := hide (show Below H2 W3 W6 by rw [← hW6]; exact below_drewN HB6.out _)
                    have HBP7 := hide (show Blk W6 P 91 #[.int .i64 (x.w : Int), .int .i64 (x.s : Int), .int .i64 (x.i : Int), .int .i64 (x.j : Int)] by rw [← hW6]; exact HBP.out.drewN _)
                    have HDN7 := hide (show W6.rowIs H2 4 N (fun i => .bool (upd dn K i)) by rw [← hW6]; exact HDN6.out)
                    have HHP7 := hide (show HpAt 93 91 W6 (H2 + 2) (H2 + 1) P q' by rw [← hW6]; exact HHP6.out.drewN _)
                    have hG8 : W6.cell? ⟨G, x.s, none⟩ = some (.slice A6 n6 c6) := by rw [← hW6]; exact hG7
                    have p1 : W6.cell? ⟨P, 1, none⟩ = some (.int .i64 (x.s : Int)) := HBP7.out.cell 1
                    have hz7 : P + 1 ≤ W6.heap.size := by rw [← hW6]; exact hzW5
                    have lP6 : P < W6.heap.size := by omega
                    have lG6 : G < W6.heap.size := by omega
                    clear hW6 HB6 HBP HDN6 HHP6 hG7 hzW5 lP lG
                    go_wp2
                    go_loopw [188] (fun iv wr => ∃ (t : Nat) (q : List Pl), t ≤ n6 ∧ iv = .int .i64 t ∧ Hid (Below H2 W3 wr) ∧ Hid (Blk wr P 91 #[.int .i64 (x.w : Int), .int .i64 (x.s : Int), .int .i64 (x.i : Int), .int .i64 (x.j : Int)]) ∧ Hid (wr.rowIs H2 4 N (fun i => .bool (upd dn K i))) ∧ Hid (HpAt 93 91 wr (H2 + 2) (H2 + 1) P q) ∧ Hid (hOrd q q.length) ∧
                      Hid (Dij m lu lo q (setD D x.s x.i x.j x.w) x.w x.s x.i x.j (fun a => a ∈ (outs m.arcs x.s).take t)) ∧ Hid (q.length ≤ nq + t) ∧ Hid (∀ e ∈ q, e.w + undn (upd dn K) N * 1000000 ≤ 384400000000) ∧ P + 1 ≤ wr.heap.size) (fun iv _ => n6 - (intOf iv).toNat)
                    case atStart =>
                      exact ⟨0, q', by omega, rfl, HB7, HBP7, HDN7, HHP7, HORD5, hide (dij_Y HDJ.out (fun a h => by simp at h)), hide (by rw [HLQ.out]; omega), hide (fun e he => wt_step (HQW5.out e he) HUND.out), hz7⟩
                    case round =>
                      as_aux_lemma =>
                      clear hz7 p1 lP6 lG6 hG8 HHP7 HDN7 HBP7
                      obtain ⟨t, q, ht, rfl, HB8, HBP8, HDN8, HHP8, HORD8, HDJ8, HQL8, HQW8, hz8⟩ := hrel
                      have p0 : wr.cell? ⟨P, 0, none⟩ = some (.int .i64 (x.w : Int)) := HBP8.out.cell 0
                      have p2 : wr.cell? ⟨P, 2, none⟩ = some (.int .i64 (x.i : Int)) := HBP8.out.cell 2
                      have p3 : wr.cell? ⟨P, 3, none⟩ = some (.int .i64 (x.j : Int)) := HBP8.out.cell 3
                      have lP : P < wr.heap.size := by omega
                      by_cases htn : t < n6
                      · obtain ⟨b, off, a, rfl, hbB, c0, c1, c2, c3, c4, HA⟩ := arcs_at (HR6.out.below HB8.out (Nat.le_refl _)) htn
                        have hao : a ∈ outs m.arcs x.s := getD_mem (by rw [← HN6.out]; exact htn) HA.out
                        obtain ⟨hain, haf⟩ := List.mem_filter.1 hao
                        have haf := of_decide_eq_true haf
                        have HTK := hide (take_push (by rw [← HN6.out]; exact htn) HA.out)
                        have HAIN := hide hain
                        obtain ⟨hw0, hw1⟩ := HWA.out a hain
                        obtain ⟨r0, r1, r2, r3⟩ := HRNG.out a hain
                        obtain ⟨aw, haw⟩ : ∃ k : Nat, a.w = (k : Int) := ⟨a.w.toNat, by omega⟩
                        obtain ⟨ta, hta⟩ : ∃ k : Nat, a.t = (k : Int) := ⟨a.t.toNat, by omega⟩
                        have haw2 : (aw : Int) ≤ 1000000 := by omega
                        have haw3 : aw = a.w.toNat := by omega
                        have hta3 : ta = a.t.toNat := by omega
                        rw [haw] at c4
                        rw [hta] at c1
                        have HAF := hide haf
                        have HAW3 := hide haw3
                        have HTA3 := hide hta3
                        obtain ⟨ai, hai⟩ : ∃ z, z = a.i := ⟨_, rfl⟩
                        obtain ⟨ao, hao2⟩ : ∃ z, z = a.o := ⟨_, rfl⟩
                        rw [← hai] at c2
                        rw [← hao2] at c3
                        have HAI := hide hai
                        have HAO := hide hao2
                        have lb : b < wr.heap.size := by omega
                        have hxi2 : (x.i : Int) ≤ 30 := by have := HU30.out; have := HNU.out; omega
                        have hxj2 : (x.j : Int) ≤ 30 := by have := HO30.out; have := HNO.out; omega
                        have hxi3 := hxi
                        have hxj3 := hxj
                        clear hao hain haf hw0 hw1 r0 r1 r2 r3 haw hta haw3 hta3 hai hao2
                        by_cases hi0 : ai = 0
                        · have ti1 : (ai == 0) = true := by simp [hi0]
                          have ti2 : (ai != 0) = false := by simp [hi0]
                          have HI0 := hide (show a.i = 0 by rw [← HAI.out]; exact hi0)
                          clear hi0
                          by_cases ho0 : ao = 0
                          · have to1 : (ao == 0) = true := by simp [ho0]
                            have to2 : (ao != 0) = false := by simp [ho0]
                            have HO0 := hide (show a.o = 0 by rw [← HAO.out]; exact ho0)
                            clear ho0
                            go_wp2
                            go_quiet (fail)
                            go_upto_region 51 with fail
                            have HSTP := hide (stp_yes (u := lu) (v := lo) (a := a) (i := x.i) (j := x.j) (i1 := x.i) (j1 := x.j) (.inl ⟨HI0.out, rfl⟩) (.inl ⟨HO0.out, rfl⟩))
                            obtain ⟨Z, hZ⟩ : ∃ Z, Z = wr.heap.size := ⟨_, rfl⟩
                            generalize hW9 : World.drewN _ _ = W9
                            have HB9 := hide (show Below H2 W3 W9 by rw [← hW9]; (repeat refine below_drewN ?_ _); exact HB8.out.alloc (by omega) _)
                            have HBP9 := hide (show Blk W9 P 91 #[.int .i64 (x.w : Int), .int .i64 (x.s : Int), .int .i64 (x.i : Int), .int .i64 (x.j : Int)] by rw [← hW9]; exact HBP8.out.alloc _)
                            have HDN9 := hide (show W9.rowIs H2 4 N (fun i => .bool (upd dn K i)) by rw [← hW9]; exact HDN8.out.alloc _)
                            have HHP9 := hide (show HpAt 93 91 W9 (H2 + 2) (H2 + 1) P q by rw [← hW9]; exact HHP8.out.alloc _)
                            have HZ := hide (show Blk W9 Z 45 #[.int .i64 a.f, .int .i64 (ta : Int), .int .i64 ai, .int .i64 ao, .int .i64 (aw : Int)] by rw [← hW9]; exact Blk.at_ hZ)
                            rw [← hZ]
                            have z1 : W9.cell? ⟨Z, 1, none⟩ = some (.int .i64 (ta : Int)) := HZ.out.cell 1
                            have z4 : W9.cell? ⟨Z, 4, none⟩ = some (.int .i64 (aw : Int)) := HZ.out.cell 4
                            have y0 : W9.cell? ⟨P, 0, none⟩ = some (.int .i64 (x.w : Int)) := HBP9.out.cell 0
                            have lZ := HZ.out.lt
                            have lP9 := HBP9.out.lt
                            have hpu := heap_push q ⟨x.w + aw, ta, x.i, x.j⟩ (H2 + 2) (H2 + 1) P W9 lP9 (by omega) (by omega) (by omega) (by have := HQL8.out; omega) HHP9.out HORD8.out
                            dsimp only at hpu
                            push_cast at hpu
                            have HPU := hide hpu
                            clear hW9 hpu HB8 HBP8 HDN8 HHP8 hZ
                            go_wp2_with fail
                            refine HPU.out.mono ?_
                            rintro e w9 ⟨rfl, q2, hhp, hperm, hord, hb9, hP9⟩
                            have HHPN := hide hhp
                            have HPERN := hide hperm
                            have HORDN := hide hord
                            have HPN := hide hP9
                            have HBN := hide hb9
                            have hz9 := hb9.size
                            clear hhp hperm hord hP9 hb9 HPU
                            go_wp2
                            go_roundw
                            case rel => exact ⟨t + 1, q2, by omega, by go_num, hide (HB9.out.trans (HBN.out.mono (by omega))), hide (HPN.out.trans HBP9.out), hide (HDN9.out.of_block (HBN.out.block H2 (by omega))), HHPN, HORDN, hide (dij_Y (dij_push HDJ8.out HAIN.out HAF.out HSTP.out (by simp [setD]) rfl (by rw [← HAW3.out, ← HTA3.out]; exact HPERN.out)) (fun c hc => by rw [HTK.out] at hc; simpa using hc)), hide (by have h1 := HQL8.out; have h2 := HPERN.out.length_eq; simp only [List.length_cons] at h2; omega), hide (fun e he => by
                                rcases List.mem_cons.1 (HPERN.out.mem_iff.1 he) with rfl | h1
                                · exact wt_push HXW.out HUND.out (by omega)
                                · exact HQW8.out e h1), by omega⟩
                            case measure => simp [intOf]; omega
                          · have to1 : (ao == 0) = false := by simp [ho0]
                            have to2 : (ao != 0) = true := by simp [ho0]
                            have HO0 := hide (show a.o ≠ 0 by rw [← HAO.out]; exact ho0)
                            clear ho0
                            by_cases hjn : x.j = no
                            · have tj : ((x.j : Int) == (no : Int)) = true := by simp; omega
                              have HJN := hide (show x.j = lo.length by rw [HNO.out]; exact hjn)
                              clear hjn
                              go_wp2
                              go_quiet (fail)
                              go_wp2
                              go_quiet (fail)
                              go_wp2
                              go_roundw
                              case rel => exact ⟨t + 1, q, by omega, by go_num, hide (below_drewN (HB8.out.alloc (by omega) _) _), hide (HBP8.out.alloc _), hide (HDN8.out.alloc _), hide (HHP8.out.alloc _), HORD8, hide (dij_Y (dij_none HDJ8.out (stp_no2 HO0.out (.inl HJN.out))) (fun c hc => by rw [HTK.out] at hc; simpa using hc)), hide (by have := HQL8.out; omega), HQW8, by simp; omega⟩
                              case measure => simp [intOf]; omega
                            · have tj : ((x.j : Int) == (no : Int)) = false := by simp; omega
                              have j0 : (0 : Int) ≤ (x.j : Int) := by omega
                              have j1 : (x.j : Int) < (no : Int) := by omega
                              obtain ⟨bo, oo, rfl, hbo, co⟩ := (HO3.out.below HB8.out (Nat.le_refl _)).at1 (k := x.j) (by omega)
                              simp only [intCell] at co
                              obtain ⟨lj, hlj⟩ : ∃ z, z = lo.getD x.j 0 := ⟨_, rfl⟩
                              rw [← hlj] at co
                              have HLJ := hide hlj
                              have HJN := hide (show x.j ≠ lo.length by rw [HNO.out]; exact hjn)
                              have lbo : bo < wr.heap.size := by omega
                              clear hlj hjn
                              by_cases hlo : lj = ao
                              · have tl1 : (lj == ao) = true := by simp [hlo]
                                have tl2 : (lj != ao) = false := by simp [hlo]
                                have HLO := hide (show lo.getD x.j 0 = a.o by rw [← HLJ.out, ← HAO.out]; exact hlo)
                                clear hlo
                                go_wp2
                                go_quiet (fail)
                                go_wp2
                                go_quiet (fail)
                                go_upto_region 51 with fail
                                have HSTP := hide (stp_yes (u := lu) (v := lo) (a := a) (i := x.i) (j := x.j) (i1 := x.i) (j1 := x.j + 1) (.inl ⟨HI0.out, rfl⟩) (.inr ⟨HO0.out, HJN.out, HLO.out, rfl⟩))
                                obtain ⟨Z, hZ⟩ : ∃ Z, Z = wr.heap.size := ⟨_, rfl⟩
                                generalize hW9 : World.drewN _ _ = W9
                                have HB9 := hide (show Below H2 W3 W9 by rw [← hW9]; (repeat refine below_drewN ?_ _); exact HB8.out.alloc (by omega) _)
                                have HBP9 := hide (show Blk W9 P 91 #[.int .i64 (x.w : Int), .int .i64 (x.s : Int), .int .i64 (x.i : Int), .int .i64 (x.j : Int)] by rw [← hW9]; exact HBP8.out.alloc _)
                                have HDN9 := hide (show W9.rowIs H2 4 N (fun i => .bool (upd dn K i)) by rw [← hW9]; exact HDN8.out.alloc _)
                                have HHP9 := hide (show HpAt 93 91 W9 (H2 + 2) (H2 + 1) P q by rw [← hW9]; exact HHP8.out.alloc _)
                                have HZ := hide (show Blk W9 Z 45 #[.int .i64 a.f, .int .i64 (ta : Int), .int .i64 ai, .int .i64 ao, .int .i64 (aw : Int)] by rw [← hW9]; exact Blk.at_ hZ)
                                rw [← hZ]
                                have z1 : W9.cell? ⟨Z, 1, none⟩ = some (.int .i64 (ta : Int)) := HZ.out.cell 1
                                have z4 : W9.cell? ⟨Z, 4, none⟩ = some (.int .i64 (aw : Int)) := HZ.out.cell 4
                                have y0 : W9.cell? ⟨P, 0, none⟩ = some (.int .i64 (x.w : Int)) := HBP9.out.cell 0
                                have lZ := HZ.out.lt
                                have lP9 := HBP9.out.lt
                                have hpu := heap_push q ⟨x.w + aw, ta, x.i, x.j + 1⟩ (H2 + 2) (H2 + 1) P W9 lP9 (by omega) (by omega) (by omega) (by have := HQL8.out; omega) HHP9.out HORD8.out
                                dsimp only at hpu
                                push_cast at hpu
                                have HPU := hide hpu
                                clear hW9 hpu HB8 HBP8 HDN8 HHP8 hZ
                                go_wp2_with fail
                                refine HPU.out.mono ?_
                                rintro e w9 ⟨rfl, q2, hhp, hperm, hord, hb9, hP9⟩
                                have HHPN := hide hhp
                                have HPERN := hide hperm
                                have HORDN := hide hord
                                have HPN := hide hP9
                                have HBN := hide hb9
                                have hz9 := hb9.size
                                clear hhp hperm hord hP9 hb9 HPU
                                go_wp2
                                go_roundw
                                case rel => exact ⟨t + 1, q2, by omega, by go_num, hide (HB9.out.trans (HBN.out.mono (by omega))), hide (HPN.out.trans HBP9.out), hide (HDN9.out.of_block (HBN.out.block H2 (by omega))), HHPN, HORDN, hide (dij_Y (dij_push HDJ8.out HAIN.out HAF.out HSTP.out (by simp [setD]) rfl (by rw [← HAW3.out, ← HTA3.out]; exact HPERN.out)) (fun c hc => by rw [HTK.out] at hc; simpa using hc)), hide (by have h1 := HQL8.out; have h2 := HPERN.out.length_eq; simp only [List.length_cons] at h2; omega), hide (fun e he => by
                                    rcases List.mem_cons.1 (HPERN.out.mem_iff.1 he) with rfl | h1
                                    · exact wt_push HXW.out HUND.out (by omega)
                                    · exact HQW8.out e h1), by omega⟩
                                case measure => simp [intOf]; omega
                              · have tl1 : (lj == ao) = false := by simp [hlo]
                                have tl2 : (lj != ao) = true := by simp [hlo]
                                have HLO := hide (show lo.getD x.j 0 ≠ a.o by rw [← HLJ.out, ← HAO.out]; exact hlo)
                                clear hlo
                                go_wp2
                                go_quiet (fail)
                                go_wp2
                                go_quiet (fail)
                                go_wp2
                                go_roundw
                                case rel => exact ⟨t + 1, q, by omega, by go_num, hide (below_drewN (HB8.out.alloc (by omega) _) _), hide (HBP8.out.alloc _), hide (HDN8.out.alloc _), hide (HHP8.out.alloc _), HORD8, hide (dij_Y (dij_none HDJ8.out (stp_no2 HO0.out (.inr HLO.out))) (fun c hc => by rw [HTK.out] at hc; simpa using hc)), hide (by have := HQL8.out; omega), HQW8, by simp; omega⟩
                                case measure => simp [intOf]; omega
                        · have ti1 : (ai == 0) = false := by simp [hi0]
                          have ti2 : (ai != 0) = true := by simp [hi0]
                          have HI0 := hide (show a.i ≠ 0 by rw [← HAI.out]; exact hi0)
                          clear hi0
                          by_cases hin : x.i = nu
                          · have tn : ((x.i : Int) == (nu : Int)) = true := by simp; omega
                            have HIN := hide (show x.i = lu.length by rw [HNU.out]; exact hin)
                            clear hin
                            go_wp2
                            go_quiet (fail)
                            go_wp2
                            go_quiet (fail)
                            go_wp2
                            go_roundw
                            case rel => exact ⟨t + 1, q, by omega, by go_num, hide (below_drewN (HB8.out.alloc (by omega) _) _), hide (HBP8.out.alloc _), hide (HDN8.out.alloc _), hide (HHP8.out.alloc _), HORD8, hide (dij_Y (dij_none HDJ8.out (stp_no1 HI0.out (.inl HIN.out))) (fun c hc => by rw [HTK.out] at hc; simpa using hc)), hide (by have := HQL8.out; omega), HQW8, by simp; omega⟩
                            case measure => simp [intOf]; omega
                          · have tn : ((x.i : Int) == (nu : Int)) = false := by simp; omega
                            have i0 : (0 : Int) ≤ (x.i : Int) := by omega
                            have i1 : (x.i : Int) < (nu : Int) := by omega
                            obtain ⟨bi, oi, rfl, hbi, ci⟩ := (HU3.out.below HB8.out (Nat.le_refl _)).at1 (k := x.i) (by omega)
                            simp only [intCell] at ci
                            obtain ⟨li, hli⟩ : ∃ z, z = lu.getD x.i 0 := ⟨_, rfl⟩
                            rw [← hli] at ci
                            have HLI := hide hli
                            have HIN := hide (show x.i ≠ lu.length by rw [HNU.out]; exact hin)
                            have lbi : bi < wr.heap.size := by omega
                            clear hli hin
                            by_cases hlu : li = ai
                            · have tk1 : (li == ai) = true := by simp [hlu]
                              have tk2 : (li != ai) = false := by simp [hlu]
                              have HLU := hide (show lu.getD x.i 0 = a.i by rw [← HLI.out, ← HAI.out]; exact hlu)
                              clear hlu
                              by_cases ho0 : ao = 0
                              · have to1 : (ao == 0) = true := by simp [ho0]
                                have to2 : (ao != 0) = false := by simp [ho0]
                                have HO0 := hide (show a.o = 0 by rw [← HAO.out]; exact ho0)
                                clear ho0
                                go_wp2
                                go_quiet (fail)
                                go_wp2
                                go_quiet (fail)
                                go_upto_region 51 with fail
                                have HSTP := hide (stp_yes (u := lu) (v := lo) (a := a) (i := x.i) (j := x.j) (i1 := x.i + 1) (j1 := x.j) (.inr ⟨HI0.out, HIN.out, HLU.out, rfl⟩) (.inl ⟨HO0.out, rfl⟩))
                                obtain ⟨Z, hZ⟩ : ∃ Z, Z = wr.heap.size := ⟨_, rfl⟩
                                generalize hW9 : World.drewN _ _ = W9
                                have HB9 := hide (show Below H2 W3 W9 by rw [← hW9]; (repeat refine below_drewN ?_ _); exact HB8.out.alloc (by omega) _)
                                have HBP9 := hide (show Blk W9 P 91 #[.int .i64 (x.w : Int), .int .i64 (x.s : Int), .int .i64 (x.i : Int), .int .i64 (x.j : Int)] by rw [← hW9]; exact HBP8.out.alloc _)
                                have HDN9 := hide (show W9.rowIs H2 4 N (fun i => .bool (upd dn K i)) by rw [← hW9]; exact HDN8.out.alloc _)
                                have HHP9 := hide (show HpAt 93 91 W9 (H2 + 2) (H2 + 1) P q by rw [← hW9]; exact HHP8.out.alloc _)
                                have HZ := hide (show Blk W9 Z 45 #[.int .i64 a.f, .int .i64 (ta : Int), .int .i64 ai, .int .i64 ao, .int .i64 (aw : Int)] by rw [← hW9]; exact Blk.at_ hZ)
                                rw [← hZ]
                                have z1 : W9.cell? ⟨Z, 1, none⟩ = some (.int .i64 (ta : Int)) := HZ.out.cell 1
                                have z4 : W9.cell? ⟨Z, 4, none⟩ = some (.int .i64 (aw : Int)) := HZ.out.cell 4
                                have y0 : W9.cell? ⟨P, 0, none⟩ = some (.int .i64 (x.w : Int)) := HBP9.out.cell 0
                                have lZ := HZ.out.lt
                                have lP9 := HBP9.out.lt
                                have hpu := heap_push q ⟨x.w + aw, ta, x.i + 1, x.j⟩ (H2 + 2) (H2 + 1) P W9 lP9 (by omega) (by omega) (by omega) (by have := HQL8.out; omega) HHP9.out HORD8.out
                                dsimp only at hpu
                                push_cast at hpu
                                have HPU := hide hpu
                                clear hW9 hpu HB8 HBP8 HDN8 HHP8 hZ
                                go_wp2_with fail
                                refine HPU.out.mono ?_
                                rintro e w9 ⟨rfl, q2, hhp, hperm, hord, hb9, hP9⟩
                                have HHPN := hide hhp
                                have HPERN := hide hperm
                                have HORDN := hide hord
                                have HPN := hide hP9
                                have HBN := hide hb9
                                have hz9 := hb9.size
                                clear hhp hperm hord hP9 hb9 HPU
                                go_wp2
                                go_roundw
                                case rel => exact ⟨t + 1, q2, by omega, by go_num, hide (HB9.out.trans (HBN.out.mono (by omega))), hide (HPN.out.trans HBP9.out), hide (HDN9.out.of_block (HBN.out.block H2 (by omega))), HHPN, HORDN, hide (dij_Y (dij_push HDJ8.out HAIN.out HAF.out HSTP.out (by simp [setD]) rfl (by rw [← HAW3.out, ← HTA3.out]; exact HPERN.out)) (fun c hc => by rw [HTK.out] at hc; simpa using hc)), hide (by have h1 := HQL8.out; have h2 := HPERN.out.length_eq; simp only [List.length_cons] at h2; omega), hide (fun e he => by
                                    rcases List.mem_cons.1 (HPERN.out.mem_iff.1 he) with rfl | h1
                                    · exact wt_push HXW.out HUND.out (by omega)
                                    · exact HQW8.out e h1), by omega⟩
                                case measure => simp [intOf]; omega
                              · have to1 : (ao == 0) = false := by simp [ho0]
                                have to2 : (ao != 0) = true := by simp [ho0]
                                have HO0 := hide (show a.o ≠ 0 by rw [← HAO.out]; exact ho0)
                                clear ho0
                                by_cases hjn : x.j = no
                                · have tj : ((x.j : Int) == (no : Int)) = true := by simp; omega
                                  have HJN := hide (show x.j = lo.length by rw [HNO.out]; exact hjn)
                                  clear hjn
                                  go_wp2
                                  go_quiet (fail)
                                  go_wp2
                                  go_quiet (fail)
                                  go_wp2
                                  go_quiet (fail)
                                  go_wp2
                                  go_roundw
                                  case rel => exact ⟨t + 1, q, by omega, by go_num, hide (below_drewN (HB8.out.alloc (by omega) _) _), hide (HBP8.out.alloc _), hide (HDN8.out.alloc _), hide (HHP8.out.alloc _), HORD8, hide (dij_Y (dij_none HDJ8.out (stp_no2 HO0.out (.inl HJN.out))) (fun c hc => by rw [HTK.out] at hc; simpa using hc)), hide (by have := HQL8.out; omega), HQW8, by simp; omega⟩
                                  case measure => simp [intOf]; omega
                                · have tj : ((x.j : Int) == (no : Int)) = false := by simp; omega
                                  have j0 : (0 : Int) ≤ (x.j : Int) := by omega
                                  have j1 : (x.j : Int) < (no : Int) := by omega
                                  obtain ⟨bo, oo, rfl, hbo, co⟩ := (HO3.out.below HB8.out (Nat.le_refl _)).at1 (k := x.j) (by omega)
                                  simp only [intCell] at co
                                  obtain ⟨lj, hlj⟩ : ∃ z, z = lo.getD x.j 0 := ⟨_, rfl⟩
                                  rw [← hlj] at co
                                  have HLJ := hide hlj
                                  have HJN := hide (show x.j ≠ lo.length by rw [HNO.out]; exact hjn)
                                  have lbo : bo < wr.heap.size := by omega
                                  clear hlj hjn
                                  by_cases hlo : lj = ao
                                  · have tl1 : (lj == ao) = true := by simp [hlo]
                                    have tl2 : (lj != ao) = false := by simp [hlo]
                                    have HLO := hide (show lo.getD x.j 0 = a.o by rw [← HLJ.out, ← HAO.out]; exact hlo)
                                    clear hlo
                                    go_wp2
                                    go_quiet (fail)
                                    go_wp2
                                    go_quiet (fail)
                                    go_wp2
                                    go_quiet (fail)
                                    go_upto_region 51 with fail
                                    have HSTP := hide (stp_yes (u := lu) (v := lo) (a := a) (i := x.i) (j := x.j) (i1 := x.i + 1) (j1 := x.j + 1) (.inr ⟨HI0.out, HIN.out, HLU.out, rfl⟩) (.inr ⟨HO0.out, HJN.out, HLO.out, rfl⟩))
                                    obtain ⟨Z, hZ⟩ : ∃ Z, Z = wr.heap.size := ⟨_, rfl⟩
                                    generalize hW9 : World.drewN _ _ = W9
                                    have HB9 := hide (show Below H2 W3 W9 by rw [← hW9]; (repeat refine below_drewN ?_ _); exact HB8.out.alloc (by omega) _)
                                    have HBP9 := hide (show Blk W9 P 91 #[.int .i64 (x.w : Int), .int .i64 (x.s : Int), .int .i64 (x.i : Int), .int .i64 (x.j : Int)] by rw [← hW9]; exact HBP8.out.alloc _)
                                    have HDN9 := hide (show W9.rowIs H2 4 N (fun i => .bool (upd dn K i)) by rw [← hW9]; exact HDN8.out.alloc _)
                                    have HHP9 := hide (show HpAt 93 91 W9 (H2 + 2) (H2 + 1) P q by rw [← hW9]; exact HHP8.out.alloc _)
                                    have HZ := hide (show Blk W9 Z 45 #[.int .i64 a.f, .int .i64 (ta : Int), .int .i64 ai, .int .i64 ao, .int .i64 (aw : Int)] by rw [← hW9]; exact Blk.at_ hZ)
                                    rw [← hZ]
                                    have z1 : W9.cell? ⟨Z, 1, none⟩ = some (.int .i64 (ta : Int)) := HZ.out.cell 1
                                    have z4 : W9.cell? ⟨Z, 4, none⟩ = some (.int .i64 (aw : Int)) := HZ.out.cell 4
                                    have y0 : W9.cell? ⟨P, 0, none⟩ = some (.int .i64 (x.w : Int)) := HBP9.out.cell 0
                                    have lZ := HZ.out.lt
                                    have lP9 := HBP9.out.lt
                                    have hpu := heap_push q ⟨x.w + aw, ta, x.i + 1, x.j + 1⟩ (H2 + 2) (H2 + 1) P W9 lP9 (by omega) (by omega) (by omega) (by have := HQL8.out; omega) HHP9.out HORD8.out
                                    dsimp only at hpu
                                    push_cast at hpu
                                    have HPU := hide hpu
                                    clear hW9 hpu HB8 HBP8 HDN8 HHP8 hZ
                                    go_wp2_with fail
                                    refine HPU.out.mono ?_
                                    rintro e w9 ⟨rfl, q2, hhp, hperm, hord, hb9, hP9⟩
                                    have HHPN := hide hhp
                                    have HPERN := hide hperm
                                    have HORDN := hide hord
                                    have HPN := hide hP9
                                    have HBN := hide hb9
                                    have hz9 := hb9.size
                                    clear hhp hperm hord hP9 hb9 HPU
                                    go_wp2
                                    go_roundw
                                    case rel => exact ⟨t + 1, q2, by omega, by go_num, hide (HB9.out.trans (HBN.out.mono (by omega))), hide (HPN.out.trans HBP9.out), hide (HDN9.out.of_block (HBN.out.block H2 (by omega))), HHPN, HORDN, hide (dij_Y (dij_push HDJ8.out HAIN.out HAF.out HSTP.out (by simp [setD]) rfl (by rw [← HAW3.out, ← HTA3.out]; exact HPERN.out)) (fun c hc => by rw [HTK.out] at hc; simpa using hc)), hide (by have h1 := HQL8.out; have h2 := HPERN.out.length_eq; simp only [List.length_cons] at h2; omega), hide (fun e he => by
                                        rcases List.mem_cons.1 (HPERN.out.mem_iff.1 he) with rfl | h1
                                        · exact wt_push HXW.out HUND.out (by omega)
                                        · exact HQW8.out e h1), by omega⟩
                                    case measure => simp [intOf]; omega
                                  · have tl1 : (lj == ao) = false := by simp [hlo]
                                    have tl2 : (lj != ao) = true := by simp [hlo]
                                    have HLO := hide (show lo.getD x.j 0 ≠ a.o by rw [← HLJ.out, ← HAO.out]; exact hlo)
                                    clear hlo
                                    go_wp2
                                    go_quiet (fail)
                                    go_wp2
                                    go_quiet (fail)
                                    go_wp2
                                    go_quiet (fail)
                                    go_wp2
                                    go_roundw
                                    case rel => exact ⟨t + 1, q, by omega, by go_num, hide (below_drewN (HB8.out.alloc (by omega) _) _), hide (HBP8.out.alloc _), hide (HDN8.out.alloc _), hide (HHP8.out.alloc _), HORD8, hide (dij_Y (dij_none HDJ8.out (stp_no2 HO0.out (.inr HLO.out))) (fun c hc => by rw [HTK.out] at hc; simpa using hc)), hide (by have := HQL8.out; omega), HQW8, by simp; omega⟩
                                    case measure => simp [intOf]; omega
                            · have tk1 : (li == ai) = false := by simp [hlu]
                              have tk2 : (li != ai) = true := by simp [hlu]
                              have HLU := hide (show lu.getD x.i 0 ≠ a.i by rw [← HLI.out, ← HAI.out]; exact hlu)
                              clear hlu
                              go_wp2
                              go_quiet (fail)
                              go_wp2
                              go_quiet (fail)
                              go_wp2
                              go_roundw
                              case rel => exact ⟨t + 1, q, by omega, by go_num, hide (below_drewN (HB8.out.alloc (by omega) _) _), hide (HBP8.out.alloc _), hide (HDN8.out.alloc _), hide (HHP8.out.alloc _), HORD8, hide (dij_Y (dij_none HDJ8.out (stp_no1 HI0.out (.inr HLU.out))) (fun c hc => by rw [HTK.out] at hc; simpa using hc)), hide (by have := HQL8.out; omega), HQW8, by simp; omega⟩
                              case measure => simp [intOf]; omega
                      · obtain rfl : t = n6 := by omega
                        have HDJE := hide (dij_all HDJ8.out (fun c hc hf => by
                          have h1 : (outs m.arcs x.s).take t = outs m.arcs x.s := List.take_of_length_le (by rw [← HN6.out]; exact Nat.le_refl _)
                          rw [h1]
                          exact List.mem_filter.2 ⟨hc, by simp [hf]⟩))
                        have HHPE := hide (HHP8.out.low (P' := H2) (by omega))
                        have HLNKE := hide (show ∀ s i j, s < S → i ≤ nu → j ≤ no → upd dn K (ixp nu no s i j) = (setD D x.s x.i x.j x.w s i j).isSome from fun s i j h1 h2 h3 => by
                          unfold upd setD
                          by_cases e : s = x.s ∧ i = x.i ∧ j = x.j
                          · obtain ⟨rfl, rfl, rfl⟩ := e
                            rw [if_pos HKX.out.symm, if_pos ⟨rfl, rfl, rfl⟩]; rfl
                          · rw [if_neg e, if_neg (fun h => e (ixp_inj h2 h3 hxi hxj (by rw [h, HKX.out]))), HLNK2.out s i j h1 h2 h3])
                        have HQNE := hide (show q.length + undn (upd dn K) N * 2001 ≤ gk - 1 from by
                          have h1 := HQL8.out
                          have h2 := HQN2.out
                          rw [← HUND.out, Nat.add_mul] at h2
                          clear HQN2 HUND
                          generalize undn (upd dn K) N * 2001 = A at *
                          omega)
                        clear HHP8 HDJ8 p0 p2 p3 HN6 HR6
                        go_wp2
                        go_roundg (gk - 1)
                        case measure => omega
                        case rel => exact ⟨q, setD D x.s x.i x.j x.w, x.w, upd dn K, nl, x.s, x.i, x.j, rfl, HB8, HDN8, HHPE, HORD8, HDJE, HLS, HLNKE, HQNE, by omega, HQW8, hnl0, hnl1, by omega⟩
                  · rw [hdk] at hcK
                    have hsome : (D x.s x.i x.j).isSome = true := by rw [← HLN.out, ← HKX.out]; exact hdk
                    obtain ⟨d, hd⟩ := Option.isSome_iff_exists.1 hsome
                    have HDJ := hide (dij_skip HDIJ.out HPERM.out hd)
                    have hta := fun v W => ta_place v W
                    clear hsome hd hdk
                    go_wp2
                    go_roundg (gk - 1)
                    case measure => omega
                    case rel =>
                      exact ⟨q', D, la, dn, least, s0, i0, j0, rfl, hide (HB5.out.alloc (by omega) _), hide (HDN5.out.alloc _), hide (HHP5.out.alloc _), HORD5, HDJ, HLST, hide HLNK2.out, hide (by have := HQN2.out; rw [HLQ.out]; omega), by omega, HQW5, hl0, hl1, by simp; omega⟩
end Go.Proofs.Ytmgpcnkmmgkjgaa
