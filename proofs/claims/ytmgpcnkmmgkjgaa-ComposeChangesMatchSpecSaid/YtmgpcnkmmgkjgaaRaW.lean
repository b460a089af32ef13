/- Package rational's helpers, walked: add, moved, two, finish. -/
import Derived.Test.YtmgpcnkmmgkjgaaCpW
import Derived.Test.YtmgpcnkmmgkjgaaHpA
namespace Gm
open Go Go.RowKit
set_option linter.unusedSimpArgs false
set_option linter.unusedVariables false
theorem take_arc {l : List Arc} {k : Nat} {a : Arc} (hk : k < l.length) (ha : l.getD k dA = a) : l.take (k + 1) = l.take k ++ [a] := by
  have e : l.getD k dA = l[k] := by simp [hk]
  rw [List.take_succ_eq_append_getElem hk, ← e, ha]
end Gm
namespace Go.Proofs.Ytmgpcnkmmgkjgaa
open Go.RowKit Gm Go.Sort Go.Shelf
set_option linter.unusedSimpArgs false
set_option linter.unusedVariables false
set_option maxRecDepth 100000 in
set_option maxHeartbeats 2000000 in
theorem add_own (m : Mach) (by_ : Int) (l0 : List Arc) (k0 base : Nat) (v0 vm : Value) (w : World) (hbase : base ≤ w.heap.size) (hm : MachAt w base vm m) (hl0 : l0.length = k0) (hk0 : k0 ≤ 100000) (hnb : m.arcs.length ≤ 2000) (hr : ∀ a ∈ m.arcs, 0 ≤ a.f ∧ a.f ≤ 1000 ∧ 0 ≤ a.t ∧ a.t ≤ 1000) (hby : 0 ≤ by_ ∧ by_ ≤ 1000)
    (h : w.ownsRow base 45 5 v0 k0 (arcRow l0)) :
    Calls Try.prog 40 #[v0, vm, .int .i64 by_] w fun e w' => ∃ v', e = .returned v' ∧ w'.ownsRow base 45 5 v' (k0 + m.arcs.length) (arcRow (l0 ++ m.arcs.map (shA by_))) ∧ Below base w w' := by
  obtain ⟨AM, AF, n, c, nf, cf, rfl, HN, HF, hnc, hnfc, hnbig, hnfb, hA, hF⟩ := hm
  rw [HN.out] at hnb ⊢
  obtain ⟨ia, ha0, ha1, ha2, ha3⟩ := info_parts arc_info
  obtain ⟨b0, b1⟩ := hby
  have HR := hide hr
  have HA := hide hA
  have HO := hide h
  clear hr hA hF h hnbig hnfb hl0
  go_enter Try.func40, Try.ntmps40
  go_wp2
  generalize hW : World.alloc _ _ = W0
  have HB0 := hide (show Below base w W0 by rw [← hW]; exact (Below.refl _ _).alloc hbase _)
  have HO0 := hide (show W0.ownsRow base 45 5 v0 (k0 + 0) (arcRow (l0 ++ (m.arcs.take 0).map (shA by_))) by rw [← hW]; simpa using HO.out.alloc _)
  have hz0 : base ≤ W0.heap.size := by rw [← hW]; simp; omega
  clear hW HO
  go_loopw [0, 12] (fun v i wr => ∃ k : Nat, k ≤ n ∧ i = .int .i64 k ∧ Hid (wr.ownsRow base 45 5 v (k0 + k) (arcRow (l0 ++ (m.arcs.take k).map (shA by_)))) ∧ Hid (Below base w wr) ∧ base ≤ wr.heap.size) (fun _ i _ => n - (intOf i).toNat)
  case atStart => exact ⟨0, by omega, rfl, HO0, HB0, hz0⟩
  case round =>
    clear HO0 hz0 HB0
    obtain ⟨k, hk, rfl, HOW, HB, hz⟩ := hrel
    by_cases hkn : k < n
    · obtain ⟨b, off, a, rfl, hbB, c0, c1, c2, c3, c4, HAG⟩ := arcs_at (HA.out.below HB.out (Nat.le_refl _)) hkn
      have lb : b < wr.heap.size := by omega
      obtain ⟨r0, r1, r2, r3⟩ := HR.out a (getD_mem (by rw [HN.out]; exact hkn) HAG.out)
      obtain ⟨vv, hvv⟩ : ∃ x, x = u0 := ⟨_, rfl⟩
      have HTK := hide (take_arc (by rw [HN.out]; exact hkn) HAG.out)
      go_wp2_with (at_builtin; refine wpList_append_own _ rfl (.tmp 26) (.tmp 28) 22 rfl base 45 ia _ 5 40 Try.underlying22 ha0 ha1 ha2 ha3 rfl (by omega) _ (k0 + k) _ rfl ((HOW.out.alloc _).alloc _) ⟨wr.heap.size + 1, 0, none⟩ 1 1 (arcRow [shA by_ a]) rfl (by rfl) (World.news_of_block (cs := (arcRow [shA by_ a]).toArray) (t := 45) (fr := (0, 0)) (Blk.at_ (by simp))) (arcRow_one _) (by simp only [maxLen]; omega) (by omega) (by simp; omega) ?_; intro v' w6 hown2 hg2 _)
      have hlt := HOW.out.lt
      have hs6 := hg2.size
      simp at hs6
      go_roundw
      case rel => exact ⟨k + 1, by omega, by go_num, hide (by
        rw [HTK.out, List.map_append, ← List.append_assoc, arcRow_append]
        exact hown2), hide (((HB.out.alloc (by omega) _).alloc (by simp; omega) _).grown hg2 (by simp; omega) (fun k hk => (hlt k hk).1)), by omega⟩
      case measure => simp [intOf]; omega
    · obtain rfl : k = n := by omega
      have HE := hide (show wr.ownsRow base 45 5 u0 (k0 + k) (arcRow (l0 ++ m.arcs.map (shA by_))) by
        have h := HOW.out
        rw [List.take_of_length_le (by rw [HN.out]; exact Nat.le_refl _)] at h
        exact h)
      clear HOW
      go_wp2
      go_ret
      exact ⟨u0, rfl, HE.out, HB.out⟩
theorem fEq0R {p : Int × Int} : fEq p.1 p.2 0 0 = true ↔ p = (0, 0) := by
  unfold fEq
  obtain ⟨a, b⟩ := p
  simp [Prod.ext_iff]
theorem own_monoB {w : World} {base base' sz n : Nat} {e : TypeId} {v : Value} {xs : List Value} (h : w.ownsRow base e sz v n xs) (hb : base' ≤ base) : w.ownsRow base' e sz v n xs := by
  refine ⟨h.1, ?_⟩
  rcases h.2 with hn | ⟨g, cap, cur, h1, h2, h3⟩
  · exact .inl hn
  · exact .inr ⟨g, cap, cur, h1, Nat.le_trans hb h2, h3⟩
set_option maxRecDepth 100000 in
set_option maxHeartbeats 2000000 in
theorem moved_own (l : List Fnl) (by_ : Int) (base : Nat) (A : Option Addr) (n c : Nat) (w : World) (hbase : base ≤ w.heap.size) (hn : l.length = n) (hnb : n ≤ 1000) (hr : ∀ a ∈ l, 0 ≤ a.s ∧ a.s ≤ 1000) (hby : 0 ≤ by_ ∧ by_ ≤ 1000) (h : Rd w base 2 A n (finCell l)) :
    Calls Try.prog 41 #[.slice A n c, .int .i64 by_] w fun e w' => ∃ v', e = .returned v' ∧ w'.ownsRow w.heap.size 51 2 v' n (finRow (l.map (shF by_))) ∧ Below w.heap.size w w' := by
  obtain ⟨iF, hF0, hF1, hF2, hF3⟩ := info_parts fin_info
  obtain ⟨b0, b1⟩ := hby
  have HR := hide hr
  have HA := hide h
  have HN := hide hn
  clear hr h hn
  go_enter Try.func41, Try.ntmps41
  go_wp2
  go_loopw [5, 10] (fun v i wr => ∃ k : Nat, k ≤ n ∧ i = .int .i64 k ∧ Hid (wr.ownsRow w.heap.size 51 2 v k (finRow ((l.take k).map (shF by_)))) ∧ Hid (Below w.heap.size w wr) ∧ w.heap.size ≤ wr.heap.size) (fun _ i _ => n - (intOf i).toNat)
  case atStart => exact ⟨0, by omega, rfl, hide (World.ownsRow_nil _ _ _ _), hide (Below.refl _ _), Nat.le_refl _⟩
  case round =>
    obtain ⟨k, hk, rfl, HOW, HB, hz⟩ := hrel
    by_cases hkn : k < n
    · obtain ⟨b, off, a, rfl, hbB, c0, c1, HAG⟩ := fins_at (HA.out.below HB.out hbase) hkn
      have lb : b < wr.heap.size := by omega
      have hkl : k < l.length := by rw [HN.out]; exact hkn
      obtain ⟨r0, r1⟩ := HR.out a (by rw [← HAG.out]; simp [List.getD, hkl])
      have HTK := hide (takeF_push hkl HAG.out)
      go_wp2_with (at_builtin; refine wpList_append_own _ rfl (.tmp 14) (.tmp 22) 23 rfl w.heap.size 51 iF _ 2 16 Try.underlying23 hF0 hF1 hF2 hF3 rfl (by omega) _ k _ rfl ((HOW.out.alloc _).alloc _) ⟨wr.heap.size + 1, 0, none⟩ 1 1 (finRow [shF by_ a]) rfl (by rfl) (World.news_of_block (cs := (finRow [shF by_ a]).toArray) (t := 51) (fr := (0, 0)) (Blk.at_ (by simp))) (finRow_one _) (by simp only [maxLen]; omega) (by omega) (by simp; omega) ?_; intro v' w6 hown2 hg2 _)
      have hlt := HOW.out.lt
      have hs6 := hg2.size
      simp at hs6
      go_roundw
      case rel => exact ⟨k + 1, by omega, by go_num, hide (by
        rw [HTK.out, List.map_append, finRow_append]
        exact hown2), hide (((HB.out.alloc (by omega) _).alloc (by simp; omega) _).grown hg2 (by simp; omega) (fun k hk => (hlt k hk).1)), by omega⟩
      case measure => simp [intOf]; omega
    · obtain rfl : k = n := by omega
      have HE := hide (show wr.ownsRow w.heap.size 51 2 u5 k (finRow (l.map (shF by_))) by
        have h := HOW.out
        rw [List.take_of_length_le (by rw [HN.out]; exact Nat.le_refl _)] at h
        exact h)
      clear HOW
      go_wp2
      go_ret
      exact ⟨u5, rfl, HE.out, HB.out⟩
theorem grown_set (w : World) (a : Addr) (u : Value) : w.grownBy (w.setCell a u) (some a.block) :=
  ⟨rfl, rfl, rfl, by simp [World.setCell], fun k _ hne => Below.heap_setCell w a u k (fun e => hne (by rw [e]))⟩
theorem own_set_ne {w : World} {base sz n : Nat} {e : TypeId} {v : Value} {xs : List Value} (h : w.ownsRow base e sz v n xs) (a : Addr) (u : Value) (hne : v.ownBlock ≠ some a.block) : (w.setCell a u).ownsRow base e sz v n xs :=
  h.kept (grown_set w a u) (.inr hne)
theorem grown_set_new {w w' : World} {r : Option Nat} (h : w.grownBy w' r) {a : Addr} (hb : w.heap.size ≤ a.block) (u : Value) : w.grownBy (w'.setCell a u) r :=
  ⟨h.os, h.tape, h.output, by have := h.size; simpa [World.setCell] using this, fun k hk hne => (Below.heap_setCell w' a u k (by omega)).trans (h.block k hk hne)⟩
def twoF (a b : Mach) : Int × Int := if validate a = (0, 0) then validate b else validate a
set_option maxRecDepth 100000 in
set_option maxHeartbeats 2000000 in
theorem two_any (va vb : Value) (a b : Mach) (w : World) (B : Nat) (hB : B ≤ w.heap.size) (ha : MachAt w B va a) (hb : MachAt w B vb b) :
    Calls Try.prog 39 #[va, vb] w fun e w' => e = .returned (.agg #[.int .i64 (twoF a b).1, .int .i64 (twoF a b).2]) ∧ Below w.heap.size w w' := by
  have HA := hide ha
  have HB := hide hb
  obtain ⟨A, AF, n, c, nf, cf, rfl, _⟩ := ha
  obtain ⟨A', AF', n', c', nf', cf', rfl, _⟩ := hb
  have hne := fun a b c d W => run_neq_fault a b c d W
  have hf0 : fEq 0 0 0 0 = true := rfl
  have HVA := hide (fun W (hB : B ≤ W.heap.size) (h : MachAt W B (.agg #[.int .i64 a.n, .slice A n c, .slice AF nf cf]) a) => validate_any _ a W B hB h)
  have HVB := hide (fun W (hB : B ≤ W.heap.size) (h : MachAt W B (.agg #[.int .i64 b.n, .slice A' n' c', .slice AF' nf' cf']) b) => validate_any _ b W B hB h)
  obtain ⟨p, hp⟩ : ∃ p, p = (validate a).1 := ⟨_, rfl⟩
  obtain ⟨q, hq⟩ : ∃ p, p = (validate a).2 := ⟨_, rfl⟩
  rw [← hp, ← hq] at HVA
  have HP := hide hp
  have HQ := hide hq
  clear hp hq
  go_enter Try.func39, Try.ntmps39
  go_wp2_with fail
  refine (HVA.out _ (by simp; omega) (HA.out.below (show Below w.heap.size w _ by go_grown) hB)).mono ?_
  rintro e w1 ⟨rfl, hb1⟩
  have hbw1 : Below w.heap.size w w1 := Below.trans (show Below w.heap.size w _ by go_grown) (hb1.mono (by simp; omega))
  have bY1 : Blk w1 (w.heap.size + 1) 25 #[.int .i64 b.n, .slice A' n' c', .slice AF' nf' cf'] := ((Blk.at_ (by simp)).alloc _).below hb1 (by simp)
  have bR1 : Blk w1 (w.heap.size + 1 + 1) 28 #[.int .i64 0, .int .i64 0] := (Blk.at_ (by simp)).below hb1 (by simp)
  have hz1 := bR1.lt
  have hz1' := bY1.lt
  have f0 := bR1.frozen 0
  have f1 := bR1.frozen 1
  have q0 : w1.cell? ⟨w.heap.size + 1 + 1, 0, none⟩ = some (.int .i64 0) := bR1.cell 0
  have q1 : w1.cell? ⟨w.heap.size + 1 + 1, 1, none⟩ = some (.int .i64 0) := bR1.cell 1
  have y0 := bY1.cell 0
  have y1 := bY1.cell 1
  have y2 := bY1.cell 2
  simp at y0 y1 y2
  clear hb1 HVA
  cases hz : fEq p q 0 0
  case false =>
    have HT := hide (show twoF a b = (p, q) by
      have hv : validate a ≠ (0, 0) := fun e => by rw [HP.out, HQ.out, e] at hz; cases hz
      unfold twoF; rw [if_neg hv, HP.out, HQ.out])
    go_wp2
    rw [HT.out]
    exact bodyPost_ret (v := .agg #[.int .i64 p, .int .i64 q]) (by simp [results, Try.results39, go_sem, hz1, f0, f1, q0, q1]) rfl ⟨rfl, ((hbw1.setCell (by show w.heap.size ≤ w.heap.size + 1 + 1; omega) _).setCell (by show w.heap.size ≤ w.heap.size + 1 + 1; omega) _).alloc (by simpa [World.setCell] using hbw1.size) _⟩
  case true =>
    have HT := hide (show twoF a b = validate b by
      have hv : validate a = (0, 0) := fEq0R.1 (by rw [← HP.out, ← HQ.out]; exact hz)
      unfold twoF; rw [if_pos hv])
    clear q0 q1 f0 f1
    go_wp2_with fail
    refine (HVB.out _ (by have := hbw1.size; simp; omega) (HB.out.below (hbw1.alloc hbw1.size _) hB)).mono ?_
    rintro e w2 ⟨rfl, hb2⟩
    have hbw2 : Below w.heap.size w w2 := (hbw1.alloc hbw1.size _).trans (hb2.mono (by have := hbw1.size; simp; omega))
    have bR2 := (bR1.alloc _).below hb2 (by simp; omega)
    have hz2 := bR2.lt
    have f0 := bR2.frozen 0
    have f1 := bR2.frozen 1
    have q0 : w2.cell? ⟨w.heap.size + 1 + 1, 0, none⟩ = some (.int .i64 0) := bR2.cell 0
    have q1 : w2.cell? ⟨w.heap.size + 1 + 1, 1, none⟩ = some (.int .i64 0) := bR2.cell 1
    clear hb2 y0 y1 y2 hz1' HVB
    go_wp2
    rw [HT.out]
    exact bodyPost_ret (v := .agg #[.int .i64 (validate b).1, .int .i64 (validate b).2]) (by simp [results, Try.results39, go_sem, hz2, f0, f1, q0, q1]) rfl ⟨rfl, (hbw2.setCell (by show w.heap.size ≤ w.heap.size + 1 + 1; omega) _).setCell (by show w.heap.size ≤ w.heap.size + 1 + 1; omega) _⟩
set_option maxRecDepth 100000 in
set_option maxHeartbeats 4000000 in
theorem finish_big1 (n0 : Int) (l : List Arc) (k base : Nat) (v : Value) (AF : Option Addr) (nf cf : Nat) (w : World) (hbase : base ≤ w.heap.size) (hl : l.length = k) (hk : k ≤ 100000) (hnd : l.Nodup) (h0 : 400 < n0 ∧ n0 ≤ 100000) (h : w.ownsRow base 45 5 v k (arcRow l)) :
    Calls Try.prog 42 #[.agg #[.int .i64 n0, v, .slice AF nf cf]] w fun e w' => e = .returned (.tuple #[.agg #[.int .i64 0, .slice none 0 0, .slice none 0 0], .agg #[.int .i64 17, .int .i64 (-1)]]) ∧ Below base w w' := by
  obtain ⟨A, c, rfl, hkc, hcm⟩ := own_value h
  have hlt := h.lt
  have hne : ∀ b, w.heap.size ≤ b → some b ≠ (Value.slice A k c).ownBlock := fun b hb e => by have := (hlt _ e.symm).2; omega
  have HNE := hide hne
  have HLT := hide hlt
  have HS := hide (fun W (h : W.ownsRow base 45 5 (.slice A k c) k (arcRow l)) => sort_any l k base (.slice A k c) W hl (by omega) h)
  have hls : (srtA l).length = k := by rw [(srtA_perm l).length_eq, hl]
  have HC := hide (fun W (h : W.ownsRow base 45 5 (.slice A k c) k (arcRow (srtA l))) => compact_none (srtA l) k base (.slice A k c) W hls (by omega) ((srtA_perm l).nodup_iff.2 hnd) h)
  have HO := hide h
  obtain ⟨h00, h01⟩ := h0
  have t1 : decide (n0 > 400) = true := decide_eq_true (by omega)
  have t1' : decide ((400 : Int) < n0) = true := decide_eq_true (by omega)
  clear hlt hne hl hls hnd h
  go_enter Try.func42, Try.ntmps42
  go_wp2_with fail
  refine (HS.out _ (((HO.out.alloc _).alloc _).alloc _)).mono ?_
  rintro e w1 ⟨rfl, hown1, hg1⟩
  have bM1 : Blk w1 w.heap.size 25 #[.int .i64 n0, .slice A k c, .slice AF nf cf] := ((((Blk.new w _ _).alloc _).alloc _)).grown hg1 (HNE.out _ (Nat.le_refl _))
  have bR1 : Blk w1 (w.heap.size + 1) 25 #[.int .i64 0, .slice none 0 0, .slice none 0 0] := ((Blk.at_ (by simp)).alloc _).grown hg1 (HNE.out _ (by omega))
  have bF1 : Blk w1 (w.heap.size + 1 + 1) 28 #[.int .i64 0, .int .i64 0] := (Blk.at_ (by simp)).grown hg1 (HNE.out _ (by omega))
  have HG1 := hide hg1
  have HO1 := hide hown1
  have m0 := bM1.cell 0
  have m1 := bM1.cell 1
  have m2 := bM1.cell 2
  have mf1 := bM1.frozen 1
  simp at m0 m1 m2
  have lM := bM1.lt
  have lR := bR1.lt
  have lF := bF1.lt
  clear hg1 hown1 HS HO
  go_wp2_with fail
  refine (HC.out _ HO1.out).mono ?_
  rintro e w2 ⟨rfl, q, rfl⟩
  have r0 := bR1.cell 0
  clear HC r0
  have bR2 : Blk ((w1.drewN q).setCell ⟨w.heap.size, 1, none⟩ (.slice A k c)) (w.heap.size + 1) 25 #[.int .i64 0, .slice none 0 0, .slice none 0 0] := (bR1.drewN q).far (by dsimp only; omega) _
  have bF2 : Blk ((w1.drewN q).setCell ⟨w.heap.size, 1, none⟩ (.slice A k c)) (w.heap.size + 1 + 1) 28 #[.int .i64 0, .int .i64 0] := (bF1.drewN q).far (by dsimp only; omega) _
  have hbB : Below base w ((w1.drewN q).setCell ⟨w.heap.size, 1, none⟩ (.slice A k c)) := (below_drewN (((((Below.refl base w).alloc hbase _).alloc (by simp; omega) _).alloc (by simp; omega) _).grown HG1.out (by simp; omega) (fun k hk => (HLT.out k hk).1)) q).setCell (by simpa using hbase) _
  have hbB2 : base ≤ ((w1.drewN q).setCell ⟨w.heap.size, 1, none⟩ (.slice A k c)).heap.size := by have := bR2.lt; omega
  clear bM1 bR1 bF1
  go_wp2_with fail
  refine (qfault_any _ _ _).mono ?_
  rintro e w3 ⟨rfl, hb3⟩
  have bR3 := bR2.below hb3 bR2.lt
  have bF3 := bF2.below hb3 bF2.lt
  have hbw := hbB.trans (hb3.mono hbB2)
  have r0 := bR3.cell 0
  have r1 := bR3.cell 1
  have r2 := bR3.cell 2
  have s0 := bF3.cell 0
  have s1 := bF3.cell 1
  have rf0 := bR3.frozen 0
  have rf1 := bR3.frozen 1
  have rf2 := bR3.frozen 2
  have sf0 := bF3.frozen 0
  have sf1 := bF3.frozen 1
  simp at r0 r1 r2 s0 s1
  have lR3 := bR3.lt
  have lF3 := bF3.lt
  clear hb3 bR2 bF2 bR3 bF3
  go_wp2
  refine bodyPost_ret (v := .tuple #[.agg #[.int .i64 0, .slice none 0 0, .slice none 0 0], .agg #[.int .i64 17, .int .i64 (-1)]]) (by simp [results, Try.results42, go_sem, lR3, lF3, r0, r1, r2, s0, s1, rf0, rf1, rf2, sf0, sf1]) rfl ⟨rfl, ?_⟩
  refine Below.setCell (Below.setCell (Below.setCell (Below.setCell (Below.setCell hbw ?_ _) ?_ _) ?_ _) ?_ _) ?_ _ <;> (first | omega | (dsimp only; omega))
set_option maxRecDepth 100000 in
set_option maxHeartbeats 4000000 in
theorem finish_big2 (n0 : Int) (l : List Arc) (k base : Nat) (v : Value) (AF : Option Addr) (nf cf : Nat) (w : World) (hbase : base ≤ w.heap.size) (hl : l.length = k) (hk : 2000 < k ∧ k ≤ 100000) (hnd : l.Nodup) (h0 : 0 ≤ n0 ∧ n0 ≤ 400) (h : w.ownsRow base 45 5 v k (arcRow l)) :
    Calls Try.prog 42 #[.agg #[.int .i64 n0, v, .slice AF nf cf]] w fun e w' => e = .returned (.tuple #[.agg #[.int .i64 0, .slice none 0 0, .slice none 0 0], .agg #[.int .i64 17, .int .i64 (-1)]]) ∧ Below base w w' := by
  obtain ⟨A, c, rfl, hkc, hcm⟩ := own_value h
  have hlt := h.lt
  have hne : ∀ b, w.heap.size ≤ b → some b ≠ (Value.slice A k c).ownBlock := fun b hb e => by have := (hlt _ e.symm).2; omega
  have HNE := hide hne
  have HLT := hide hlt
  have HS := hide (fun W (h : W.ownsRow base 45 5 (.slice A k c) k (arcRow l)) => sort_any l k base (.slice A k c) W hl (by omega) h)
  have hls : (srtA l).length = k := by rw [(srtA_perm l).length_eq, hl]
  have HC := hide (fun W (h : W.ownsRow base 45 5 (.slice A k c) k (arcRow (srtA l))) => compact_none (srtA l) k base (.slice A k c) W hls (by omega) ((srtA_perm l).nodup_iff.2 hnd) h)
  have HO := hide h
  obtain ⟨h00, h01⟩ := h0
  obtain ⟨hk, hk2⟩ := hk
  have t1 : decide (n0 > 400) = false := decide_eq_false (by omega)
  have t1' : decide ((400 : Int) < n0) = false := decide_eq_false (by omega)
  have t2 : decide ((k : Int) > 2000) = true := decide_eq_true (by omega)
  have t2' : decide ((2000 : Int) < (k : Int)) = true := decide_eq_true (by omega)
  clear hlt hne hl hls hnd h
  go_enter Try.func42, Try.ntmps42
  go_wp2_with fail
  refine (HS.out _ (((HO.out.alloc _).alloc _).alloc _)).mono ?_
  rintro e w1 ⟨rfl, hown1, hg1⟩
  have bM1 : Blk w1 w.heap.size 25 #[.int .i64 n0, .slice A k c, .slice AF nf cf] := ((((Blk.new w _ _).alloc _).alloc _)).grown hg1 (HNE.out _ (Nat.le_refl _))
  have bR1 : Blk w1 (w.heap.size + 1) 25 #[.int .i64 0, .slice none 0 0, .slice none 0 0] := ((Blk.at_ (by simp)).alloc _).grown hg1 (HNE.out _ (by omega))
  have bF1 : Blk w1 (w.heap.size + 1 + 1) 28 #[.int .i64 0, .int .i64 0] := (Blk.at_ (by simp)).grown hg1 (HNE.out _ (by omega))
  have HG1 := hide hg1
  have HO1 := hide hown1
  have m0 := bM1.cell 0
  have m1 := bM1.cell 1
  have m2 := bM1.cell 2
  have mf1 := bM1.frozen 1
  simp at m0 m1 m2
  have lM := bM1.lt
  have lR := bR1.lt
  have lF := bF1.lt
  clear hg1 hown1 HS HO
  go_wp2_with fail
  refine (HC.out _ HO1.out).mono ?_
  rintro e w2 ⟨rfl, q, rfl⟩
  have r0 := bR1.cell 0
  clear HC r0
  have bR2 : Blk ((w1.drewN q).setCell ⟨w.heap.size, 1, none⟩ (.slice A k c)) (w.heap.size + 1) 25 #[.int .i64 0, .slice none 0 0, .slice none 0 0] := (bR1.drewN q).far (by dsimp only; omega) _
  have bF2 : Blk ((w1.drewN q).setCell ⟨w.heap.size, 1, none⟩ (.slice A k c)) (w.heap.size + 1 + 1) 28 #[.int .i64 0, .int .i64 0] := (bF1.drewN q).far (by dsimp only; omega) _
  have hbB : Below base w ((w1.drewN q).setCell ⟨w.heap.size, 1, none⟩ (.slice A k c)) := (below_drewN (((((Below.refl base w).alloc hbase _).alloc (by simp; omega) _).alloc (by simp; omega) _).grown HG1.out (by simp; omega) (fun k hk => (HLT.out k hk).1)) q).setCell (by simpa using hbase) _
  have hbB2 : base ≤ ((w1.drewN q).setCell ⟨w.heap.size, 1, none⟩ (.slice A k c)).heap.size := by have := bR2.lt; omega
  clear bM1 bR1 bF1
  go_wp2_with fail
  refine (qfault_any _ _ _).mono ?_
  rintro e w3 ⟨rfl, hb3⟩
  have bR3 := bR2.below hb3 bR2.lt
  have bF3 := bF2.below hb3 bF2.lt
  have hbw := hbB.trans (hb3.mono hbB2)
  have r0 := bR3.cell 0
  have r1 := bR3.cell 1
  have r2 := bR3.cell 2
  have s0 := bF3.cell 0
  have s1 := bF3.cell 1
  have rf0 := bR3.frozen 0
  have rf1 := bR3.frozen 1
  have rf2 := bR3.frozen 2
  have sf0 := bF3.frozen 0
  have sf1 := bF3.frozen 1
  simp at r0 r1 r2 s0 s1
  have lR3 := bR3.lt
  have lF3 := bF3.lt
  clear hb3 bR2 bF2 bR3 bF3
  go_wp2
  refine bodyPost_ret (v := .tuple #[.agg #[.int .i64 0, .slice none 0 0, .slice none 0 0], .agg #[.int .i64 17, .int .i64 (-1)]]) (by simp [results, Try.results42, go_sem, lR3, lF3, r0, r1, r2, s0, s1, rf0, rf1, rf2, sf0, sf1]) rfl ⟨rfl, ?_⟩
  refine Below.setCell (Below.setCell (Below.setCell (Below.setCell (Below.setCell hbw ?_ _) ?_ _) ?_ _) ?_ _) ?_ _ <;> (first | omega | (dsimp only; omega))
set_option maxRecDepth 100000 in
set_option maxHeartbeats 4000000 in
theorem finish_ok (n0 : Int) (l : List Arc) (k base : Nat) (v : Value) (AF : Option Addr) (nf cf : Nat) (w : World) (hbase : base ≤ w.heap.size) (hl : l.length = k) (hk : k ≤ 2000) (hnd : l.Nodup) (h0 : 0 ≤ n0 ∧ n0 ≤ 400) (h : w.ownsRow base 45 5 v k (arcRow l)) :
    Calls Try.prog 42 #[.agg #[.int .i64 n0, v, .slice AF nf cf]] w fun e w' => e = .returned (.tuple #[.agg #[.int .i64 n0, v, .slice AF nf cf], .agg #[.int .i64 0, .int .i64 0]]) ∧ w'.ownsRow base 45 5 v k (arcRow (srtA l)) ∧ w.grownBy w' v.ownBlock := by
  obtain ⟨A, c, rfl, hkc, hcm⟩ := own_value h
  have hlt := h.lt
  have hne : ∀ b, w.heap.size ≤ b → some b ≠ (Value.slice A k c).ownBlock := fun b hb e => by have := (hlt _ e.symm).2; omega
  have HNE := hide hne
  have HLT := hide hlt
  have HS := hide (fun W (h : W.ownsRow base 45 5 (.slice A k c) k (arcRow l)) => sort_any l k base (.slice A k c) W hl (by omega) h)
  have hls : (srtA l).length = k := by rw [(srtA_perm l).length_eq, hl]
  have HC := hide (fun W (h : W.ownsRow base 45 5 (.slice A k c) k (arcRow (srtA l))) => compact_none (srtA l) k base (.slice A k c) W hls (by omega) ((srtA_perm l).nodup_iff.2 hnd) h)
  have HO := hide h
  obtain ⟨h00, h01⟩ := h0
  have t1 : decide (n0 > 400) = false := decide_eq_false (by omega)
  have t1' : decide ((400 : Int) < n0) = false := decide_eq_false (by omega)
  have t2 : decide ((k : Int) > 2000) = false := decide_eq_false (by omega)
  have t2' : decide ((2000 : Int) < (k : Int)) = false := decide_eq_false (by omega)
  clear hlt hne hl hls hnd h
  go_enter Try.func42, Try.ntmps42
  go_wp2_with fail
  refine (HS.out _ (((HO.out.alloc _).alloc _).alloc _)).mono ?_
  rintro e w1 ⟨rfl, hown1, hg1⟩
  have bM1 : Blk w1 w.heap.size 25 #[.int .i64 n0, .slice A k c, .slice AF nf cf] := ((((Blk.new w _ _).alloc _).alloc _)).grown hg1 (HNE.out _ (Nat.le_refl _))
  have bR1 : Blk w1 (w.heap.size + 1) 25 #[.int .i64 0, .slice none 0 0, .slice none 0 0] := ((Blk.at_ (by simp)).alloc _).grown hg1 (HNE.out _ (by omega))
  have bF1 : Blk w1 (w.heap.size + 1 + 1) 28 #[.int .i64 0, .int .i64 0] := (Blk.at_ (by simp)).grown hg1 (HNE.out _ (by omega))
  have HG1 := hide hg1
  have HO1 := hide hown1
  have m0 := bM1.cell 0
  have m1 := bM1.cell 1
  have m2 := bM1.cell 2
  have mf1 := bM1.frozen 1
  simp at m0 m1 m2
  have lM := bM1.lt
  have lR := bR1.lt
  have lF := bF1.lt
  clear hg1 hown1 HS HO
  go_wp2_with fail
  refine (HC.out _ HO1.out).mono ?_
  rintro e w2 ⟨rfl, q, rfl⟩
  have r0 := bR1.cell 0
  have r1 := bR1.cell 1
  have r2 := bR1.cell 2
  have s0 := bF1.cell 0
  have s1 := bF1.cell 1
  have rf0 := bR1.frozen 0
  have rf1 := bR1.frozen 1
  have rf2 := bR1.frozen 2
  have sf0 := bF1.frozen 0
  have sf1 := bF1.frozen 1
  simp at r0 r1 r2 s0 s1
  clear HC bM1 bR1 bF1
  go_wp2
  have hb : ∀ b, w.heap.size ≤ b → (Value.slice A k c).ownBlock ≠ some b := fun b hb e => HNE.out b hb e.symm
  refine bodyPost_ret (v := .tuple #[.agg #[.int .i64 n0, .slice A k c, .slice AF nf cf], .agg #[.int .i64 0, .int .i64 0]]) (by simp [results, Try.results42, go_sem, lR, lF, lM, r0, r1, r2, s0, s1, rf0, rf1, rf2, sf0, sf1]) rfl ⟨rfl, ?_, ?_⟩
  · refine own_set_ne (own_set_ne (own_set_ne (own_set_ne (own_set_ne (own_set_ne (own_drewN' HO1.out q) _ _ ?_) _ _ ?_) _ _ ?_) _ _ ?_) _ _ ?_) _ _ ?_ <;> exact hb _ (by first | omega | (dsimp only; omega))
  · have hg0 : w.grownBy w1 (Value.slice A k c).ownBlock := grownBy_trans (World.grownBy_alloc w _ _) (grownBy_trans (World.grownBy_alloc _ _ _) (grownBy_trans (World.grownBy_alloc _ _ _) HG1.out))
    refine grown_set_new (grown_set_new (grown_set_new (grown_set_new (grown_set_new (grown_set_new (grownBy_drewN hg0 q) ?_ _) ?_ _) ?_ _) ?_ _) ?_ _) ?_ _ <;> (first | omega | (dsimp only; omega))
end Go.Proofs.Ytmgpcnkmmgkjgaa
