/- compose.Compose, walked. Written by gen_co.py. -/
import Derived.Test.YtmgpcnkmmgkjgaaUsW
import Derived.Test.YtmgpcnkmmgkjgaaReW
import Derived.Test.YtmgpcnkmmgkjgaaRgQ
import Derived.Test.YtmgpcnkmmgkjgaaVal
import Derived.Test.YtmgpcnkmmgkjgaaEx
import Derived.IntWalk
namespace Go.Proofs.Ytmgpcnkmmgkjgaa
open Go.RowKit Gm Go.Sort Go.Shelf
set_option linter.unusedSimpArgs false
set_option linter.unusedVariables false
theorem fEq0K {p : Int × Int} : fEq p.1 p.2 0 0 = true ↔ p = (0, 0) := by
  unfold fEq
  obtain ⟨a, b⟩ := p
  simp [Prod.ext_iff]
theorem fEq0b {p : Int × Int} (h : p ≠ (0, 0)) : fEq p.1 p.2 0 0 = false := by
  cases e : fEq p.1 p.2 0 0
  · rfl
  · exact absurd (fEq0K.1 e) h
theorem run_neq_cpl (a b : Int) (w : World) : (binOp .neq 65 (.agg #[.int .i64 a, .int .i64 b]) (.agg #[.int .i64 0, .int .i64 0])).run Try.prog w = .ok (.bool (!fEq a b 0 0)) w := by
  simp [go_sem, fEq]
  by_cases e1 : a = 0 <;> by_cases e2 : b = 0 <;> simp_all
theorem cofault_any (a b : Int) (w : World) : Calls Try.prog 46 #[.int .i64 a, .int .i64 b] w fun e w' => e = .returned (.agg #[.int .i64 a, .int .i64 b]) ∧ Below w.heap.size w w' := by
  go_enter Try.func46, Try.ntmps46
  go_wp2
  exact bodyPost_ret (v := .agg #[.int .i64 a, .int .i64 b]) (by simp [results, Try.results46, go_sem]) rfl ⟨rfl, by go_grown⟩
theorem comachnew {w : World} {base b2 lo n nf ca cf : Nat} {eA eF : TypeId} {A AF : Option Addr} {n0 : Int} {L : List Arc} {F : List Fnl} (hA : w.ownsRow base eA 5 (.slice A n ca) n (arcRow L)) (hF : w.ownsRow b2 eF 2 (.slice AF nf cf) nf (finRow F))
    (hn : L.length = n) (hnf : F.length = nf) (h1 : lo ≤ base) (h2 : lo ≤ b2) (hac : n ≤ ca) (hfc : nf ≤ cf) (ha : n ≤ big) (hf : nf ≤ big) : MachNew lo w (.agg #[.int .i64 n0, .slice A n ca, .slice AF nf cf]) ⟨n0, L, F⟩ := by
  subst hn hnf
  exact MachNew.of_own (m := ⟨n0, L, F⟩) hA hF h1 h2 hac hfc ha hf
theorem expP_below {w w' : World} {lo Mb Fb : Nat} {ST : TypeId} {a b : Mach} {ok : Bool} (h : ExpP w lo ST a b Mb Fb ok) (hb : Below w.heap.size w w') : ExpP w' lo ST a b Mb Fb ok := by
  obtain ⟨h1, h2, h3, h4⟩ := h
  refine ⟨h1, h2, fun e => ?_, h4⟩
  obtain ⟨L, g1, g2, g3, g4⟩ := h3 e
  exact ⟨L, g1.below hb g1.lt, g2, g3.below hb, g4.below hb g4.lt⟩
set_option maxRecDepth 100000 in
set_option maxHeartbeats 16000000 in
theorem comp_bad1 (va vb : Value) (a b : Mach) (w : World) (B : Nat) (hB : B ≤ w.heap.size) (ha : MachAt w B va a) (hb : MachAt w B vb b) (hz : validate a ≠ (0, 0)) :
    Calls Try.prog 26 #[va, vb] w fun e w' => e = .returned (.tuple #[.agg #[.int .i64 0, .slice none 0 0, .slice none 0 0], .agg #[.int .i64 (validate a).1, .int .i64 (validate a).2]]) ∧ Below w.heap.size w w' := by
  have HA := hide ha
  obtain ⟨A, AF, n, c, nf, cf, rfl, _⟩ := ha
  obtain ⟨A', AF', n', c', nf', cf', rfl, _⟩ := hb
  have hne := fun a b c d W => run_neq_fault a b c d W
  have hf0 : fEq 0 0 0 0 = true := rfl
  have hQ := fun W (hB : B ≤ W.heap.size) (h : MachAt W B (.agg #[.int .i64 a.n, .slice A n c, .slice AF nf cf]) a) => validate_any _ a W B hB h
  have hz0 : fEq (validate a).1 (validate a).2 0 0 = false := fEq0b hz
  obtain ⟨p, hp⟩ : ∃ p, p = (validate a).1 := ⟨_, rfl⟩
  obtain ⟨q, hq⟩ : ∃ p, p = (validate a).2 := ⟨_, rfl⟩
  rw [← hp, ← hq] at hQ hz0 ⊢
  have HQ := hide hQ
  clear hp hq hz hQ
  go_enter Try.func26, Try.ntmps26
  go_wp2_with fail
  refine (HQ.out _ (by simp <;> omega) (HA.out.below (show Below w.heap.size w _ by go_grown) hB)).mono ?_
  rintro e w1 ⟨rfl, hb1⟩
  have hbw1 : Below w.heap.size w w1 := Below.trans (show Below w.heap.size w _ by go_grown) (hb1.mono (by simp <;> omega))
  have bR1 : Blk w1 (w.heap.size + 1 + 1) 25 #[.int .i64 0, .slice none 0 0, .slice none 0 0] := ((Blk.at_ (by simp)).alloc _).below hb1 (by simp <;> omega)
  have bF1 : Blk w1 (w.heap.size + 1 + 1 + 1) 28 #[.int .i64 0, .int .i64 0] := (Blk.at_ (by simp)).below hb1 (by simp)
  clear hb1 HQ
  have q0 := bR1.cell 0
  have q1 := bR1.cell 1
  have q2 := bR1.cell 2
  have q3 := bF1.cell 0
  have q4 := bF1.cell 1
  have qf := bR1.frozen 0
  have qf1 := bR1.frozen 1
  have qf2 := bR1.frozen 2
  have qf3 := bF1.frozen 0
  have qf4 := bF1.frozen 1
  simp at q0 q1 q2 q3 q4
  have hs3 := bR1.lt
  have hs4 := bF1.lt
  have hs5 := hbw1.size
  clear bR1 bF1
  go_wp2
  refine wp_mix (fun w' => w'.cell? ⟨w1.heap.size, 0, none⟩ = some (.int .i64 p) ∧ w'.cell? ⟨w1.heap.size, 1, none⟩ = some (.int .i64 q)) 3 [(0, false), (1, false), (2, true)] (by kernel_rfl) (by kernel_rfl) ?_ ?_
  · go_simp
  simp only [List.drop_succ_cons, List.drop_zero]
  repeat (refine mix_q (v := ?_) (by rfl) (by rfl) ?_ ?_; rotate_left; (focus (intro w' hC; (try dsimp only at hC); go_simp; (first | done | with_reducible rfl))); simp only [Act.put, List.setIfInBounds_toArray, List.set_cons_zero, List.set_cons_succ, List.getElem_toArray, List.getElem_cons_zero, List.getElem_cons_succ])
  refine mix_l (by rfl) (by rfl) (fun K hK => ?_)
  go_simp
  refine hK _ _ (by go_simp) ?_
  clear hK K
  refine mix_nil ?_; try simp only [Act.put, List.setIfInBounds_toArray, List.set_cons_zero, List.set_cons_succ, List.getElem_toArray, List.getElem_cons_zero, List.getElem_cons_succ]
  go_wp2
  refine NoPanic.normal ?_
  go_wp2
  exact bodyPost_ret (v := .tuple #[.agg #[.int .i64 0, .slice none 0 0, .slice none 0 0], .agg #[.int .i64 p, .int .i64 q]]) (by simp [results, Try.results26, go_sem, q0, q1, q2, q3, q4, qf, qf1, qf2, qf3, qf4, hs3, hs4]) rfl ⟨rfl, by go_grown⟩
set_option maxRecDepth 100000 in
set_option maxHeartbeats 16000000 in
theorem comp_bad2 (va vb : Value) (a b : Mach) (w : World) (B : Nat) (hB : B ≤ w.heap.size) (ha : MachAt w B va a) (hb : MachAt w B vb b) (hv : validate a = (0, 0)) (hz : validate b ≠ (0, 0)) :
    Calls Try.prog 26 #[va, vb] w fun e w' => e = .returned (.tuple #[.agg #[.int .i64 0, .slice none 0 0, .slice none 0 0], .agg #[.int .i64 (validate b).1, .int .i64 (validate b).2]]) ∧ Below w.heap.size w w' := by
  have HA := hide ha
  have HB := hide hb
  obtain ⟨A, AF, n, c, nf, cf, rfl, _⟩ := ha
  obtain ⟨A', AF', n', c', nf', cf', rfl, _⟩ := hb
  have hne := fun a b c d W => run_neq_fault a b c d W
  have hf0 : fEq 0 0 0 0 = true := rfl
  have hQ := fun W (hB : B ≤ W.heap.size) (h : MachAt W B (.agg #[.int .i64 a.n, .slice A n c, .slice AF nf cf]) a) => validate_any _ a W B hB h
  have hQ2 := fun W (hB : B ≤ W.heap.size) (h : MachAt W B (.agg #[.int .i64 b.n, .slice A' n' c', .slice AF' nf' cf']) b) => validate_any _ b W B hB h
  rw [hv] at hQ
  have hz0 : fEq (validate b).1 (validate b).2 0 0 = false := fEq0b hz
  obtain ⟨p, hp⟩ : ∃ p, p = (validate b).1 := ⟨_, rfl⟩
  obtain ⟨q, hq⟩ : ∃ p, p = (validate b).2 := ⟨_, rfl⟩
  rw [← hp, ← hq] at hQ2 hz0 ⊢
  have HQ := hide hQ
  have HQ2 := hide hQ2
  clear hp hq hz hQ hQ2 hv
  go_enter Try.func26, Try.ntmps26
  go_wp2_with fail
  refine (HQ.out _ (by simp <;> omega) (HA.out.below (show Below w.heap.size w _ by go_grown) hB)).mono ?_
  rintro e w1 ⟨rfl, hb1⟩
  have hbw1 : Below w.heap.size w w1 := Below.trans (show Below w.heap.size w _ by go_grown) (hb1.mono (by simp <;> omega))
  have bY1 : Blk w1 (w.heap.size + 1) 25 #[.int .i64 b.n, .slice A' n' c', .slice AF' nf' cf'] := (((Blk.at_ (by simp)).alloc _).alloc _).below hb1 (by simp <;> omega)
  have bR1 : Blk w1 (w.heap.size + 1 + 1) 25 #[.int .i64 0, .slice none 0 0, .slice none 0 0] := ((Blk.at_ (by simp)).alloc _).below hb1 (by simp <;> omega)
  have bF1 : Blk w1 (w.heap.size + 1 + 1 + 1) 28 #[.int .i64 0, .int .i64 0] := (Blk.at_ (by simp)).below hb1 (by simp)
  clear hb1 HQ
  have y0 := bY1.cell 0
  have y1 := bY1.cell 1
  have y2 := bY1.cell 2
  simp at y0 y1 y2
  have lY := bY1.lt
  go_wp2_with fail
  refine (HQ2.out _ (by have := hbw1.size; simp <;> omega) (HB.out.below (hbw1.alloc hbw1.size _) hB)).mono ?_
  rintro e w2 ⟨rfl, hb2⟩
  have hbw2 := (hbw1.alloc hbw1.size _).trans (hb2.mono (by have := hbw1.size; simp <;> omega))
  have bR2 := (bR1.alloc _).below hb2 (by have := bR1.lt; simp <;> omega)
  have bF2 := (bF1.alloc _).below hb2 (by have := bF1.lt; simp <;> omega)
  clear hb2 HQ2 hbw1 bR1 bF1 bY1 y0 y1 y2 lY
  have q0 := bR2.cell 0
  have q1 := bR2.cell 1
  have q2 := bR2.cell 2
  have q3 := bF2.cell 0
  have q4 := bF2.cell 1
  have qf := bR2.frozen 0
  have qf1 := bR2.frozen 1
  have qf2 := bR2.frozen 2
  have qf3 := bF2.frozen 0
  have qf4 := bF2.frozen 1
  simp at q0 q1 q2 q3 q4
  have hs3 := bR2.lt
  have hs4 := bF2.lt
  have hs5 := hbw2.size
  clear bR2 bF2
  go_wp2
  refine wp_mix (fun w' => w'.cell? ⟨w2.heap.size, 0, none⟩ = some (.int .i64 p) ∧ w'.cell? ⟨w2.heap.size, 1, none⟩ = some (.int .i64 q)) 3 [(0, false), (1, false), (2, true)] (by kernel_rfl) (by kernel_rfl) ?_ ?_
  · go_simp
  simp only [List.drop_succ_cons, List.drop_zero]
  repeat (refine mix_q (v := ?_) (by rfl) (by rfl) ?_ ?_; rotate_left; (focus (intro w' hC; (try dsimp only at hC); go_simp; (first | done | with_reducible rfl))); simp only [Act.put, List.setIfInBounds_toArray, List.set_cons_zero, List.set_cons_succ, List.getElem_toArray, List.getElem_cons_zero, List.getElem_cons_succ])
  refine mix_l (by rfl) (by rfl) (fun K hK => ?_)
  go_simp
  refine hK _ _ (by go_simp) ?_
  clear hK K
  refine mix_nil ?_; try simp only [Act.put, List.setIfInBounds_toArray, List.set_cons_zero, List.set_cons_succ, List.getElem_toArray, List.getElem_cons_zero, List.getElem_cons_succ]
  go_wp2
  refine NoPanic.normal ?_
  go_wp2
  exact bodyPost_ret (v := .tuple #[.agg #[.int .i64 0, .slice none 0 0, .slice none 0 0], .agg #[.int .i64 p, .int .i64 q]]) (by simp [results, Try.results26, go_sem, q0, q1, q2, q3, q4, qf, qf1, qf2, qf3, qf4, hs3, hs4]) rfl ⟨rfl, by go_grown⟩
set_option maxRecDepth 100000 in
set_option maxHeartbeats 16000000 in
theorem comp_zero (va vb : Value) (a b : Mach) (w : World) (B : Nat) (hB : B ≤ w.heap.size) (ha : MachAt w B va a) (hb : MachAt w B vb b) (hv : validate a = (0, 0)) (hv' : validate b = (0, 0)) (h0 : a.n = 0 ∨ b.n = 0) :
    Calls Try.prog 26 #[va, vb] w fun e w' => e = .returned (.tuple #[.agg #[.int .i64 0, .slice none 0 0, .slice none 0 0], .agg #[.int .i64 0, .int .i64 0]]) ∧ Below w.heap.size w w' := by
  have HA := hide ha
  have HB := hide hb
  obtain ⟨A, AF, n, c, nf, cf, rfl, _⟩ := ha
  obtain ⟨A', AF', n', c', nf', cf', rfl, _⟩ := hb
  have hne := fun a b c d W => run_neq_fault a b c d W
  have hf0 : fEq 0 0 0 0 = true := rfl
  have hQ := fun W (hB : B ≤ W.heap.size) (h : MachAt W B (.agg #[.int .i64 a.n, .slice A n c, .slice AF nf cf]) a) => validate_any _ a W B hB h
  have hQ2 := fun W (hB : B ≤ W.heap.size) (h : MachAt W B (.agg #[.int .i64 b.n, .slice A' n' c', .slice AF' nf' cf']) b) => validate_any _ b W B hB h
  rw [hv] at hQ
  rw [hv'] at hQ2
  have HQ := hide hQ
  have HQ2 := hide hQ2
  clear hQ hQ2 hv hv'
  obtain ⟨sa, hsa⟩ : ∃ s, s = a.n := ⟨_, rfl⟩
  obtain ⟨sb, hsb⟩ : ∃ s, s = b.n := ⟨_, rfl⟩
  rw [← hsa] at HQ HA h0 ⊢
  rw [← hsb] at HQ2 HB h0 ⊢
  clear hsa hsb
  go_enter Try.func26, Try.ntmps26
  go_wp2_with fail
  refine (HQ.out _ (by simp <;> omega) (HA.out.below (show Below w.heap.size w _ by go_grown) hB)).mono ?_
  rintro e w1 ⟨rfl, hb1⟩
  have hbw1 : Below w.heap.size w w1 := Below.trans (show Below w.heap.size w _ by go_grown) (hb1.mono (by simp <;> omega))
  have bX1 : Blk w1 w.heap.size 25 #[.int .i64 sa, .slice A n c, .slice AF nf cf] := ((((Blk.at_ rfl).alloc _).alloc _).alloc _).below hb1 (by simp <;> omega)
  have bY1 : Blk w1 (w.heap.size + 1) 25 #[.int .i64 sb, .slice A' n' c', .slice AF' nf' cf'] := (((Blk.at_ (by simp)).alloc _).alloc _).below hb1 (by simp <;> omega)
  have bR1 : Blk w1 (w.heap.size + 1 + 1) 25 #[.int .i64 0, .slice none 0 0, .slice none 0 0] := ((Blk.at_ (by simp)).alloc _).below hb1 (by simp <;> omega)
  have bF1 : Blk w1 (w.heap.size + 1 + 1 + 1) 28 #[.int .i64 0, .int .i64 0] := (Blk.at_ (by simp)).below hb1 (by simp)
  clear hb1 HQ
  have y0 := bY1.cell 0
  have y1 := bY1.cell 1
  have y2 := bY1.cell 2
  simp at y0 y1 y2
  have lY := bY1.lt
  go_wp2_with fail
  refine (HQ2.out _ (by have := hbw1.size; simp <;> omega) (HB.out.below (hbw1.alloc hbw1.size _) hB)).mono ?_
  rintro e w2 ⟨rfl, hb2⟩
  have hbw2 := (hbw1.alloc hbw1.size _).trans (hb2.mono (by have := hbw1.size; simp <;> omega))
  have bX2 := (bX1.alloc _).below hb2 (by have := bX1.lt; simp <;> omega)
  have bY2 := (bY1.alloc _).below hb2 (by have := bY1.lt; simp <;> omega)
  have bR2 := (bR1.alloc _).below hb2 (by have := bR1.lt; simp <;> omega)
  have bF2 := (bF1.alloc _).below hb2 (by have := bF1.lt; simp <;> omega)
  clear hb2 HQ2 hbw1 bR1 bF1 bX1 bY1 y0 y1 y2 lY
  have x0 := bX2.cell 0
  have y0 := bY2.cell 0
  simp at x0 y0
  have lX := bX2.lt
  have lY := bY2.lt
  go_upto_region 7 with fail
  have q0 := bR2.cell 0
  have q1 := bR2.cell 1
  have q2 := bR2.cell 2
  have q3 := bF2.cell 0
  have q4 := bF2.cell 1
  have qf := bR2.frozen 0
  have qf1 := bR2.frozen 1
  have qf2 := bR2.frozen 2
  have qf3 := bF2.frozen 0
  have qf4 := bF2.frozen 1
  simp at q0 q1 q2 q3 q4
  have hs3 := bR2.lt
  have hs4 := bF2.lt
  have hs5 := hbw2.size
  clear bX2 bY2 bR2 bF2
  by_cases e0 : sa = 0
  · have tz : (sa == 0) = true := by rw [e0]; rfl
    clear h0 e0
    go_wp2
    exact bodyPost_ret (v := .tuple #[.agg #[.int .i64 0, .slice none 0 0, .slice none 0 0], .agg #[.int .i64 0, .int .i64 0]]) (by simp [results, Try.results26, go_sem, q0, q1, q2, q3, q4, qf, qf1, qf2, qf3, qf4, hs3, hs4]) rfl ⟨rfl, by go_grown⟩
  · have tz : (sa == 0) = false := by simpa using e0
    have e1 : sb = 0 := by omega
    have tz2 : (sb == 0) = true := by rw [e1]; rfl
    clear h0 e0 e1
    go_wp2
    exact bodyPost_ret (v := .tuple #[.agg #[.int .i64 0, .slice none 0 0, .slice none 0 0], .agg #[.int .i64 0, .int .i64 0]]) (by simp [results, Try.results26, go_sem, q0, q1, q2, q3, q4, qf, qf1, qf2, qf3, qf4, hs3, hs4]) rfl ⟨rfl, by go_grown⟩
end Go.Proofs.Ytmgpcnkmmgkjgaa
namespace Gm
set_option linter.unusedSimpArgs false
set_option linter.unusedVariables false
theorem head_zero {l : List Fnl} (hs : l.Pairwise cLt) (hp : ∀ c ∈ l, 0 ≤ c.s ∧ 0 ≤ c.w) (h0 : 0 < l.length) : (⟨0, 0⟩ : Fnl) ∈ l ↔ l.getD 0 dF = ⟨0, 0⟩ := by
  cases l with
  | nil => simp at h0
  | cons c l =>
    constructor
    · intro hm
      rcases List.mem_cons.1 hm with e | e
      · rw [← e]; rfl
      · have h1 := (List.pairwise_cons.1 hs).1 _ e
        have h2 := hp c (by simp)
        unfold cLt at h1
        dsimp only at h1
        omega
    · intro e
      have : c = ⟨0, 0⟩ := e
      rw [← this]; simp
/-- What Compose gives, at two machines that are valid and have states. -/
def CompP (a b : Mach) (f : Int × Int) (m : Mach) : Prop :=
  (200000 < total a b ∧ f = (17, -1) ∧ m = ⟨0, [], []⟩) ∨
  (total a b ≤ 200000 ∧ (⟨0, 0⟩ : Fnl) ∉ keepL a b ∧ f = (0, 0) ∧ m = ⟨0, [], []⟩) ∨
  (total a b ≤ 200000 ∧ (⟨0, 0⟩ : Fnl) ∈ keepL a b ∧ f = szF (cM a b) ∧ m = orE (szF (cM a b)) (cM a b))
end Gm
namespace Go.Proofs.Ytmgpcnkmmgkjgaa
open Go.RowKit Gm Go.Sort Go.Shelf
set_option linter.unusedSimpArgs false
set_option linter.unusedVariables false
set_option maxRecDepth 100000 in
set_option maxHeartbeats 16000000 in
theorem comp_good (va vb : Value) (a b : Mach) (w : World) (B : Nat) (hB : B ≤ w.heap.size) (ha : MachAt w B va a) (hb : MachAt w B vb b) (hv : validate a = (0, 0)) (hv' : validate b = (0, 0)) (hap : 0 < a.n) (hbp : 0 < b.n) :
    Calls Try.prog 26 #[va, vb] w fun e w' => ∃ v' f m, e = .returned (.tuple #[v', .agg #[.int .i64 (Prod.fst f), .int .i64 (Prod.snd f)]]) ∧ MachNew w.heap.size w' v' m ∧ Below w.heap.size w w' ∧ CompP a b f m := by
  have HA := hide ha
  have HB := hide hb
  obtain ⟨A, AF, n, c, nf, cf, rfl, _⟩ := ha
  obtain ⟨A', AF', n', c', nf', cf', rfl, _⟩ := hb
  have hne := fun a b c d W => run_neq_fault a b c d W
  have hf0 : fEq 0 0 0 0 = true := rfl
  have HVA := hide (valid_of hv)
  have HVB := hide (valid_of hv')
  have HEX := hide (fun W (hB : B ≤ W.heap.size) (hA : MachAt W B (.agg #[.int .i64 a.n, .slice A n c, .slice AF nf cf]) a) (hB' : MachAt W B (.agg #[.int .i64 b.n, .slice A' n' c', .slice AF' nf' cf']) b) => explore_any _ _ a b W B hB hA hB' HVA.out HVB.out hap hbp)
  have hQ := fun W (hB : B ≤ W.heap.size) (h : MachAt W B (.agg #[.int .i64 a.n, .slice A n c, .slice AF nf cf]) a) => validate_any _ a W B hB h
  have hQ2 := fun W (hB : B ≤ W.heap.size) (h : MachAt W B (.agg #[.int .i64 b.n, .slice A' n' c', .slice AF' nf' cf']) b) => validate_any _ b W B hB h
  rw [hv] at hQ
  rw [hv'] at hQ2
  have HQ := hide hQ
  have HQ2 := hide hQ2
  have tz1 : (a.n == 0) = false := by simp; omega
  have tz2 : (b.n == 0) = false := by simp; omega
  clear hQ hQ2 hv hv'
  go_enter Try.func26, Try.ntmps26
  go_wp2_with fail
  refine (HQ.out _ (by simp <;> omega) (HA.out.below (show Below w.heap.size w _ by go_grown) hB)).mono ?_
  rintro e w1 ⟨rfl, hb1⟩
  have hbw1 : Below w.heap.size w w1 := Below.trans (show Below w.heap.size w _ by go_grown) (hb1.mono (by simp <;> omega))
  have bX1 : Blk w1 w.heap.size 25 #[.int .i64 a.n, .slice A n c, .slice AF nf cf] := ((((Blk.at_ rfl).alloc _).alloc _).alloc _).below hb1 (by simp <;> omega)
  have bY1 : Blk w1 (w.heap.size + 1) 25 #[.int .i64 b.n, .slice A' n' c', .slice AF' nf' cf'] := (((Blk.at_ (by simp)).alloc _).alloc _).below hb1 (by simp <;> omega)
  have bR1 : Blk w1 (w.heap.size + 1 + 1) 25 #[.int .i64 0, .slice none 0 0, .slice none 0 0] := ((Blk.at_ (by simp)).alloc _).below hb1 (by simp <;> omega)
  have bF1 : Blk w1 (w.heap.size + 1 + 1 + 1) 28 #[.int .i64 0, .int .i64 0] := (Blk.at_ (by simp)).below hb1 (by simp)
  clear hb1 HQ
  have y0 := bY1.cell 0
  have y1 := bY1.cell 1
  have y2 := bY1.cell 2
  simp at y0 y1 y2
  have lY := bY1.lt
  go_wp2_with fail
  refine (HQ2.out _ (by have := hbw1.size; simp <;> omega) (HB.out.below (hbw1.alloc hbw1.size _) hB)).mono ?_
  rintro e w2 ⟨rfl, hb2⟩
  have hbw2 := (hbw1.alloc hbw1.size _).trans (hb2.mono (by have := hbw1.size; simp <;> omega))
  have bX2 := (bX1.alloc _).below hb2 (by have := bX1.lt; simp <;> omega)
  have bY2 := (bY1.alloc _).below hb2 (by have := bY1.lt; simp <;> omega)
  have bR2 := (bR1.alloc _).below hb2 (by have := bR1.lt; simp <;> omega)
  have bF2 := (bF1.alloc _).below hb2 (by have := bF1.lt; simp <;> omega)
  clear hb2 HQ2 hbw1 bR1 bF1 bX1 bY1 y0 y1 y2 lY
  have x0 := bX2.cell 0
  have y0 := bY2.cell 0
  simp at x0 y0
  have lX := bX2.lt
  have lY := bY2.lt
  go_upto_region 9 with fail
  generalize hW2 : World.alloc _ _ = W2
  have HBW := hide (show Below w.heap.size w W2 by rw [← hW2]; exact hbw2.alloc hbw2.size _)
  have bX := (by rw [← hW2]; exact bX2.alloc _ : Blk W2 w.heap.size 25 #[.int .i64 a.n, .slice A n c, .slice AF nf cf])
  have bY := (by rw [← hW2]; exact bY2.alloc _ : Blk W2 (w.heap.size + 1) 25 #[.int .i64 b.n, .slice A' n' c', .slice AF' nf' cf'])
  have bR := (by rw [← hW2]; exact bR2.alloc _ : Blk W2 (w.heap.size + 1 + 1) 25 #[.int .i64 0, .slice none 0 0, .slice none 0 0])
  have bF := (by rw [← hW2]; exact bF2.alloc _ : Blk W2 (w.heap.size + 1 + 1 + 1) 28 #[.int .i64 0, .int .i64 0])
  clear x0 y0 lX lY hW2 bX2 bY2 bR2 bF2 hbw2
  have x0 := bX.cell 0
  have x1 := bX.cell 1
  have x2 := bX.cell 2
  simp at x0 x1 x2
  have xl := bX.lt
  have y0 := bY.cell 0
  have y1 := bY.cell 1
  have y2 := bY.cell 2
  simp at y0 y1 y2
  have yl := bY.lt
  have hw2F := bF.lt
  go_wp2_with fail
  refine (HEX.out _ (by have := HBW.out.size; omega) (HA.out.below HBW.out hB) (HB.out.below HBW.out hB)).mono ?_
  rintro e w3 ⟨Mb, Fb, ok, rfl, hb3, hE⟩
  have HR3 := hide (bR.below hb3 bR.lt)
  have HF3 := hide (bF.below hb3 bF.lt)
  have HBW3 := hide (HBW.out.trans (hb3.mono HBW.out.size))
  have hw3F : w.heap.size + 1 + 1 + 1 < w3.heap.size := by have := hb3.size; omega
  clear x0 x1 x2 xl y0 y1 y2 yl bX bY bR bF hb3 HBW HEX HA HB hw2F tz1 tz2
  cases ok with
  | false =>
    have ht : 200000 < total a b := by
      have := hE.2.2.2
      simp at this
      omega
    have HT := hide ht
    clear ht hE
    go_upto_region 11 with fail
    generalize hW4 : World.alloc _ _ = W4
    have hb4 : Below w3.heap.size w3 W4 := by rw [← hW4]; exact (Below.refl _ _).alloc (Nat.le_refl _) _
    have HR4 := hide (HR3.out.below hb4 HR3.out.lt)
    have HF4 := hide (HF3.out.below hb4 HF3.out.lt)
    have HBW4 := hide (HBW3.out.trans (hb4.mono HBW3.out.size))
    clear hW4 hb4 HR3 HF3 HBW3
    go_wp2_with fail
    refine (cofault_any 17 (-1) _).mono ?_
    rintro e wz ⟨rfl, hbz⟩
    have bRz := HR4.out.below hbz HR4.out.lt
    have bFz := HF4.out.below hbz HF4.out.lt
    have HBZ := hide (HBW4.out.trans (hbz.mono HBW4.out.size))
    clear hbz
    have q0 := bRz.cell 0
    have q1 := bRz.cell 1
    have q2 := bRz.cell 2
    have q3 := bFz.cell 0
    have q4 := bFz.cell 1
    have qf := bRz.frozen 0
    have qf1 := bRz.frozen 1
    have qf2 := bRz.frozen 2
    have qf3 := bFz.frozen 0
    have qf4 := bFz.frozen 1
    simp at q0 q1 q2 q3 q4
    have hs3 := bRz.lt
    have hs4 := bFz.lt
    clear bRz bFz
    go_wp21
    refine bodyPost_ret (v := .tuple #[.agg #[.int .i64 0, .slice none 0 0, .slice none 0 0], .agg #[.int .i64 17, .int .i64 (-1)]]) (by simp [results, Try.results26, go_sem, q0, q1, q2, q3, q4, qf, qf1, qf2, qf3, qf4, hs3, hs4]) rfl ⟨_, (17, -1), ⟨0, [], []⟩, rfl, MachNew.empty _ _, ?_, .inl ⟨HT.out, rfl, rfl⟩⟩
    refine Below.setCell (Below.setCell (Below.setCell (Below.setCell (Below.setCell HBZ.out ?_ _) ?_ _) ?_ _) ?_ _) ?_ _ <;> (dsimp only; omega)
  | true =>
    have HE3 := hide hE
    clear hE
    go_upto_region 12 with fail
    generalize hW4 : World.alloc _ _ = W4
    obtain ⟨Pb, hPb⟩ : ∃ z, z = w3.heap.size := ⟨_, rfl⟩
    have hb4 : Below w3.heap.size w3 W4 := by rw [← hW4]; exact (Below.refl _ _).alloc (Nat.le_refl _) _
    have bP4 : Blk W4 Pb 59 #[.map (some Mb), .map (some Fb)] := by rw [← hW4, hPb]; exact Blk.at_ rfl
    have HE4 := hide (expP_below HE3.out hb4)
    have HR4 := hide (HR3.out.below hb4 HR3.out.lt)
    have HF4 := hide (HF3.out.below hb4 HF3.out.lt)
    have HBW4 := hide (HBW3.out.trans (hb4.mono HBW3.out.size))
    have hPw : w.heap.size + 1 + 1 + 1 < Pb := by omega
    have p0 : W4.cell? ⟨Pb, 0, none⟩ = some (.map (some Mb)) := bP4.cell 0
    have p1 : W4.cell? ⟨Pb, 1, none⟩ = some (.map (some Fb)) := bP4.cell 1
    have pl := bP4.lt
    simp only [← hPb]
    clear hW4 hPb hb4 HE3 HR3 HF3 HBW3 hw3F
    go_wp2_with fail
    refine (useful_any Mb Fb _ a b W4 HVA.out HVB.out HE4.out).mono ?_
    rintro e w5 ⟨AU, cU, rfl, hU, hb5⟩
    have hE5 := expP_below HE4.out hb5
    have ht := hE5.2.2.2.1 rfl
    obtain ⟨L, hM, hK, hST, hF⟩ := hE5.2.2.1 rfl
    rw [finL_of hK] at hF
    obtain ⟨l, hl⟩ : ∃ z, z = keepL a b := ⟨_, rfl⟩
    have HL := hide hl
    rw [← hl] at hU
    obtain ⟨n5, hn5⟩ : ∃ z, z = l.length := ⟨_, rfl⟩
    rw [← hl, ← hn5]
    rw [← hn5] at hU
    have HN5 := hide hn5
    have HTT := hide ht
    have HLS := hide (show l.Pairwise cLt by rw [hl]; exact keepL_sorted a b)
    have HLN := hide (cLt_nodup HLS.out)
    have HLK := hide (show ∀ c ∈ l, KeepC a b c from fun c hc => mem_keepL.1 (by rw [← hl]; exact hc))
    have HLI := hide (show ∀ c ∈ l, inC a b c from fun c hc => (mem_reachL.1 (HLK.out c hc).1).1)
    have HLOK := hide (show ∀ c ∈ l, okC c from fun c hc => by
      have h1 := HLI.out c hc
      have h4 := HVA.out.n4
      have h4' := HVB.out.n4
      unfold inC at h1
      unfold okC; omega)
    have HU := hide hU
    have HMb := hide hM
    have HST := hide hST
    have HFb := hide hF
    have HRDU := hide (Rd.of_own hU (f := finCell l) (by rw [hn5]; exact finRow_at _))
    have HP5 := hide (bP4.below hb5 pl)
    have HR5 := hide (HR4.out.below hb5 HR4.out.lt)
    have HF5 := hide (HF4.out.below hb5 HF4.out.lt)
    have HBW5 := hide (HBW4.out.trans (hb5.mono HBW4.out.size))
    have hz5 : Pb < w5.heap.size := by have := hb5.size; omega
    clear hE5 ht hK hM hST hF hl hn5 hU hb5 bP4 p0 p1 pl HE4 HR4 HF4 HBW4
    by_cases h0 : n5 = 0
    · have HNO := hide (show (⟨0, 0⟩ : Fnl) ∉ keepL a b from fun hm => by
        rw [← HL.out] at hm
        have h1 := HN5.out
        rw [h0] at h1
        have := List.eq_nil_of_length_eq_zero h1.symm
        rw [this] at hm; cases hm)
      have tn : ((n5 : Int) == 0) = true := by simp [h0]
      clear h0
      have bRz := HR5.out
      have bFz := HF5.out
      have HBZ := hide HBW5.out
      have q0 := bRz.cell 0
      have q1 := bRz.cell 1
      have q2 := bRz.cell 2
      have q3 := bFz.cell 0
      have q4 := bFz.cell 1
      have qf := bRz.frozen 0
      have qf1 := bRz.frozen 1
      have qf2 := bRz.frozen 2
      have qf3 := bFz.frozen 0
      have qf4 := bFz.frozen 1
      simp at q0 q1 q2 q3 q4
      have hs3 := bRz.lt
      have hs4 := bFz.lt
      clear bRz bFz
      go_wp21
      refine bodyPost_ret (v := .tuple #[.agg #[.int .i64 0, .slice none 0 0, .slice none 0 0], .agg #[.int .i64 0, .int .i64 (0)]]) (by simp [results, Try.results26, go_sem, q0, q1, q2, q3, q4, qf, qf1, qf2, qf3, qf4, hs3, hs4]) rfl ⟨_, (0, 0), ⟨0, [], []⟩, rfl, MachNew.empty _ _, ?_, .inr (.inl ⟨HTT.out, HNO.out, rfl, rfl⟩)⟩
      refine Below.setCell (Below.setCell (Below.setCell (Below.setCell (Below.setCell HBZ.out ?_ _) ?_ _) ?_ _) ?_ _) ?_ _ <;> (dsimp only; omega)
    · have tn : ((n5 : Int) == 0) = false := by simp [h0]
      have hn1 : 0 < n5 := by omega
      obtain ⟨blk, off, c0, rfl, hbB, d0, d1, HX⟩ := fins_at HRDU.out hn1
      have hcell0 : w5.cell? ⟨blk, off, none⟩ = some (.int .i64 c0.s) := by simpa using d0
      have hcell1 : w5.cell? ⟨blk, off + 1, none⟩ = some (.int .i64 c0.w) := by simpa using d1
      have HHZ := hide (head_zero HLS.out (fun c hc => ⟨(HLI.out c hc).1, (HLI.out c hc).2.2.1⟩) (by rw [← HN5.out]; exact hn1))
      have hneq := fun W => run_neq_cpl c0.s c0.w W
      have i0 : (0 : Int) < (n5 : Int) := by omega
      clear d0 d1 h0
      cases hz0 : fEq c0.s c0.w 0 0 with
      | false =>
        have HNO := hide (show (⟨0, 0⟩ : Fnl) ∉ keepL a b from fun hm => by
          rw [← HL.out] at hm
          have := HHZ.out.1 hm
          rw [HX.out] at this
          rw [this] at hz0
          simp [fEq] at hz0)
        rw [hz0] at hneq
        clear hz0
        have bRz := HR5.out
        have bFz := HF5.out
        have HBZ := hide HBW5.out
        have q0 := bRz.cell 0
        have q1 := bRz.cell 1
        have q2 := bRz.cell 2
        have q3 := bFz.cell 0
        have q4 := bFz.cell 1
        have qf := bRz.frozen 0
        have qf1 := bRz.frozen 1
        have qf2 := bRz.frozen 2
        have qf3 := bFz.frozen 0
        have qf4 := bFz.frozen 1
        simp at q0 q1 q2 q3 q4
        have hs3 := bRz.lt
        have hs4 := bFz.lt
        clear bRz bFz
        go_wp21
        refine bodyPost_ret (v := .tuple #[.agg #[.int .i64 0, .slice none 0 0, .slice none 0 0], .agg #[.int .i64 0, .int .i64 (0)]]) (by simp [results, Try.results26, go_sem, q0, q1, q2, q3, q4, qf, qf1, qf2, qf3, qf4, hs3, hs4]) rfl ⟨_, (0, 0), ⟨0, [], []⟩, rfl, MachNew.empty _ _, ?_, .inr (.inl ⟨HTT.out, HNO.out, rfl, rfl⟩)⟩
        refine Below.setCell (Below.setCell (Below.setCell (Below.setCell (Below.setCell HBZ.out ?_ _) ?_ _) ?_ _) ?_ _) ?_ _ <;> (dsimp only; omega)
      | true =>
        have HYES := hide (show (⟨0, 0⟩ : Fnl) ∈ keepL a b from by
          rw [← HL.out]
          refine HHZ.out.2 ?_
          rw [HX.out]
          unfold fEq at hz0
          simp at hz0
          exact Fnl.ext' hz0.1 hz0.2)
        rw [hz0] at hneq
        clear hz0 HHZ
        go_upto_region 15 with fail
        clear hneq hcell0 hcell1 i0 HX
        by_cases h4 : 400 < n5
        · have tg : decide ((n5 : Int) > 400) = true := decide_eq_true (by omega)
          have tg' : decide ((400 : Int) < n5) = true := decide_eq_true (by omega)
          have HSZ := hide (show szF (cM a b) = (17, -1) by unfold szF; rw [if_pos (.inl (by unfold cM; dsimp only; rw [← HL.out, ← HN5.out]; omega))])
          clear h4
          go_wp2_with fail
          refine (cofault_any 17 (-1) _).mono ?_
          rintro e wz ⟨rfl, hbz⟩
          have bRz := HR5.out.below hbz HR5.out.lt
          have bFz := HF5.out.below hbz HF5.out.lt
          have HBZ := hide (HBW5.out.trans (hbz.mono HBW5.out.size))
          clear hbz
          have q0 := bRz.cell 0
          have q1 := bRz.cell 1
          have q2 := bRz.cell 2
          have q3 := bFz.cell 0
          have q4 := bFz.cell 1
          have qf := bRz.frozen 0
          have qf1 := bRz.frozen 1
          have qf2 := bRz.frozen 2
          have qf3 := bFz.frozen 0
          have qf4 := bFz.frozen 1
          simp at q0 q1 q2 q3 q4
          have hs3 := bRz.lt
          have hs4 := bFz.lt
          clear bRz bFz
          go_wp21
          refine bodyPost_ret (v := .tuple #[.agg #[.int .i64 0, .slice none 0 0, .slice none 0 0], .agg #[.int .i64 17, .int .i64 (-1)]]) (by simp [results, Try.results26, go_sem, q0, q1, q2, q3, q4, qf, qf1, qf2, qf3, qf4, hs3, hs4]) rfl ⟨_, (17, -1), ⟨0, [], []⟩, rfl, MachNew.empty _ _, ?_, .inr (.inr ⟨HTT.out, HYES.out, HSZ.out.symm, by rw [HSZ.out]; rfl⟩)⟩
          refine Below.setCell (Below.setCell (Below.setCell (Below.setCell (Below.setCell HBZ.out ?_ _) ?_ _) ?_ _) ?_ _) ?_ _ <;> (dsimp only; omega)
        · have tg : decide ((n5 : Int) > 400) = false := decide_eq_false (by omega)
          have tg' : decide ((400 : Int) < n5) = false := decide_eq_false (by omega)
          have hn4 : n5 ≤ 400 := by omega
          clear h4
          have hmm := @run_makeMap Try.prog
          go_upto_region 18 with fail
          clear hmm
          generalize hV1 : World.alloc _ _ = V1
          obtain ⟨Nb, hNb⟩ : ∃ z, z = w5.heap.size := ⟨_, rfl⟩
          have hbV : Below w5.heap.size w5 V1 := by rw [← hV1]; exact (Below.refl _ _).alloc (Nat.le_refl _) _
          have HM1 := hide (show MapIs V1 cplV okC Nb [] by rw [← hV1, hNb]; exact MapIs.made w5 cplV okC)
          have hV1z : Nb < V1.heap.size := HM1.out.lt
          have HV1 := hide (show Below Nb w5 V1 by rw [hNb]; exact hbV)
          have hNw : w5.heap.size ≤ Nb := by omega
          have hNw' : Nb ≤ w5.heap.size := by omega
          have HNR0 := hide (show NumR [] l 0 from fun c => by simp)
          simp only [← hNb]
          clear hV1 hbV hNb
          go_wp2
          go_loopw [83] (fun iv wr => ∃ (i : Nat) (NL : List (Fnl × Value)), i ≤ n5 ∧ iv = .int .i64 i ∧ Hid (MapIs wr cplV okC Nb NL) ∧ Hid (NumR NL l i) ∧ Hid (Below Nb w5 wr) ∧ Nb < wr.heap.size) (fun iv _ => n5 - (intOf iv).toNat)
          case atStart => exact ⟨0, [], by omega, rfl, HM1, HNR0, HV1, hV1z⟩
          case round =>
            clear HM1 HNR0 HV1 hV1z
            obtain ⟨i, NL, hi, rfl, HMN, HNR, HBN, hz⟩ := hrel
            by_cases hin : i < n5
            · obtain ⟨blk1, off1, cc, e1, hbB1, d0, d1, HX⟩ := fins_at (HRDU.out.below HBN.out hNw) hin
              injection e1 with e1
              injection e1 with e1 e2
              subst e1
              subst e2
              have lb : blk < wr.heap.size := by omega
              have hil : i < l.length := by rw [← HN5.out]; exact hin
              have HOK := hide (HLOK.out cc (getDF_mem hil HX.out))
              have HNR2 := hide (HNR.out.step HLN.out hil HX.out)
              obtain ⟨cs, cw⟩ := cc
              clear hil HX
              go_wp2_with (at_mapUpdate; refine wpList_mapup rfl _ _ _ 57 rfl kl_cpl Try.underlying57 rfl (HMN.out.alloc _) ⟨cs, cw⟩ rfl HOK.out (.int .i64 i) rfl ?_; intro w7 hm7 hg7 hz7)
              have HM7 := hide hm7
              have HG7 := hide hg7
              have lz7 : Nb < w7.heap.size := by rw [hz7]; simp; omega
              clear hm7 hg7 hz7
              go_roundw
              case rel => exact ⟨i + 1, _, by omega, by go_num, HM7, HNR2, hide ((HBN.out.alloc (by omega) _).grown HG7.out (by simp <;> omega) (fun q hq => by have := Option.some.inj hq; omega)), lz7⟩
              case measure => simp [intOf]; omega
            · obtain rfl : n5 = i := by omega
              obtain ⟨wN, rfl⟩ : ∃ W : World, W = wr := ⟨_, rfl⟩
              have HP6 := hide (HP5.out.below HBN.out (by omega))
              have HR6 := hide (HR5.out.below HBN.out (by have := HR5.out.lt; omega))
              have HF6 := hide (HF5.out.below HBN.out (by have := HF5.out.lt; omega))
              have HBW6 := hide (HBW5.out.trans (HBN.out.mono (by have := HBW5.out.size; omega)))
              have HMb6 := hide (HMb.out.below HBN.out (by have := HMb.out.lt; omega))
              have HFb6 := hide (HFb.out.below HBN.out (by have := HFb.out.lt; omega))
              have HST6 := hide (show ∀ c ∈ reachL a b, ∃ A m cp, lk L c = some (.slice A m cp) ∧ m = (stepsOf a b c).length ∧ Rd wN w5.heap.size 5 A m (arcCell (stepsOf a b c)) from fun c hc => by
                obtain ⟨A, m, cp, e1, e2, e3⟩ := HST.out c hc
                exact ⟨A, m, cp, e1, e2, (Rd.of_own e3 (f := arcCell (stepsOf a b c)) (by rw [e2]; exact arcRow_at _)).below HBN.out hNw⟩)
              have HRD6 := hide (HRDU.out.below HBN.out hNw)
              have hz6 : Pb < wN.heap.size := by omega
              clear HP5 HR5 HF5 HBW5 HMb HFb HST HRDU HBN hz
              go_upto_region 24 with fail
              generalize hV2 : World.alloc _ _ = V2
              obtain ⟨O, hO⟩ : ∃ z, z = wN.heap.size := ⟨_, rfl⟩
              have hbV : Below wN.heap.size wN V2 := by rw [← hV2]; exact (Below.refl _ _).alloc (Nat.le_refl _) _
              have hmq : Mq V2 O O n5 0 [] 0 [] := ⟨none, 0, none, 0, by rw [← hV2, hO]; exact Blk.at_ rfl, World.ownsRow_nil _ _ _ _, World.ownsRow_nil _ _ _ _⟩
              have HMQ := hide hmq
              have hOz : O + 1 ≤ V2.heap.size := by rw [← hV2, hO]; simp
              have hON : Nb < O := by have := HMN.out.lt; omega
              have hbO : blk < O := by omega
              have hPO : Pb < O := by omega
              have HP := hide (HP6.out.below hbV (by omega))
              have HR := hide (HR6.out.below hbV HR6.out.lt)
              have HFF := hide (HF6.out.below hbV HF6.out.lt)
              have HBW := hide (HBW6.out.trans (hbV.mono (by have := HBW6.out.size; omega)))
              have HMb := hide (HMb6.out.below hbV HMb6.out.lt)
              have HFb := hide (HFb6.out.below hbV HFb6.out.lt)
              have hMbO : Mb < O := by have := HMb6.out.lt; omega
              have hFbO : Fb < O := by have := HFb6.out.lt; omega
              have hw5O : w5.heap.size ≤ O := by have := HMN.out.lt; omega
              have HST := hide (show ∀ c ∈ reachL a b, ∃ A m cp, lk L c = some (.slice A m cp) ∧ m = (stepsOf a b c).length ∧ Rd V2 w5.heap.size 5 A m (arcCell (stepsOf a b c)) from fun c hc => by
                obtain ⟨A, m, cp, e1, e2, e3⟩ := HST6.out c hc
                exact ⟨A, m, cp, e1, e2, e3.below hbV (by omega)⟩)
              have HRDU := hide (HRD6.out.below hbV (by omega))
              have HMN2 := hide (HMN.out.below hbV HMN.out.lt)
              have HRO := hide (show w.heap.size + 1 + 1 < O by have := HR6.out.lt; omega)
              have HFO := hide (show w.heap.size + 1 + 1 + 1 < O by have := HF6.out.lt; omega)
              have HwO := hide (show w.heap.size ≤ O by have := HBW6.out.size; omega)
              have hV2O : V2.heap.size ≤ O + 1 := by rw [← hV2, hO]; simp
              simp only [← hO]
              clear hV2 hO hbV hmq HP6 HR6 HF6 HBW6 HMb6 HFb6 HST6 HRD6 HMN hNw hNw' hz6
              obtain ⟨ia, ha0, ha1, ha2, ha3⟩ := info_parts arc_info
              obtain ⟨iF, hF0, hF1, hF2, hF3⟩ := info_parts fin_info
              go_wp2
              go_loopw [97] (fun iv wr => ∃ (i q r : Nat), i ≤ n5 ∧ iv = .int .i64 i ∧ Hid (q = (cAs a b l i).length) ∧ Hid (r = (cFs (finL a b) l i).length) ∧ Hid (Mq wr O O n5 q (cAs a b l i) r (cFs (finL a b) l i)) ∧ Hid (Below O V2 wr) ∧ O + 1 ≤ wr.heap.size) (fun iv _ => n5 - (intOf iv).toNat)
              case atStart => exact ⟨0, 0, 0, by omega, rfl, hide rfl, hide rfl, HMQ, hide (Below.refl _ _), hOz⟩
              case round =>
                clear HMQ hOz
                obtain ⟨i, q, r, hi, rfl, HQ, HQR, HMQ, HBK, hz⟩ := hrel
                by_cases hin : i < n5
                · obtain ⟨blk1, off1, cc, e1, hbB1, d0, d1, HX⟩ := fins_at (HRDU.out.below HBK.out hw5O) hin
                  injection e1 with e1
                  injection e1 with e1 e2
                  subst e1
                  subst e2
                  have lb : blk < wr.heap.size := by omega
                  have hil : i < l.length := by rw [← HN5.out]; exact hin
                  have hcc := getDF_mem hil HX.out
                  have HOK := hide (HLOK.out cc hcc)
                  have hrc := (HLK.out cc hcc).1
                  obtain ⟨AS, m, cS, e1, e2, e3⟩ := HST.out cc hrc
                  have HLK1 := hide (show (lk L cc).getD (.slice none 0 0) = .slice AS m cS by rw [e1]; rfl)
                  have HM := hide e2
                  have HRS := hide e3
                  have hroom := cAs_room HLN.out (fun c hc => (HLK.out c hc).1) hil HX.out
                  rw [← HQ.out, ← e2] at hroom
                  have htt := HTT.out
                  have hqm : q + m ≤ 200000 := by omega
                  have hinC := (mem_reachL.1 hrc).1
                  have HIC := hide hinC
                  have hrle : r ≤ n5 := by have h1 := HQR.out; have h2 := cFs_len (finL a b) l i; omega
                  obtain ⟨cs, cw⟩ := cc
                  clear hil hcc hrc e1 e2 e3 hroom htt hinC
                  go_upto_region 27 with fail
                  clear d0 d1
                  generalize hV3 : World.alloc _ _ = V3
                  obtain ⟨X6, hX6⟩ : ∃ z, z = wr.heap.size := ⟨_, rfl⟩
                  have hb3 : Below wr.heap.size wr V3 := by rw [← hV3]; exact (Below.refl _ _).alloc (Nat.le_refl _) _
                  have bX6 : Blk V3 X6 65 #[.int .i64 cs, .int .i64 cw] := by rw [← hV3, hX6]; exact Blk.at_ rfl
                  have HX6 := hide bX6
                  have HBK3 := hide (HBK.out.trans (hb3.mono (by omega)))
                  have hMQ3 : Mq V3 O O n5 q (cAs a b l i) r (cFs (finL a b) l i) := by
                    obtain ⟨A5, c5, AF5, cf5, bO5, hown5, hfin5⟩ := HMQ.out
                    exact ⟨A5, c5, AF5, cf5, bO5.below hb3 bO5.lt, own_below' hown5 hb3, own_below' hfin5 hb3⟩
                  have HMQ3 := hide hMQ3
                  have hz3 : O + 1 ≤ V3.heap.size := by have := hb3.size; omega
                  have hX6O : O < X6 := by omega
                  have x60 : V3.cell? ⟨X6, 0, none⟩ = some (.int .i64 cs) := bX6.cell 0
                  have x61 : V3.cell? ⟨X6, 1, none⟩ = some (.int .i64 cw) := bX6.cell 1
                  have x6l := bX6.lt
                  have p0 : V3.cell? ⟨Pb, 0, none⟩ = some (.map (some Mb)) := (HP.out.below HBK3.out hPO).cell 0
                  have pl : Pb < V3.heap.size := by omega
                  have HMb3 := hide (HMb.out.below HBK3.out hMbO)
                  have HMQ0 := hide (show Mq V3 O O n5 q (cAs a b l i ++ cA l i ((stepsOf a b ⟨cs, cw⟩).take 0)) r (cFs (finL a b) l i) by rw [show cAs a b l i ++ cA l i ((stepsOf a b ⟨cs, cw⟩).take 0) = cAs a b l i by simp [cA]]; exact HMQ3.out)
                  have HQ0 := hide (show q = (cAs a b l i ++ cA l i ((stepsOf a b ⟨cs, cw⟩).take 0)).length by rw [show cAs a b l i ++ cA l i ((stepsOf a b ⟨cs, cw⟩).take 0) = cAs a b l i by simp [cA]]; exact HQ.out)
                  simp only [← hX6]
                  clear hV3 hX6 hb3 bX6 hMQ3 HMQ3 HMQ HBK hz
                  go_wp2_with (at_lookup; refine wpList_look_one rfl _ _ 56 rfl kl_cpl Try.underlying56 zero_steps rfl HMb3.out ⟨cs, cw⟩ rfl HOK.out _ HLK1.out ?_)
                  clear x60 x61 x6l p0 pl HMb3
                  go_loopw [107] (fun jv wr => ∃ (j q2 : Nat), j ≤ m ∧ jv = .int .i64 j ∧ Hid (q2 = (cAs a b l i ++ cA l i ((stepsOf a b ⟨cs, cw⟩).take j)).length) ∧ Hid (Mq wr O O n5 q2 (cAs a b l i ++ cA l i ((stepsOf a b ⟨cs, cw⟩).take j)) r (cFs (finL a b) l i)) ∧ Hid (Below O V2 wr) ∧ O + 1 ≤ wr.heap.size ∧ Hid (Blk wr X6 65 #[.int .i64 cs, .int .i64 cw])) (fun jv _ => m - (intOf jv).toNat)
                  case atStart => exact ⟨0, q, by omega, rfl, HQ0, HMQ0, HBK3, hz3, HX6⟩
                  case round =>
                    clear HMQ0 HQ0 HBK3 hz3 HX6
                    obtain ⟨j, q2, hj, rfl, HQ2, HMQ, HBK, hz, HX6⟩ := hrel
                    by_cases hjm : j < m
                    --%d
                    · obtain ⟨blk2, off2, st, rfl, hbB2, c0, c1, c2, c3, c4, HS⟩ := arcs_at (HRS.out.below HBK.out hw5O) hjm
                      have hjl : j < (stepsOf a b ⟨cs, cw⟩).length := by rw [← HM.out]; exact hjm
                      have hq2 : q2 ≤ 200000 := by
                        have h1 := HQ2.out
                        have h2 := cA_len l i ((stepsOf a b ⟨cs, cw⟩).take j)
                        rw [List.length_append, ← HQ.out] at h1
                        rw [List.length_take] at h2
                        omega
                      have hmem : st ∈ stepsOf a b ⟨cs, cw⟩ := getD_mem hjl HS.out
                      obtain ⟨s0, s1, s2, s3⟩ := step_in (rng_valid HVA.out) (rng_valid HVB.out) HIC.out hmem
                      have HOK2 := hide (show okC (toC st) from by
                        have h4 := HVA.out.n4
                        have h4' := HVB.out.n4
                        unfold okC; unfold toC at *; dsimp only at *; omega)
                      have lb2 : blk2 < wr.heap.size := by omega
                      clear hmem s0 s1 s2 s3
                      go_upto_region 30 with fail
                      clear c0 c1 c2 c3 c4
                      generalize hV5 : World.alloc _ _ = V5
                      obtain ⟨X8, hX8⟩ : ∃ z, z = wr.heap.size := ⟨_, rfl⟩
                      have hb5' : Below wr.heap.size wr V5 := by rw [← hV5]; exact (Below.refl _ _).alloc (Nat.le_refl _) _
                      have bX8 : Blk V5 X8 68 #[.int .i64 st.f, .int .i64 st.t, .int .i64 st.i, .int .i64 st.o, .int .i64 st.w] := by rw [← hV5, hX8]; exact Blk.at_ rfl
                      have HBK5 := hide (HBK.out.trans (hb5'.mono (by omega)))
                      obtain ⟨A5, c5, AF5, cf5, bO5, hown5, hfin5⟩ := HMQ.out
                      have bO6 := bO5.below hb5' bO5.lt
                      have HBO := hide bO6
                      have HOWN := hide (own_below' hown5 hb5')
                      have HFIN := hide (own_below' hfin5 hb5')
                      have hneO : (Value.slice A5 q2 c5).ownBlock ≠ some O := own_blk_ne hown5 bO5 (by decide)
                      have HLOW := hide (show ∀ z, (Value.slice A5 q2 c5).ownBlock = some z → O ≤ z from fun z hz => (hown5.lt z hz).1)
                      have HNX6 := hide (own_blk_ne hown5 HX6.out (by decide))
                      have HX65 := hide (HX6.out.below hb5' HX6.out.lt)
                      have hz5 : O + 1 ≤ V5.heap.size := by have := hb5'.size; omega
                      have s0 : V5.cell? ⟨X8, 0, none⟩ = some (.int .i64 st.f) := bX8.cell 0
                      have s1 : V5.cell? ⟨X8, 1, none⟩ = some (.int .i64 st.t) := bX8.cell 1
                      have s2 : V5.cell? ⟨X8, 2, none⟩ = some (.int .i64 st.i) := bX8.cell 2
                      have s3 : V5.cell? ⟨X8, 3, none⟩ = some (.int .i64 st.o) := bX8.cell 3
                      have s4 : V5.cell? ⟨X8, 4, none⟩ = some (.int .i64 st.w) := bX8.cell 4
                      have sl := bX8.lt
                      have o1 := bO6.cell 1
                      have of1 := bO6.frozen 1
                      simp at o1
                      have lO := bO6.lt
                      have HMN5 := hide (HMN2.out.below HBK5.out hON)
                      have HNRA := hide (show ∀ c, lk NL c = if c ∈ l then some (.int .i64 (l.idxOf c : Int)) else none from fun c => by have h := HNR.out c; rw [List.take_of_length_le (by rw [← HN5.out]; exact Nat.le_refl _)] at h; exact h)
                      simp only [← hX8]
                      clear hV5 hX8 hb5' bX8 bO5 bO6 hown5 hfin5 HMQ HBK HX6 hz
                      by_cases hk : toC st ∈ l
                      · obtain ⟨kx, hkx⟩ : ∃ z, z = l.idxOf (toC st) := ⟨_, rfl⟩
                        have HLY := hide (show lk NL (toC st) = some (.int .i64 (kx : Int)) by rw [HNRA.out, if_pos hk, hkx])
                        have HNX := hide (show cAs a b l i ++ cA l i ((stepsOf a b ⟨cs, cw⟩).take (j + 1)) = (cAs a b l i ++ cA l i ((stepsOf a b ⟨cs, cw⟩).take j)) ++ [⟨(i : Int), (kx : Int), st.i, st.o, st.w⟩] by rw [cA_yes hjl HS.out hk, hkx, List.append_assoc])
                        clear hk hkx
                        go_wp2_with (first
                          | (at_lookup; refine wpList_look_yes rfl _ _ 57 rfl kl_cpl Try.underlying57 zero_int' rfl HMN5.out (toC st) rfl HOK2.out _ HLY.out ?_)
                          | (at_builtin; refine wpList_append_own _ rfl (.tmp 120) (.tmp 130) 22 rfl O 45 ia _ 5 40 Try.underlying22 ha0 ha1 ha2 ha3 rfl (by omega) (.slice A5 q2 c5) q2 _ rfl (HOWN.out.alloc _) ⟨V5.heap.size, 0, none⟩ 1 1 (arcRow [⟨(i : Int), (kx : Int), st.i, st.o, st.w⟩]) rfl (by rfl) (World.news_of_block (cs := (arcRow [⟨(i : Int), (kx : Int), st.i, st.o, st.w⟩]).toArray) (t := 45) (fr := (0, 0)) (Blk.at_ rfl)) (arcRow_one _) (by simp only [maxLen]; omega) (by omega) (by simp <;> omega) ?_; intro v' w8 hown2 hg2 _; obtain ⟨Av, cv, rfl, hkcv, _⟩ := own_value hown2; have bO8 := (HBO.out.alloc _).grown hg2 (Ne.symm hneO); have of1' := bO8.frozen 1; have lO8 := bO8.lt; have o1' := bO8.cell 1; simp at o1'))
                        have hs8 := hg2.size
                        simp at hs8
                        go_roundw
                        case rel => exact ⟨j + 1, q2 + 1, by omega, by go_num, hide (by rw [HNX.out, List.length_append, ← HQ2.out]; rfl), hide (by rw [HNX.out]; exact mq_pushA (HBO.out.alloc _) (HOWN.out.alloc _) (HFIN.out.alloc _) hg2 hown2), hide (((HBK5.out.alloc (by omega) _).grown hg2 (by simp <;> omega) (fun z hz => HLOW.out z hz)).setCell (by exact Nat.le_refl _) _), by simp [World.setCell]; omega, hide (((HX65.out.alloc _).grown hg2 (fun e => HNX6.out e.symm)).far (by exact Nat.ne_of_gt hX6O) _)⟩
                        case measure => simp [intOf]; omega
                      · have HLN2 := hide (show lk NL (toC st) = none by rw [HNRA.out, if_neg hk])
                        have HNX := hide (show cAs a b l i ++ cA l i ((stepsOf a b ⟨cs, cw⟩).take (j + 1)) = cAs a b l i ++ cA l i ((stepsOf a b ⟨cs, cw⟩).take j) by rw [cA_no hjl HS.out hk])
                        clear hk
                        go_wp2_with (at_lookup; refine wpList_look_no rfl _ _ 57 rfl kl_cpl Try.underlying57 zero_int' rfl HMN5.out (toC st) rfl HOK2.out HLN2.out ?_)
                        go_roundw
                        case rel => exact ⟨j + 1, q2, by omega, by go_num, hide (by rw [HNX.out]; exact HQ2.out), hide (by rw [HNX.out]; exact ⟨A5, c5, AF5, cf5, HBO.out, HOWN.out, HFIN.out⟩), HBK5, hz5, HX65⟩
                        case measure => simp [intOf]; omega
                    --%e
                    · have hend : (stepsOf a b ⟨cs, cw⟩).take j = stepsOf a b ⟨cs, cw⟩ := List.take_of_length_le (by rw [← HM.out]; omega)
                      have e0 : l.getD i dF = ⟨cs, cw⟩ := HX.out
                      have HC1 := hide (show cAs a b l (i + 1) = cAs a b l i ++ cA l i (stepsOf a b ⟨cs, cw⟩) by rw [cAs_step, e0])
                      have HF1 := hide (show cFs (finL a b) l (i + 1) = cFs (finL a b) l i ++ cF1 (finL a b) i ⟨cs, cw⟩ by rw [cFs_step, e0])
                      rw [hend] at HQ2 HMQ
                      have p1 : wr.cell? ⟨Pb, 1, none⟩ = some (.map (some Fb)) := (HP.out.below HBK.out hPO).cell 1
                      have pl : Pb < wr.heap.size := by omega
                      have x60 : wr.cell? ⟨X6, 0, none⟩ = some (.int .i64 cs) := HX6.out.cell 0
                      have x61 : wr.cell? ⟨X6, 1, none⟩ = some (.int .i64 cw) := HX6.out.cell 1
                      have x6l := HX6.out.lt
                      have HFb3 := hide (HFb.out.below HBK.out hFbO)
                      clear hend e0
                      cases hlf : lk (finL a b) ⟨cs, cw⟩ with
                      | none =>
                        have HLF0 := hide hlf
                        have HF2 := hide (show cF1 (finL a b) i ⟨cs, cw⟩ = [] by unfold cF1; rw [hlf])
                        clear hlf
                        go_wp2_with (at_lookup; refine wpList_look_no rfl _ _ 57 rfl kl_cpl Try.underlying57 zero_int' rfl HFb3.out ⟨cs, cw⟩ rfl HOK.out HLF0.out ?_)
                        go_roundw
                        case rel => exact ⟨i + 1, q2, r, by omega, by go_num, hide (by rw [HC1.out]; exact HQ2.out), hide (by rw [HF1.out, HF2.out, List.append_nil]; exact HQR.out), hide (by rw [HC1.out, HF1.out, HF2.out, List.append_nil]; exact HMQ.out), HBK, hz⟩
                        case measure => simp [intOf]; omega
                      | some v =>
                        obtain ⟨wt, rfl⟩ : ∃ wt : Int, v = .int .i64 wt := by
                          have hm := lk_mem hlf
                          obtain ⟨x, _, y, _, _, he⟩ := mem_finsE.1 hm
                          exact ⟨x.w + y.w, (Prod.mk.inj he).2⟩
                        have HLF1 := hide hlf
                        have HF2 := hide (show cF1 (finL a b) i ⟨cs, cw⟩ = [⟨(i : Int), wt⟩] by unfold cF1; rw [hlf]; rfl)
                        obtain ⟨A5, c5, AF5, cf5, bO5, hown5, hfin5⟩ := HMQ.out
                        have HBO := hide bO5
                        have HOWN := hide hown5
                        have HFIN := hide hfin5
                        have hneO : (Value.slice AF5 r cf5).ownBlock ≠ some O := own_blk_ne hfin5 bO5 (by decide)
                        have HLOW := hide (show ∀ z, (Value.slice AF5 r cf5).ownBlock = some z → O ≤ z from fun z hz => (hfin5.lt z hz).1)
                        have o2 := bO5.cell 2
                        have of2 := bO5.frozen 2
                        simp at o2
                        have lO := bO5.lt
                        clear hlf bO5 hown5 hfin5 HMQ
                        go_wp2_with (first
                          | (at_lookup; refine wpList_look_yes rfl _ _ 57 rfl kl_cpl Try.underlying57 zero_int' rfl HFb3.out ⟨cs, cw⟩ rfl HOK.out _ HLF1.out ?_)
                          | (at_builtin; refine wpList_append_own _ rfl (.tmp 143) (.tmp 147) 23 rfl O 51 iF _ 2 16 Try.underlying23 hF0 hF1 hF2 hF3 rfl (by omega) (.slice AF5 r cf5) r _ rfl (HFIN.out.alloc _) ⟨wr.heap.size, 0, none⟩ 1 1 (finRow [⟨(i : Int), wt⟩]) rfl (by rfl) (World.news_of_block (cs := (finRow [⟨(i : Int), wt⟩]).toArray) (t := 51) (fr := (0, 0)) (Blk.at_ rfl)) (finRow_one _) (by simp only [maxLen]; omega) (by omega) (by simp <;> omega) ?_; intro v' w8 hown2 hg2 _; obtain ⟨Av, cv, rfl, hkcv, _⟩ := own_value hown2; have bO8 := (HBO.out.alloc _).grown hg2 (Ne.symm hneO); have of2' := bO8.frozen 2; have lO8 := bO8.lt; have o2' := bO8.cell 2; simp at o2'))
                        have hs8 := hg2.size
                        simp at hs8
                        go_roundw
                        case rel => exact ⟨i + 1, q2, r + 1, by omega, by go_num, hide (by rw [HC1.out]; exact HQ2.out), hide (by rw [HF1.out, HF2.out, List.length_append, ← HQR.out]; rfl), hide (by rw [HC1.out, HF1.out, HF2.out]; exact mq_pushF (HBO.out.alloc _) (HOWN.out.alloc _) (HFIN.out.alloc _) hg2 hown2), hide (((HBK.out.alloc (by omega) _).grown hg2 (by simp <;> omega) (fun z hz => HLOW.out z hz)).setCell (by exact Nat.le_refl _) _), by simp [World.setCell]; omega⟩
                        case measure => simp [intOf]; omega
                · obtain rfl : n5 = i := by omega
                  obtain ⟨A5, c5, AF5, cf5, bO5, hown5, hfin5⟩ := HMQ.out
                  obtain ⟨AL, hAL⟩ : ∃ z, z = cAs a b l n5 := ⟨_, rfl⟩
                  obtain ⟨FL, hFL⟩ : ∃ z, z = cFs (finL a b) l n5 := ⟨_, rfl⟩
                  have hqt : q ≤ 200000 := by
                    have h1 := cAs_all (a := a) (b := b) HLN.out (fun c hc => (HLK.out c hc).1)
                    rw [← HN5.out, ← HQ.out] at h1
                    have := HTT.out
                    omega
                  rw [← hAL] at HQ hown5
                  rw [← hFL] at HQR hfin5
                  have HAL := hide hAL
                  have HFL := hide hFL
                  have hrle : r ≤ n5 := by have h1 := HQR.out; have h2 := cFs_len (finL a b) l n5; rw [← hFL] at h2; omega
                  have HRD := hide (Rd.of_own hown5 (f := arcCell AL) (fun i j hi hj => arcRow_at _ i j (by rw [← HQ.out]; exact hi) hj))
                  have HFI := hide (fun W (hW : W = wr) => reduce_any A5 q c5 AL W wr.heap.size (by rw [hW]; exact Nat.le_refl _) HQ.out.symm (by omega) (by rw [hW]; exact HRD.out))
                  have o1 := bO5.cell 1
                  simp at o1
                  have lO := bO5.lt
                  have HBO := hide bO5
                  have HFIN := hide hfin5
                  have HRr := hide (HR.out.below HBK.out HRO.out)
                  have HFr := hide (HFF.out.below HBK.out HFO.out)
                  have HBWr := hide (HBW.out.trans (HBK.out.mono HwO.out))
                  clear HMQ bO5 hown5 hfin5 HRD hAL hFL HR HFF HBW HBK HP HMb HFb HST HRDU HMN2
                  go_wp2_with fail
                  refine (HFI.out _ rfl).mono ?_
                  rintro e w9 ⟨A9, c9, rfl, hown9, hb9⟩
                  obtain ⟨RL, hRL⟩ : ∃ z, z = compact likeA (srtA AL) := ⟨_, rfl⟩
                  rw [← hRL] at hown9 ⊢
                  obtain ⟨n9, hn9⟩ : ∃ z, z = RL.length := ⟨_, rfl⟩
                  rw [← hn9] at hown9 ⊢
                  obtain ⟨A9', c9', hv9, hnc9, hcm9⟩ := own_value hown9
                  obtain ⟨rfl, rfl⟩ : A9 = A9' ∧ c9 = c9' := by injection hv9 with e1 e2 e3; exact ⟨e1, e3⟩
                  obtain ⟨AF5', cf5', hv5, hnc5, hcm5⟩ := own_value HFIN.out
                  obtain ⟨rfl, rfl⟩ : AF5 = AF5' ∧ cf5 = cf5' := by injection hv5 with e1 e2 e3; exact ⟨e1, e3⟩
                  clear hv9 hv5
                  have hl9 : n9 ≤ q := by rw [hn9, hRL, HQ.out]; exact Nat.le_trans (compact_len likeA _) (Nat.le_of_eq (srtA_perm _).length_eq)
                  have HRL := hide hRL
                  have HN9 := hide hn9
                  have bO9 := HBO.out.below hb9 lO
                  have HFIN9 := hide (own_below' HFIN.out hb9)
                  have HOWN9 := hide hown9
                  have HR9 := hide (HRr.out.below hb9 HRr.out.lt)
                  have HF9 := hide (HFr.out.below hb9 HFr.out.lt)
                  have HBW9 := hide (HBWr.out.trans (hb9.mono HBWr.out.size))
                  have HBO9 := hide bO9
                  have of1 := bO9.frozen 1
                  have o91 := bO9.cell 1
                  simp at o91
                  have lO9 := bO9.lt
                  have hOw9 : O ≤ wr.heap.size := by omega
                  clear hRL hn9 hown9 hb9 bO9 o1 lO HBO HFIN HFI HRr HFr HBWr
                  go_upto_region 39 with fail
                  generalize hW10 : World.setCell _ _ _ = W10
                  have hRO : w.heap.size + 1 + 1 ≠ O := by have := HRO.out; omega
                  have hFO : w.heap.size + 1 + 1 + 1 ≠ O := by have := HFO.out; omega
                  have HBO10 := hide (show Blk W10 O 25 #[.int .i64 n5, .slice A9 n9 c9, .slice AF5 r cf5] by rw [← hW10]; exact (by simpa using HBO9.out.set_ 1 (.slice A9 n9 c9)))
                  have HOW10 := hide (show W10.ownsRow wr.heap.size 45 5 (.slice A9 n9 c9) n9 (arcRow RL) by rw [← hW10]; exact ownsRow_setCell_other HOWN9.out (own_blk_ne HOWN9.out HBO9.out (by decide)) _)
                  have HFW10 := hide (show W10.ownsRow O 51 2 (.slice AF5 r cf5) r (finRow FL) by rw [← hW10]; exact ownsRow_setCell_other HFIN9.out (own_blk_ne HFIN9.out HBO9.out (by decide)) _)
                  have HR10 := hide (show Blk W10 (w.heap.size + 1 + 1) 25 #[.int .i64 0, .slice none 0 0, .slice none 0 0] by rw [← hW10]; exact HR9.out.far (by exact hRO) _)
                  have HF10 := hide (show Blk W10 (w.heap.size + 1 + 1 + 1) 28 #[.int .i64 0, .int .i64 0] by rw [← hW10]; exact HF9.out.far (by exact hFO) _)
                  have HBW10 := hide (show Below w.heap.size w W10 by rw [← hW10]; exact HBW9.out.setCell (by exact HwO.out) _)
                  have HCM := hide (show cM a b = ⟨(n5 : Int), RL, FL⟩ by unfold cM redA; rw [← HL.out, ← HN5.out, ← HAL.out, ← HFL.out, HRL.out])
                  have o10 := HBO10.out.cell 1
                  simp at o10
                  have lO10 := HBO10.out.lt
                  clear hW10 of1 o91 lO9 HBO9 HOWN9 HFIN9 HR9 HF9 HBW9
                  by_cases h2000 : 2000 < n9
                  · have tg : decide ((n9 : Int) > 2000) = true := decide_eq_true (by omega)
                    have tg' : decide ((2000 : Int) < n9) = true := decide_eq_true (by omega)
                    have HSZ := hide (show szF (cM a b) = (17, -1) by rw [HCM.out]; unfold szF; rw [if_pos (.inr (by dsimp only; rw [← HN9.out]; exact h2000))])
                    clear h2000
                    go_upto_region 40 with fail
                    clear o10 lO10
                    go_wp2_with fail
                    refine (cofault_any 17 (-1) _).mono ?_
                    rintro e wz ⟨rfl, hbz⟩
                    have bRz := HR10.out.below hbz HR10.out.lt
                    have bFz := HF10.out.below hbz HF10.out.lt
                    have HBZ := hide (HBW10.out.trans (hbz.mono HBW10.out.size))
                    clear hbz
                    have q0 := bRz.cell 0
                    have q1 := bRz.cell 1
                    have q2 := bRz.cell 2
                    have q3 := bFz.cell 0
                    have q4 := bFz.cell 1
                    have qf := bRz.frozen 0
                    have qf1 := bRz.frozen 1
                    have qf2 := bRz.frozen 2
                    have qf3 := bFz.frozen 0
                    have qf4 := bFz.frozen 1
                    simp at q0 q1 q2 q3 q4
                    have hs3 := bRz.lt
                    have hs4 := bFz.lt
                    clear bRz bFz
                    go_wp21
                    refine bodyPost_ret (v := .tuple #[.agg #[.int .i64 0, .slice none 0 0, .slice none 0 0], .agg #[.int .i64 17, .int .i64 (-1)]]) (by simp [results, Try.results26, go_sem, q0, q1, q2, q3, q4, qf, qf1, qf2, qf3, qf4, hs3, hs4]) rfl ⟨_, (17, -1), ⟨0, [], []⟩, rfl, MachNew.empty _ _, ?_, .inr (.inr ⟨HTT.out, HYES.out, HSZ.out.symm, by rw [HSZ.out]; rfl⟩)⟩
                    refine Below.setCell (Below.setCell (Below.setCell (Below.setCell (Below.setCell HBZ.out ?_ _) ?_ _) ?_ _) ?_ _) ?_ _ <;> (dsimp only; omega)
                  · have tg : decide ((n9 : Int) > 2000) = false := decide_eq_false (by omega)
                    have tg' : decide ((2000 : Int) < n9) = false := decide_eq_false (by omega)
                    have HNS := hide (show ¬ (400 < (cM a b).n ∨ 2000 < (cM a b).arcs.length) by rw [HCM.out]; dsimp only; rw [← HN9.out]; omega)
                    have HRDA := hide (Rd.of_own HOW10.out (f := arcCell RL) (fun i j hi hj => arcRow_at _ i j (by rw [← HN9.out]; exact hi) hj))
                    have HRDF := hide (Rd.of_own HFW10.out (f := finCell FL) (fun i j hi hj => finRow_at _ i j (by rw [← HQR.out]; exact hi) hj))
                    clear h2000
                    go_wp2
                    clear o10 lO10
                    go_loopw [164] (fun kv wr => ∃ k : Nat, k ≤ n9 ∧ kv = .int .i64 k ∧ Hid (∀ x ∈ RL.take k, x.w ≤ 1000000) ∧ Hid (Below W10.heap.size W10 wr)) (fun kv _ => n9 - (intOf kv).toNat)
                    case atStart => exact ⟨0, by omega, rfl, hide (by simp), hide (Below.refl _ _)⟩
                    case round =>
                      obtain ⟨k, hk, rfl, HWS, HBQ⟩ := hrel
                      have hsz := HBQ.out.size
                      by_cases hkn : k < n9
                      · obtain ⟨bx, offx, x, rfl, hbx, c0, c1, c2, c3, c4, HX⟩ := arcs_at (HRDA.out.below HBQ.out (Nat.le_refl _)) hkn
                        have lb : bx < wr.heap.size := by omega
                        have hkl : k < RL.length := by rw [← HN9.out]; exact hkn
                        have hxm : x ∈ RL := getD_mem hkl HX.out
                        have HBQ2 := hide (HBQ.out.alloc hsz (Obj.cells #[.int .i64 x.f, .int .i64 x.t, .int .i64 x.i, .int .i64 x.o, .int .i64 x.w] 45))
                        by_cases hw : 1000000 < x.w
                        · have tw : decide (x.w > 1000000) = true := decide_eq_true hw
                          have tw' : decide (1000000 < x.w) = true := decide_eq_true hw
                          have HSZ := hide (show szF (cM a b) = (18, -1) by unfold szF; rw [if_neg HNS.out, if_pos (.inl (by rw [HCM.out]; exact ⟨x, hxm, hw⟩))])
                          clear hw hxm hkl
                          go_upto_region 45 with fail
                          generalize hW11 : World.alloc _ _ = W11
                          rw [hW11] at HBQ2
                          have HR11 := hide (HR10.out.below HBQ2.out HR10.out.lt)
                          have HF11 := hide (HF10.out.below HBQ2.out HF10.out.lt)
                          have HBW11 := hide (HBW10.out.trans (HBQ2.out.mono HBW10.out.size))
                          clear hW11 c0 c1 c2 c3 c4 tw tw'
                          go_wp2_with fail
                          refine (cofault_any 18 (-1) _).mono ?_
                          rintro e wz ⟨rfl, hbz⟩
                          have bRz := HR11.out.below hbz HR11.out.lt
                          have bFz := HF11.out.below hbz HF11.out.lt
                          have HBZ := hide (HBW11.out.trans (hbz.mono HBW11.out.size))
                          clear hbz
                          have q0 := bRz.cell 0
                          have q1 := bRz.cell 1
                          have q2 := bRz.cell 2
                          have q3 := bFz.cell 0
                          have q4 := bFz.cell 1
                          have qf := bRz.frozen 0
                          have qf1 := bRz.frozen 1
                          have qf2 := bRz.frozen 2
                          have qf3 := bFz.frozen 0
                          have qf4 := bFz.frozen 1
                          simp at q0 q1 q2 q3 q4
                          have hs3 := bRz.lt
                          have hs4 := bFz.lt
                          clear bRz bFz
                          go_wp21
                          refine bodyPost_ret (v := .tuple #[.agg #[.int .i64 0, .slice none 0 0, .slice none 0 0], .agg #[.int .i64 18, .int .i64 (-1)]]) (by simp [results, Try.results26, go_sem, q0, q1, q2, q3, q4, qf, qf1, qf2, qf3, qf4, hs3, hs4]) rfl ⟨_, (18, -1), ⟨0, [], []⟩, rfl, MachNew.empty _ _, ?_, .inr (.inr ⟨HTT.out, HYES.out, HSZ.out.symm, by rw [HSZ.out]; rfl⟩)⟩
                          refine Below.setCell (Below.setCell (Below.setCell (Below.setCell (Below.setCell HBZ.out ?_ _) ?_ _) ?_ _) ?_ _) ?_ _ <;> (dsimp only; omega)
                        · have tw : decide (x.w > 1000000) = false := decide_eq_false hw
                          have tw' : decide (1000000 < x.w) = false := decide_eq_false hw
                          have HWS2 := hide (show ∀ y ∈ RL.take (k + 1), y.w ≤ 1000000 from fun y hy => by
                            rcases take_mem hkl HX.out hy with h | h
                            · exact HWS.out y h
                            · rw [h]; omega)
                          clear hw hxm hkl
                          go_wp2
                          go_roundw
                          case rel => exact ⟨k + 1, by omega, by go_num, HWS2, HBQ2⟩
                          case measure => simp [intOf]; omega
                      · obtain rfl : n9 = k := by omega
                        have HWA := hide (show ∀ x ∈ RL, x.w ≤ 1000000 from by have h := HWS.out; rw [List.take_of_length_le (by rw [← HN9.out]; exact Nat.le_refl _)] at h; exact h)
                        have o2 := (HBO10.out.below HBQ.out HBO10.out.lt).cell 2
                        simp at o2
                        have lOr : O < wr.heap.size := by have := HBO10.out.lt; omega
                        have HBQ0 := hide HBQ.out
                        clear HWS
                        go_wp2
                        clear o2 lOr
                        go_loopw [177] (fun kv wr => ∃ k : Nat, k ≤ r ∧ kv = .int .i64 k ∧ Hid (∀ x ∈ FL.take k, x.w ≤ 1000000) ∧ Hid (Below W10.heap.size W10 wr)) (fun kv _ => r - (intOf kv).toNat)
                        case atStart => exact ⟨0, by omega, rfl, hide (by simp), HBQ0⟩
                        case round =>
                          clear HBQ HBQ0 hsz
                          obtain ⟨k, hk, rfl, HWS, HBQ⟩ := hrel
                          have hsz := HBQ.out.size
                          by_cases hkn : k < r
                          --%d
                          · obtain ⟨bx, offx, x, rfl, hbx, c0, c1, HX⟩ := fins_at (HRDF.out.below HBQ.out (Nat.le_refl _)) hkn
                            have lb : bx < wr.heap.size := by omega
                            have hkl : k < FL.length := by rw [← HQR.out]; exact hkn
                            have hxm : x ∈ FL := getDF_mem hkl HX.out
                            have HBQ2 := hide (HBQ.out.alloc hsz (Obj.cells #[.int .i64 x.s, .int .i64 x.w] 51))
                            by_cases hw : 1000000 < x.w
                            · have tw : decide (x.w > 1000000) = true := decide_eq_true hw
                              have tw' : decide (1000000 < x.w) = true := decide_eq_true hw
                              have HSZ := hide (show szF (cM a b) = (18, -1) by unfold szF; rw [if_neg HNS.out, if_pos (.inr (by rw [HCM.out]; exact ⟨x, hxm, hw⟩))])
                              clear hw hxm hkl
                              go_upto_region 51 with fail
                              generalize hW11 : World.alloc _ _ = W11
                              rw [hW11] at HBQ2
                              have HR11 := hide (HR10.out.below HBQ2.out HR10.out.lt)
                              have HF11 := hide (HF10.out.below HBQ2.out HF10.out.lt)
                              have HBW11 := hide (HBW10.out.trans (HBQ2.out.mono HBW10.out.size))
                              clear hW11 c0 c1 tw tw'
                              go_wp2_with fail
                              refine (cofault_any 18 (-1) _).mono ?_
                              rintro e wz ⟨rfl, hbz⟩
                              have bRz := HR11.out.below hbz HR11.out.lt
                              have bFz := HF11.out.below hbz HF11.out.lt
                              have HBZ := hide (HBW11.out.trans (hbz.mono HBW11.out.size))
                              clear hbz
                              have q0 := bRz.cell 0
                              have q1 := bRz.cell 1
                              have q2 := bRz.cell 2
                              have q3 := bFz.cell 0
                              have q4 := bFz.cell 1
                              have qf := bRz.frozen 0
                              have qf1 := bRz.frozen 1
                              have qf2 := bRz.frozen 2
                              have qf3 := bFz.frozen 0
                              have qf4 := bFz.frozen 1
                              simp at q0 q1 q2 q3 q4
                              have hs3 := bRz.lt
                              have hs4 := bFz.lt
                              clear bRz bFz
                              go_wp21
                              refine bodyPost_ret (v := .tuple #[.agg #[.int .i64 0, .slice none 0 0, .slice none 0 0], .agg #[.int .i64 18, .int .i64 (-1)]]) (by simp [results, Try.results26, go_sem, q0, q1, q2, q3, q4, qf, qf1, qf2, qf3, qf4, hs3, hs4]) rfl ⟨_, (18, -1), ⟨0, [], []⟩, rfl, MachNew.empty _ _, ?_, .inr (.inr ⟨HTT.out, HYES.out, HSZ.out.symm, by rw [HSZ.out]; rfl⟩)⟩
                              refine Below.setCell (Below.setCell (Below.setCell (Below.setCell (Below.setCell HBZ.out ?_ _) ?_ _) ?_ _) ?_ _) ?_ _ <;> (dsimp only; omega)
                            · have tw : decide (x.w > 1000000) = false := decide_eq_false hw
                              have tw' : decide (1000000 < x.w) = false := decide_eq_false hw
                              have HWS2 := hide (show ∀ y ∈ FL.take (k + 1), y.w ≤ 1000000 from fun y hy => by
                                rw [takeF_snoc hkl HX.out] at hy
                                rcases List.mem_append.1 hy with h | h
                                · exact HWS.out y h
                                · rw [List.mem_singleton.1 h]; omega)
                              clear hw hxm hkl
                              go_wp2
                              go_roundw
                              case rel => exact ⟨k + 1, by omega, by go_num, HWS2, HBQ2⟩
                              case measure => simp [intOf]; omega
                          --%e
                          · obtain rfl : r = k := by omega
                            have HWB := hide (show ∀ x ∈ FL, x.w ≤ 1000000 from by have h := HWS.out; rw [List.take_of_length_le (by rw [← HQR.out]; exact Nat.le_refl _)] at h; exact h)
                            have HSZ := hide (show szF (cM a b) = (0, 0) by
                              unfold szF
                              rw [if_neg HNS.out, if_neg]
                              rw [HCM.out]
                              rintro (⟨x, h1, h2⟩ | ⟨x, h1, h2⟩)
                              · have := HWA.out x h1; omega
                              · have := HWB.out x h1; omega)
                            have bOz := HBO10.out.below HBQ.out HBO10.out.lt
                            have bRz := HR10.out.below HBQ.out HR10.out.lt
                            have bFz := HF10.out.below HBQ.out HF10.out.lt
                            have HBZ := hide (HBW10.out.trans (HBQ.out.mono HBW10.out.size))
                            have HOWz := hide (own_below' HOW10.out HBQ.out)
                            have HFWz := hide (own_below' HFW10.out HBQ.out)
                            have o0 := bOz.cell 0
                            have o1 := bOz.cell 1
                            have o2 := bOz.cell 2
                            simp at o0 o1 o2
                            have lOz := bOz.lt
                            have q0 := bRz.cell 0
                            have q1 := bRz.cell 1
                            have q2 := bRz.cell 2
                            have q3 := bFz.cell 0
                            have q4 := bFz.cell 1
                            have qf := bRz.frozen 0
                            have qf1 := bRz.frozen 1
                            have qf2 := bRz.frozen 2
                            have qf3 := bFz.frozen 0
                            have qf4 := bFz.frozen 1
                            simp at q0 q1 q2 q3 q4
                            have hs3 := bRz.lt
                            have hs4 := bFz.lt
                            have hOr : O ≤ wr.heap.size := by omega
                            clear bOz bRz bFz HWS HBQ hsz
                            go_wp21
                            refine bodyPost_ret (v := .tuple #[.agg #[.int .i64 n5, .slice A9 n9 c9, .slice AF5 r cf5], .agg #[.int .i64 0, .int .i64 0]]) (by simp [results, Try.results26, go_sem, q0, q1, q2, q3, q4, qf, qf1, qf2, qf3, qf4, hs3, hs4]) rfl ⟨_, (0, 0), cM a b, rfl, ?_, ?_, .inr (.inr ⟨HTT.out, HYES.out, HSZ.out.symm, by rw [HSZ.out]; rfl⟩)⟩
                            · rw [HCM.out]
                              have h0 := comachnew HOWz.out HFWz.out HN9.out.symm HQR.out.symm hOw9 (Nat.le_refl _) hnc9 hnc5 (by unfold big; omega) (by unfold big; omega) (n0 := (n5 : Int))
                              refine MachNew.mono (lo := O) ?_ HwO.out
                              have h1 := HRO.out
                              have h2 := HFO.out
                              refine MachNew.set (MachNew.set (MachNew.set (MachNew.set (MachNew.set h0 ?_ _) ?_ _) ?_ _) ?_ _) ?_ _ <;> (dsimp only; omega)
                            · refine Below.setCell (Below.setCell (Below.setCell (Below.setCell (Below.setCell HBZ.out ?_ _) ?_ _) ?_ _) ?_ _) ?_ _ <;> (dsimp only; omega)
end Go.Proofs.Ytmgpcnkmmgkjgaa
