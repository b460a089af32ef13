/- The reference's Concatenated, walked. Written by gen_rg3.py. -/
import Derived.Test.YtmgpcnkmmgkjgaaRgU
import Derived.Test.YtmgpcnkmmgkjgaaRgQ
import Derived.Test.YtmgpcnkmmgkjgaaCaW
import Derived.Deep.RegionLaw
namespace Go.Proofs.Ytmgpcnkmmgkjgaa
open Go.RowKit Gm Go.Sort Go.Shelf
set_option linter.unusedSimpArgs false
set_option linter.unusedVariables false
set_option maxRecDepth 100000 in
set_option maxHeartbeats 16000000 in
theorem rcat_bad1 (va vb : Value) (a b : Mach) (w : World) (B : Nat) (hB : B ≤ w.heap.size) (ha : MachAt w B va a) (hb : MachAt w B vb b) (hz : validate a ≠ (0, 0)) :
    Calls Try.prog 22 #[va, vb] w fun e w' => e = .returned (.tuple #[.agg #[.int .i64 0, .slice none 0 0, .slice none 0 0], .agg #[.int .i64 (validate a).1, .int .i64 (validate a).2]]) ∧ Below w.heap.size w w' := by
  have HA := hide ha
  obtain ⟨A, AF, n, c, nf, cf, rfl, _⟩ := ha
  obtain ⟨A', AF', n', c', nf', cf', rfl, _⟩ := hb
  have hne := fun a b c d W => run_neq_fault a b c d W
  have hf0 : fEq 0 0 0 0 = true := rfl
  have hQ := fun W (hB : B ≤ W.heap.size) (h : MachAt W B (.agg #[.int .i64 a.n, .slice A n c, .slice AF nf cf]) a) => mfault_spec _ a W B hB h
  have hz0 : fEq (validate a).1 (validate a).2 0 0 = false := fEq0b hz
  obtain ⟨p, hp⟩ : ∃ p, p = (validate a).1 := ⟨_, rfl⟩
  obtain ⟨q, hq⟩ : ∃ p, p = (validate a).2 := ⟨_, rfl⟩
  rw [← hp, ← hq] at hQ hz0 ⊢
  have HQ := hide hQ
  clear hp hq hz hQ
  go_enter Try.func22, Try.ntmps22
  go_wp2_with fail
  refine (HQ.out _ (by simp <;> omega) (HA.out.below (show Below w.heap.size w _ by go_grown) hB)).mono ?_
  rintro e w1 ⟨rfl, hb1⟩
  have hbw1 : Below w.heap.size w w1 := Below.trans (show Below w.heap.size w _ by go_grown) (hb1.mono (by simp <;> omega))
  have bR1 : Blk w1 (w.heap.size + 1 + 1) 25 #[.int .i64 0, .slice none 0 0, .slice none 0 0] := ((Blk.at_ (by simp)).alloc _).below hb1 (by simp <;> omega)
  have bF1 : Blk w1 (w.heap.size + 1 + 1 + 1) 28 #[.int .i64 0, .int .i64 0] := (Blk.at_ (by simp)).below hb1 (by simp)
  clear hb1 HQ
  have q0 := bR1.cell 0
  have q1 := bR1.cell 1
  have q2 := bR1.cell 2
  have q3 := bF1.cell 0
  have q4 := bF1.cell 1
  have qf := bR1.frozen 0
  have qf1 := bR1.frozen 1
  have qf2 := bR1.frozen 2
  have qf3 := bF1.frozen 0
  have qf4 := bF1.frozen 1
  simp at q0 q1 q2 q3 q4
  have hs3 := bR1.lt
  have hs4 := bF1.lt
  have hs5 := hbw1.size
  clear bR1 bF1
  go_wp2
  refine wp_mix (fun w' => w'.cell? ⟨w1.heap.size, 0, none⟩ = some (.int .i64 p) ∧ w'.cell? ⟨w1.heap.size, 1, none⟩ = some (.int .i64 q)) 3 [(0, false), (1, false), (2, true)] (by kernel_rfl) (by kernel_rfl) ?_ ?_
  · go_simp
  simp only [List.drop_succ_cons, List.drop_zero]
  repeat (refine mix_q (v := ?_) (by rfl) (by rfl) ?_ ?_; rotate_left; (focus (intro w' hC; (try dsimp only at hC); go_simp; (first | done | with_reducible rfl))); simp only [Act.put, List.setIfInBounds_toArray, List.set_cons_zero, List.set_cons_succ, List.getElem_toArray, List.getElem_cons_zero, List.getElem_cons_succ])
  refine mix_l (by rfl) (by rfl) (fun K hK => ?_)
  go_simp
  refine hK _ _ (by go_simp) ?_
  clear hK K
  refine mix_nil ?_; try simp only [Act.put, List.setIfInBounds_toArray, List.set_cons_zero, List.set_cons_succ, List.getElem_toArray, List.getElem_cons_zero, List.getElem_cons_succ]
  go_wp2
  refine NoPanic.normal ?_
  go_wp2
  exact bodyPost_ret (v := .tuple #[.agg #[.int .i64 0, .slice none 0 0, .slice none 0 0], .agg #[.int .i64 p, .int .i64 q]]) (by simp [results, Try.results22, go_sem, q0, q1, q2, q3, q4, qf, qf1, qf2, qf3, qf4, hs3, hs4]) rfl ⟨rfl, by go_grown⟩
set_option maxRecDepth 100000 in
set_option maxHeartbeats 16000000 in
theorem rcat_bad2 (va vb : Value) (a b : Mach) (w : World) (B : Nat) (hB : B ≤ w.heap.size) (ha : MachAt w B va a) (hb : MachAt w B vb b) (hv : validate a = (0, 0)) (hz : validate b ≠ (0, 0)) :
    Calls Try.prog 22 #[va, vb] w fun e w' => e = .returned (.tuple #[.agg #[.int .i64 0, .slice none 0 0, .slice none 0 0], .agg #[.int .i64 (validate b).1, .int .i64 (validate b).2]]) ∧ Below w.heap.size w w' := by
  have HA := hide ha
  have HB := hide hb
  obtain ⟨A, AF, n, c, nf, cf, rfl, _⟩ := ha
  obtain ⟨A', AF', n', c', nf', cf', rfl, _⟩ := hb
  have hne := fun a b c d W => run_neq_fault a b c d W
  have hf0 : fEq 0 0 0 0 = true := rfl
  have hQ := fun W (hB : B ≤ W.heap.size) (h : MachAt W B (.agg #[.int .i64 a.n, .slice A n c, .slice AF nf cf]) a) => mfault_spec _ a W B hB h
  have hQ2 := fun W (hB : B ≤ W.heap.size) (h : MachAt W B (.agg #[.int .i64 b.n, .slice A' n' c', .slice AF' nf' cf']) b) => mfault_spec _ b W B hB h
  rw [hv] at hQ
  have hz0 : fEq (validate b).1 (validate b).2 0 0 = false := fEq0b hz
  obtain ⟨p, hp⟩ : ∃ p, p = (validate b).1 := ⟨_, rfl⟩
  obtain ⟨q, hq⟩ : ∃ p, p = (validate b).2 := ⟨_, rfl⟩
  rw [← hp, ← hq] at hQ2 hz0 ⊢
  have HQ := hide hQ
  have HQ2 := hide hQ2
  clear hp hq hz hQ hQ2 hv
  go_enter Try.func22, Try.ntmps22
  go_wp2_with fail
  refine (HQ.out _ (by simp <;> omega) (HA.out.below (show Below w.heap.size w _ by go_grown) hB)).mono ?_
  rintro e w1 ⟨rfl, hb1⟩
  have hbw1 : Below w.heap.size w w1 := Below.trans (show Below w.heap.size w _ by go_grown) (hb1.mono (by simp <;> omega))
  have bY1 : Blk w1 (w.heap.size + 1) 25 #[.int .i64 b.n, .slice A' n' c', .slice AF' nf' cf'] := (((Blk.at_ (by simp)).alloc _).alloc _).below hb1 (by simp <;> omega)
  have bR1 : Blk w1 (w.heap.size + 1 + 1) 25 #[.int .i64 0, .slice none 0 0, .slice none 0 0] := ((Blk.at_ (by simp)).alloc _).below hb1 (by simp <;> omega)
  have bF1 : Blk w1 (w.heap.size + 1 + 1 + 1) 28 #[.int .i64 0, .int .i64 0] := (Blk.at_ (by simp)).below hb1 (by simp)
  clear hb1 HQ
  have y0 := bY1.cell 0
  have y1 := bY1.cell 1
  have y2 := bY1.cell 2
  simp at y0 y1 y2
  have lY := bY1.lt
  go_wp2_with fail
  refine (HQ2.out _ (by have := hbw1.size; simp <;> omega) (HB.out.below (hbw1.alloc hbw1.size _) hB)).mono ?_
  rintro e w2 ⟨rfl, hb2⟩
  have hbw2 := (hbw1.alloc hbw1.size _).trans (hb2.mono (by have := hbw1.size; simp <;> omega))
  have bR2 := (bR1.alloc _).below hb2 (by have := bR1.lt; simp <;> omega)
  have bF2 := (bF1.alloc _).below hb2 (by have := bF1.lt; simp <;> omega)
  clear hb2 HQ2 hbw1 bR1 bF1 bY1 y0 y1 y2 lY
  have q0 := bR2.cell 0
  have q1 := bR2.cell 1
  have q2 := bR2.cell 2
  have q3 := bF2.cell 0
  have q4 := bF2.cell 1
  have qf := bR2.frozen 0
  have qf1 := bR2.frozen 1
  have qf2 := bR2.frozen 2
  have qf3 := bF2.frozen 0
  have qf4 := bF2.frozen 1
  simp at q0 q1 q2 q3 q4
  have hs3 := bR2.lt
  have hs4 := bF2.lt
  have hs5 := hbw2.size
  clear bR2 bF2
  go_wp2
  refine wp_mix (fun w' => w'.cell? ⟨w2.heap.size, 0, none⟩ = some (.int .i64 p) ∧ w'.cell? ⟨w2.heap.size, 1, none⟩ = some (.int .i64 q)) 3 [(0, false), (1, false), (2, true)] (by kernel_rfl) (by kernel_rfl) ?_ ?_
  · go_simp
  simp only [List.drop_succ_cons, List.drop_zero]
  repeat (refine mix_q (v := ?_) (by rfl) (by rfl) ?_ ?_; rotate_left; (focus (intro w' hC; (try dsimp only at hC); go_simp; (first | done | with_reducible rfl))); simp only [Act.put, List.setIfInBounds_toArray, List.set_cons_zero, List.set_cons_succ, List.getElem_toArray, List.getElem_cons_zero, List.getElem_cons_succ])
  refine mix_l (by rfl) (by rfl) (fun K hK => ?_)
  go_simp
  refine hK _ _ (by go_simp) ?_
  clear hK K
  refine mix_nil ?_; try simp only [Act.put, List.setIfInBounds_toArray, List.set_cons_zero, List.set_cons_succ, List.getElem_toArray, List.getElem_cons_zero, List.getElem_cons_succ]
  go_wp2
  refine NoPanic.normal ?_
  go_wp2
  exact bodyPost_ret (v := .tuple #[.agg #[.int .i64 0, .slice none 0 0, .slice none 0 0], .agg #[.int .i64 p, .int .i64 q]]) (by simp [results, Try.results22, go_sem, q0, q1, q2, q3, q4, qf, qf1, qf2, qf3, qf4, hs3, hs4]) rfl ⟨rfl, by go_grown⟩
theorem cat_perm (A B C : List Arc) : ((A ++ B) ++ C).Perm (A ++ C ++ B) := by
  rw [List.append_assoc, List.append_assoc]
  exact List.perm_append_comm.append_left A
theorem rd_none {w : World} {B sz n : Nat} {A : Option Addr} {f : Nat → Nat → Value} (h : Rd w B sz A n f) : A = none → n = 0 := by
  rintro rfl
  rcases Nat.eq_zero_or_pos n with e | e
  · exact e
  · obtain ⟨b, off, h1, _⟩ := h e
    cases h1
theorem own_empty {w : World} {base g sz : Nat} {e : TypeId} (h : Blk w g e #[]) (hb : base ≤ g) : w.ownsRow base e sz (.slice (some ⟨g, 0, none⟩) 0 0) 0 [] := by
  exact ⟨by simp, .inr ⟨g, 0, #[], rfl, hb, h, Nat.le_refl _, Nat.zero_le _, by simp, by simp⟩⟩
theorem mq_new {w6 W2 : World} {O base n cv : Nat} {n0 : Int} {Av : Option Addr} {L : List Arc} (hO : O = w6.heap.size) (hown : w6.ownsRow base 45 5 (.slice Av n cv) n (arcRow L)) (hb : Below base W2 w6) (hbz : base ≤ W2.heap.size) :
    base ≤ O ∧ Mq (w6.alloc (Obj.cells #[.int .i64 n0, .slice Av n cv, .slice none 0 0] 25)) O base n0 n L 0 [] ∧ Below base W2 (w6.alloc (Obj.cells #[.int .i64 n0, .slice Av n cv, .slice none 0 0] 25)) ∧ base ≤ (w6.alloc (Obj.cells #[.int .i64 n0, .slice Av n cv, .slice none 0 0] 25)).heap.size := by
  have hs := hb.size
  exact ⟨by omega, ⟨Av, cv, none, 0, Blk.at_ hO, hown.alloc _, World.ownsRow_nil _ _ _ _⟩, hb.alloc (by omega) _, by simp; omega⟩
theorem mq_put {w6 W2 : World} {O base n cv : Nat} {n0 : Int} {Av : Option Addr} {L : List Arc} (bO : Blk w6 O 25 #[.int .i64 0, .slice none 0 0, .slice none 0 0]) (hown : w6.ownsRow base 45 5 (.slice Av n cv) n (arcRow L)) (hb : Below base W2 w6) (hbz : base ≤ W2.heap.size) (hO : base ≤ O) :
    base ≤ O ∧ Mq (((w6.setCell ⟨O, 0, none⟩ (.int .i64 n0)).setCell ⟨O, 1, none⟩ (.slice Av n cv)).setCell ⟨O, 2, none⟩ (.slice none 0 0)) O base n0 n L 0 [] ∧ Below base W2 (((w6.setCell ⟨O, 0, none⟩ (.int .i64 n0)).setCell ⟨O, 1, none⟩ (.slice Av n cv)).setCell ⟨O, 2, none⟩ (.slice none 0 0)) ∧
    base ≤ (((w6.setCell ⟨O, 0, none⟩ (.int .i64 n0)).setCell ⟨O, 1, none⟩ (.slice Av n cv)).setCell ⟨O, 2, none⟩ (.slice none 0 0)).heap.size := by
  have hs := hb.size
  have b1 := bO.set_ 0 (.int .i64 n0)
  have b2 := b1.set_ 1 (.slice Av n cv)
  have h1 := ownsRow_setCell_other hown (own_blk_ne hown bO (by decide)) (a := ⟨O, 0, none⟩) (.int .i64 n0)
  have h2 := ownsRow_setCell_other h1 (own_blk_ne h1 b1 (by decide)) (a := ⟨O, 1, none⟩) (.slice Av n cv)
  exact ⟨hO, ⟨Av, cv, none, 0, by simpa using b2.set_ 2 (.slice none 0 0), ownsRow_setCell_other h2 (own_blk_ne h2 b2 (by decide)) _, World.ownsRow_nil _ _ _ _⟩,
    ((hb.setCell (by exact hO) _).setCell (by exact hO) _).setCell (by exact hO) _, by simp; omega⟩
theorem step_append_any {P : Program} {ops : Array Oper} {o : Oper} {a : Act} {w : World} {K : Act → World → Prop} {Q : Exit → Act → World → Prop} {EE : Prop} (hg : o.guard = none) (s x : Operand) (t : TypeId)
    (ho : o.op = .call { callee := .builtin .append, args := #[s, x], argTypes := #[t, t] })
    (base : Nat) (e : TypeId) (i : TypeInfo) (z : Value) (size bytes : Nat) (ht : P.underlying t = some (.slice e)) (hi : P.info? e = some i) (hz : i.zero = some z)
    (hsize : i.size = size) (hby : i.bytes = bytes) (hzs : z.cells.size = size) (hsz : 0 < size)
    (v : Value) (n : Nat) (xs : List Value) (hs : a.eval s = v) (hown : w.ownsRow base e size v n xs)
    (B : Nat) (A : Option Addr) (m c : Nat) (news : List Value) (f : Nat → Nat → Value) (hx : a.eval x = .slice A m c) (hr : Rd w B size A m f) (hA : A = none → m = 0) (hl : news.length = m * size) (hnews : ∀ i j, i < m → j < size → news[i * size + j]? = some (f i j)) (h1 : ∀ u ∈ news, u.oneCell' = true)
    (h63 : n + m ≤ maxLen) (hbytes : (n + m) * bytes ≤ 140737488355328) (hbase : base ≤ w.heap.size)
    (h : ∀ v' w', w'.ownsRow base e size v' (n + m) (xs ++ news) → w.grownBy w' v.ownBlock → (v'.ownBlock = v.ownBlock ∨ v'.ownBlock = some w.heap.size) → K (a.put o.dst v') w') :
    if Region.wanted o (yielded ops a.tmps) = true then Oper.wp P o a w K Q else EE := by
  have hw : Region.wanted o (yielded ops a.tmps) = true := by simp [Region.wanted, hg]
  rw [if_pos hw]
  exact wp_append_any w s x t ho base e i z size bytes ht hi hz hsize hby hzs hsz v n xs hs hown B A m c news f hx hr hA hl hnews h1 h63 hbytes hbase h
set_option maxRecDepth 100000 in
set_option maxHeartbeats 16000000 in
theorem rcat_zero (va vb : Value) (a b : Mach) (w : World) (B : Nat) (hB : B ≤ w.heap.size) (ha : MachAt w B va a) (hb : MachAt w B vb b) (hv : validate a = (0, 0)) (hv' : validate b = (0, 0)) (h0 : a.n = 0 ∨ b.n = 0) :
    Calls Try.prog 22 #[va, vb] w fun e w' => e = .returned (.tuple #[.agg #[.int .i64 0, .slice none 0 0, .slice none 0 0], .agg #[.int .i64 0, .int .i64 0]]) ∧ Below w.heap.size w w' := by
  have HA := hide ha
  have HB := hide hb
  obtain ⟨A, AF, n, c, nf, cf, rfl, _⟩ := ha
  obtain ⟨A', AF', n', c', nf', cf', rfl, _⟩ := hb
  have hne := fun a b c d W => run_neq_fault a b c d W
  have hf0 : fEq 0 0 0 0 = true := rfl
  have hQ := fun W (hB : B ≤ W.heap.size) (h : MachAt W B (.agg #[.int .i64 a.n, .slice A n c, .slice AF nf cf]) a) => mfault_spec _ a W B hB h
  have hQ2 := fun W (hB : B ≤ W.heap.size) (h : MachAt W B (.agg #[.int .i64 b.n, .slice A' n' c', .slice AF' nf' cf']) b) => mfault_spec _ b W B hB h
  rw [hv] at hQ
  rw [hv'] at hQ2
  have HQ := hide hQ
  have HQ2 := hide hQ2
  clear hQ hQ2 hv hv'
  obtain ⟨sa, hsa⟩ : ∃ s, s = a.n := ⟨_, rfl⟩
  obtain ⟨sb, hsb⟩ : ∃ s, s = b.n := ⟨_, rfl⟩
  rw [← hsa] at HQ HA h0 ⊢
  rw [← hsb] at HQ2 HB h0 ⊢
  clear hsa hsb
  go_enter Try.func22, Try.ntmps22
  go_wp2_with fail
  refine (HQ.out _ (by simp <;> omega) (HA.out.below (show Below w.heap.size w _ by go_grown) hB)).mono ?_
  rintro e w1 ⟨rfl, hb1⟩
  have hbw1 : Below w.heap.size w w1 := Below.trans (show Below w.heap.size w _ by go_grown) (hb1.mono (by simp <;> omega))
  have bX1 : Blk w1 w.heap.size 25 #[.int .i64 sa, .slice A n c, .slice AF nf cf] := ((((Blk.at_ rfl).alloc _).alloc _).alloc _).below hb1 (by simp <;> omega)
  have bY1 : Blk w1 (w.heap.size + 1) 25 #[.int .i64 sb, .slice A' n' c', .slice AF' nf' cf'] := (((Blk.at_ (by simp)).alloc _).alloc _).below hb1 (by simp <;> omega)
  have bR1 : Blk w1 (w.heap.size + 1 + 1) 25 #[.int .i64 0, .slice none 0 0, .slice none 0 0] := ((Blk.at_ (by simp)).alloc _).below hb1 (by simp <;> omega)
  have bF1 : Blk w1 (w.heap.size + 1 + 1 + 1) 28 #[.int .i64 0, .int .i64 0] := (Blk.at_ (by simp)).below hb1 (by simp)
  clear hb1 HQ
  have y0 := bY1.cell 0
  have y1 := bY1.cell 1
  have y2 := bY1.cell 2
  simp at y0 y1 y2
  have lY := bY1.lt
  go_wp2_with fail
  refine (HQ2.out _ (by have := hbw1.size; simp <;> omega) (HB.out.below (hbw1.alloc hbw1.size _) hB)).mono ?_
  rintro e w2 ⟨rfl, hb2⟩
  have hbw2 := (hbw1.alloc hbw1.size _).trans (hb2.mono (by have := hbw1.size; simp <;> omega))
  have bX2 := (bX1.alloc _).below hb2 (by have := bX1.lt; simp <;> omega)
  have bY2 := (bY1.alloc _).below hb2 (by have := bY1.lt; simp <;> omega)
  have bR2 := (bR1.alloc _).below hb2 (by have := bR1.lt; simp <;> omega)
  have bF2 := (bF1.alloc _).below hb2 (by have := bF1.lt; simp <;> omega)
  clear hb2 HQ2 hbw1 bR1 bF1 bX1 bY1 y0 y1 y2 lY
  have x0 := bX2.cell 0
  have y0 := bY2.cell 0
  simp at x0 y0
  have lX := bX2.lt
  have lY := bY2.lt
  go_upto_region 7 with fail
  have q0 := bR2.cell 0
  have q1 := bR2.cell 1
  have q2 := bR2.cell 2
  have q3 := bF2.cell 0
  have q4 := bF2.cell 1
  have qf := bR2.frozen 0
  have qf1 := bR2.frozen 1
  have qf2 := bR2.frozen 2
  have qf3 := bF2.frozen 0
  have qf4 := bF2.frozen 1
  simp at q0 q1 q2 q3 q4
  have hs3 := bR2.lt
  have hs4 := bF2.lt
  have hs5 := hbw2.size
  clear bX2 bY2 bR2 bF2
  by_cases e0 : sa = 0
  · have tz : (sa == 0) = true := by rw [e0]; rfl
    clear h0 e0
    go_wp2
    exact bodyPost_ret (v := .tuple #[.agg #[.int .i64 0, .slice none 0 0, .slice none 0 0], .agg #[.int .i64 0, .int .i64 0]]) (by simp [results, Try.results22, go_sem, q0, q1, q2, q3, q4, qf, qf1, qf2, qf3, qf4, hs3, hs4]) rfl ⟨rfl, by go_grown⟩
  · have tz : (sa == 0) = false := by simpa using e0
    have e1 : sb = 0 := by omega
    have tz2 : (sb == 0) = true := by rw [e1]; rfl
    clear h0 e0 e1
    go_wp2
    exact bodyPost_ret (v := .tuple #[.agg #[.int .i64 0, .slice none 0 0, .slice none 0 0], .agg #[.int .i64 0, .int .i64 0]]) (by simp [results, Try.results22, go_sem, q0, q1, q2, q3, q4, qf, qf1, qf2, qf3, qf4, hs3, hs4]) rfl ⟨rfl, by go_grown⟩
set_option maxRecDepth 100000 in
set_option maxHeartbeats 16000000 in
theorem rcat_good (va vb : Value) (a b : Mach) (w : World) (B : Nat) (hB : B ≤ w.heap.size) (ha : MachAt w B va a) (hb : MachAt w B vb b) (hv : validate a = (0, 0)) (hv' : validate b = (0, 0)) (hap : 0 < a.n) (hbp : 0 < b.n) :
    Calls Try.prog 22 #[va, vb] w fun e w' => ∃ v', e = .returned (.tuple #[v', .agg #[.int .i64 (finF (a.n + b.n) (catArcs a b).length).1, .int .i64 (finF (a.n + b.n) (catArcs a b).length).2]]) ∧ MachNew w.heap.size w' v' (finM (a.n + b.n) (catArcs a b) (catFins a b)) ∧ Below w.heap.size w w' := by
  have HA := hide ha
  have HB := hide hb
  obtain ⟨A, AF, n, c, nf, cf, rfl, HN, HF, hnc, hnfc, hnb, hnfb, hA, hF⟩ := ha
  obtain ⟨A', AF', n', c', nf', cf', rfl, HN', HF', hnc', hnfc', hnb', hnfb', hA', hF'⟩ := hb
  have hne := fun a b c d W => run_neq_fault a b c d W
  have hf0 : fEq 0 0 0 0 = true := rfl
  have hV := valid_of hv
  have hV' := valid_of hv'
  have HV := hide hV
  have HV' := hide hV'
  have slen : ∀ m : Mach, Valid m → m.arcs.length + m.fins.length ≤ 2401 := fun m h => by
    have h1 := star_len h
    have h2 : (starArcs m).length = (if 0 < m.n then 1 else 0) + m.arcs.length + m.fins.length := by unfold starArcs; simp only [List.length_append, List.length_map]; split <;> simp
    omega
  have hlf := slen a hV
  have hlf' := slen b hV'
  rw [HN.out, HF.out] at hlf
  rw [HN'.out, HF'.out] at hlf'
  have HOKF := hide (show ∀ x ∈ a.fins, 0 ≤ x.s ∧ x.s < 400 ∧ True ∧ True from fun x hx => by have := okFin_iff (hV.okF hx); have := hV.n4; exact ⟨by omega, by omega, trivial, trivial⟩)
  have HOKA' := hide (show ∀ x ∈ b.arcs, 0 ≤ x.f ∧ x.f < 400 ∧ 0 ≤ x.t ∧ x.t < 400 from fun x hx => by have := okArc_iff (hV'.okA hx); have := hV'.n4; omega)
  have HOKF' := hide (show ∀ x ∈ b.fins, 0 ≤ x.s ∧ x.s < 400 ∧ True ∧ True from fun x hx => by have := okFin_iff (hV'.okF hx); have := hV'.n4; exact ⟨by omega, by omega, trivial, trivial⟩)
  have hn0 := hV.n0
  have hn4 := hV.n4
  have hn0' := hV'.n0
  have hn4' := hV'.n4
  have HRA := hide hA
  have HRF := hide hF
  have HRA' := hide hA'
  have HRF' := hide hF'
  obtain ⟨ia, ha0, ha1, ha2, ha3⟩ := info_parts arc_info
  obtain ⟨iF, hF0, hF1, hF2, hF3⟩ := info_parts fin_info
  have hQ := fun W (hB : B ≤ W.heap.size) (h : MachAt W B (.agg #[.int .i64 a.n, .slice A n c, .slice AF nf cf]) a) => mfault_spec _ a W B hB h
  have hQ2 := fun W (hB : B ≤ W.heap.size) (h : MachAt W B (.agg #[.int .i64 b.n, .slice A' n' c', .slice AF' nf' cf']) b) => mfault_spec _ b W B hB h
  rw [hv] at hQ
  rw [hv'] at hQ2
  have HQ := hide hQ
  have HQ2 := hide hQ2
  obtain ⟨n0, hn00⟩ : ∃ z, z = a.n + b.n := ⟨_, rfl⟩
  have HN0 := hide hn00
  have hn01 : 0 ≤ n0 := by omega
  have hn02 : n0 ≤ 800 := by omega
  have hn03 : a.n + b.n = n0 := hn00.symm
  have tz1 : (a.n == 0) = false := by simp; omega
  have tz2 : (b.n == 0) = false := by simp; omega
  have hwn2 : IntKind.i64.wrap n0 = n0 := IntWalk.i64_in _ (by omega)
  clear hQ hQ2 hA hF hA' hF' hv hv' hV hV' slen hn00
  go_enter Try.func22, Try.ntmps22
  go_wp2_with fail
  refine (HQ.out _ (by simp <;> omega) (HA.out.below (show Below w.heap.size w _ by go_grown) hB)).mono ?_
  rintro e w1 ⟨rfl, hb1⟩
  have hbw1 : Below w.heap.size w w1 := Below.trans (show Below w.heap.size w _ by go_grown) (hb1.mono (by simp <;> omega))
  have bX1 : Blk w1 w.heap.size 25 #[.int .i64 a.n, .slice A n c, .slice AF nf cf] := ((((Blk.at_ rfl).alloc _).alloc _).alloc _).below hb1 (by simp <;> omega)
  have bY1 : Blk w1 (w.heap.size + 1) 25 #[.int .i64 b.n, .slice A' n' c', .slice AF' nf' cf'] := (((Blk.at_ (by simp)).alloc _).alloc _).below hb1 (by simp <;> omega)
  have bR1 : Blk w1 (w.heap.size + 1 + 1) 25 #[.int .i64 0, .slice none 0 0, .slice none 0 0] := ((Blk.at_ (by simp)).alloc _).below hb1 (by simp <;> omega)
  have bF1 : Blk w1 (w.heap.size + 1 + 1 + 1) 28 #[.int .i64 0, .int .i64 0] := (Blk.at_ (by simp)).below hb1 (by simp)
  clear hb1 HQ
  have y0 := bY1.cell 0
  have y1 := bY1.cell 1
  have y2 := bY1.cell 2
  simp at y0 y1 y2
  have lY := bY1.lt
  go_wp2_with fail
  refine (HQ2.out _ (by have := hbw1.size; simp <;> omega) (HB.out.below (hbw1.alloc hbw1.size _) hB)).mono ?_
  rintro e w2 ⟨rfl, hb2⟩
  have hbw2 := (hbw1.alloc hbw1.size _).trans (hb2.mono (by have := hbw1.size; simp <;> omega))
  have bX2 := (bX1.alloc _).below hb2 (by have := bX1.lt; simp <;> omega)
  have bY2 := (bY1.alloc _).below hb2 (by have := bY1.lt; simp <;> omega)
  have bR2 := (bR1.alloc _).below hb2 (by have := bR1.lt; simp <;> omega)
  have bF2 := (bF1.alloc _).below hb2 (by have := bF1.lt; simp <;> omega)
  clear hb2 HQ2 hbw1 bR1 bF1 bX1 bY1 y0 y1 y2 lY
  have x0 := bX2.cell 0
  have y0 := bY2.cell 0
  simp at x0 y0
  have lX := bX2.lt
  have lY := bY2.lt
  go_upto_region 10 with fail
  obtain ⟨base, hbase⟩ : ∃ z, z = w2.heap.size + 1 := ⟨_, rfl⟩
  generalize hW2 : World.alloc _ _ = W2
  have hbz : base ≤ W2.heap.size := by rw [← hW2, hbase]; simp
  have HBW := hide (show Below w.heap.size w W2 by rw [← hW2]; exact hbw2.alloc hbw2.size _)
  have HX2 := hide (show Blk W2 w.heap.size 25 #[.int .i64 a.n, .slice A n c, .slice AF nf cf] by rw [← hW2]; exact bX2.alloc _)
  have HY2 := hide (show Blk W2 (w.heap.size + 1) 25 #[.int .i64 b.n, .slice A' n' c', .slice AF' nf' cf'] by rw [← hW2]; exact bY2.alloc _)
  have HR2 := hide (show Blk W2 (w.heap.size + 1 + 1) 25 #[.int .i64 0, .slice none 0 0, .slice none 0 0] by rw [← hW2]; exact bR2.alloc _)
  have HF2 := hide (show Blk W2 (w.heap.size + 1 + 1 + 1) 28 #[.int .i64 0, .int .i64 0] by rw [← hW2]; exact bF2.alloc _)
  have hp0 : w.heap.size + 1 + 1 + 1 < base := by have := bF2.lt; omega
  have HRA2 := hide ((HRA.out.below HBW.out hB).mono (show B ≤ w.heap.size by exact hB))
  have HRF2 := hide ((HRF.out.below HBW.out hB).mono (show B ≤ w.heap.size by exact hB))
  have HRA2' := hide ((HRA'.out.below HBW.out hB).mono (show B ≤ w.heap.size by exact hB))
  have HRF2' := hide ((HRF'.out.below HBW.out hB).mono (show B ≤ w.heap.size by exact hB))
  clear x0 y0 lX lY hW2 hbase bX2 bY2 bR2 bF2 hbw2
  go_cut [9] from 10 (fun s9 wx => ∃ O, s9 = .pointer (some ⟨O, 0, none⟩) ∧ Hid (base ≤ O ∧ Mq wx O base n0 n a.arcs 0 [] ∧ Below base W2 wx ∧ base ≤ wx.heap.size))
  case first =>
    have x1 := HX2.out.cell 1
    have y0 := HY2.out.cell 0
    simp at x1 y0
    have lX := HX2.out.lt
    have lY := HY2.out.lt
    go_region_law (first | (refine step_append_any rfl (.tmp 46) (.tmp 48) 22 rfl base 45 ia _ 5 40 Try.underlying22 ha0 ha1 ha2 ha3 rfl (by omega) (.slice (some ⟨W2.heap.size + 1, 0, none⟩) 0 0) 0 [] rfl (own_empty (Blk.at_ (by simp)).drew (by omega)) w.heap.size A n c (arcRow a.arcs) _ rfl (by exact HRA2.out.below (show Below W2.heap.size W2 _ by go_grown) (by omega)) (rd_none HRA2.out) (by rw [arcRow_length, HN.out]) (fun i j hi hj => arcRow_at _ i j (by rw [HN.out]; exact hi) hj) (arcRow_one _) (by simp only [maxLen]; omega) (by omega) (by simp <;> omega) ?_; intro v' w6 hown2 hg2 _; rw [Nat.zero_add, List.nil_append] at hown2; obtain ⟨Av, cv, rfl, hkcv, _⟩ := own_value hown2; have bO6 : Blk w6 (W2.heap.size) 25 #[.int .i64 0, .slice none 0 0, .slice none 0 0] := (((Blk.at_ (by simp)).alloc _).drew : Blk _ (W2.heap.size) 25 #[.int .i64 0, .slice none 0 0, .slice none 0 0]).grown hg2 (by simp [Value.ownBlock]); have fo0 := bO6.frozen 0; have fo1 := bO6.frozen 1; have fo2 := bO6.frozen 2; have oo0 := bO6.cell 0; have oo1 := bO6.cell 1; have oo2 := bO6.cell 2; simp at oo0 oo1 oo2; have lO6 := bO6.lt; have HB6 := hide ((((Below.refl base W2).alloc hbz _).alloc (by simp <;> omega) _).drew.grown hg2 (by simp <;> omega) (fun q hq => by simp [Value.ownBlock] at hq; omega)); have bY6 := (((HY2.out.alloc _).alloc _).drew).grown hg2 (by simp [Value.ownBlock]; omega); have y06 := bY6.cell 0; simp at y06; have lY6 := bY6.lt) | (refine step_append_any rfl (.tmp 46) (.tmp 48) 22 rfl base 45 ia _ 5 40 Try.underlying22 ha0 ha1 ha2 ha3 rfl (by omega) (.slice (some ⟨W2.heap.size, 0, none⟩) 0 0) 0 [] rfl (own_empty ((Blk.at_ (by simp)).alloc _).drew (by omega)) w.heap.size A n c (arcRow a.arcs) _ rfl (by exact HRA2.out.below (show Below W2.heap.size W2 _ by go_grown) (by omega)) (rd_none HRA2.out) (by rw [arcRow_length, HN.out]) (fun i j hi hj => arcRow_at _ i j (by rw [HN.out]; exact hi) hj) (arcRow_one _) (by simp only [maxLen]; omega) (by omega) (by simp <;> omega) ?_; intro v' w6 hown2 hg2 _; rw [Nat.zero_add, List.nil_append] at hown2; obtain ⟨Av, cv, rfl, hkcv, _⟩ := own_value hown2; have bO6 : Blk w6 (W2.heap.size + 1) 25 #[.int .i64 0, .slice none 0 0, .slice none 0 0] := ((Blk.at_ (by simp)).drew : Blk _ (W2.heap.size + 1) 25 #[.int .i64 0, .slice none 0 0, .slice none 0 0]).grown hg2 (by simp [Value.ownBlock]); have fo0 := bO6.frozen 0; have fo1 := bO6.frozen 1; have fo2 := bO6.frozen 2; have oo0 := bO6.cell 0; have oo1 := bO6.cell 1; have oo2 := bO6.cell 2; simp at oo0 oo1 oo2; have lO6 := bO6.lt; have HB6 := hide ((((Below.refl base W2).alloc hbz _).alloc (by simp <;> omega) _).drew.grown hg2 (by simp <;> omega) (fun q hq => by simp [Value.ownBlock] at hq; omega)); have bY6 := (((HY2.out.alloc _).alloc _).drew).grown hg2 (by simp [Value.ownBlock]; omega); have y06 := bY6.cell 0; simp at y06; have lY6 := bY6.lt) | (refine step_append_any rfl (.tmp 46) (.tmp 48) 22 rfl base 45 ia _ 5 40 Try.underlying22 ha0 ha1 ha2 ha3 rfl (by omega) (.slice (some ⟨W2.heap.size, 0, none⟩) 0 0) 0 [] rfl (own_empty (Blk.at_ (by simp)).drew (by omega)) w.heap.size A n c (arcRow a.arcs) _ rfl (by exact HRA2.out.below (show Below W2.heap.size W2 _ by go_grown) (by omega)) (rd_none HRA2.out) (by rw [arcRow_length, HN.out]) (fun i j hi hj => arcRow_at _ i j (by rw [HN.out]; exact hi) hj) (arcRow_one _) (by simp only [maxLen]; omega) (by omega) (by simp <;> omega) ?_; intro v' w6 hown2 hg2 _; rw [Nat.zero_add, List.nil_append] at hown2; obtain ⟨Av, cv, rfl, hkcv, _⟩ := own_value hown2; have HB6 := hide ((((Below.refl base W2).alloc hbz _)).drew.grown hg2 (by simp <;> omega) (fun q hq => by simp [Value.ownBlock] at hq; omega)); have bY6 := ((HY2.out.alloc _).drew).grown hg2 (by simp [Value.ownBlock]; omega); have y06 := bY6.cell 0; simp at y06; have lY6 := bY6.lt))
    all_goals go_wp2_with fail
    all_goals go_meet
    all_goals first | exact ⟨_, rfl, hide (mq_new rfl hown2 HB6.out hbz)⟩ | exact ⟨_, rfl, hide (mq_put bO6 hown2 HB6.out hbz (by omega))⟩
  case rest =>
  obtain ⟨O, rfl, HU⟩ := hcut
  obtain ⟨hbO, hm, hb, hbz'⟩ := HU.out
  replace hbz := hbz'
  have HMK := hide hm
  have HBK := hide hb
  clear hm hb HU hbz'
  have bXX := HX2.out.below HBK.out (by omega)
  have x1 := bXX.cell 2
  simp at x1
  have lXX := bXX.lt
  go_wp2
  clear bXX x1 lXX
  have HMK0 := hide (show Mq _ O base n0 (n + 0) (a.arcs ++ (a.fins.take 0).map (fun x => eps x.s a.n x.w)) 0 ([] : List Fnl) from by simpa using HMK.out)
  go_loopw [54] (fun iv wr => ∃ k : Nat, k ≤ nf ∧ iv = .int .i64 k ∧ Hid (Mq wr O base n0 (n + k) (a.arcs ++ (a.fins.take k).map (fun x => eps x.s a.n x.w)) 0 ([] : List Fnl)) ∧ Hid (Below base W2 wr) ∧ base ≤ wr.heap.size) (fun iv _ => nf - (intOf iv).toNat)
  case atStart => exact ⟨0, by omega, rfl, HMK0, HBK, hbz⟩
  case round =>
    clear HMK0 HMK HBK hbz
    obtain ⟨k, hk, rfl, HMK, HBK, hbz⟩ := hrel
    by_cases hkn : k < nf
    · skip
      obtain ⟨A5, c5, AF5, cf5, bO5, hown5, hfin5⟩ := HMK.out
      have lO := bO5.lt
      have o1 := bO5.cell 1
      have of1 := bO5.frozen 1
      simp at o1
      have HBKO := hide bO5
      have HOWN := hide hown5
      have HFIN := hide hfin5
      have hlow : ∀ q, (Value.slice A5 (n + k) c5).ownBlock = some q → base ≤ q := fun q hq => (hown5.lt q hq).1
      have HLOW := hide hlow
      have hneO : (Value.slice A5 (n + k) c5).ownBlock ≠ some O := own_blk_ne hown5 bO5 (by decide)
      clear hlow HMK bO5 hown5 hfin5
      obtain ⟨bb, off, x, rfl, hbB, d0, d1, HX⟩ := fins_at (HRF2.out.below HBK.out (by omega)) hkn
      have hkl : k < a.fins.length := by rw [HF.out]; exact hkn
      obtain ⟨r0_, r1_, r2_, r3_⟩ := HOKF.out x (by rw [← HX.out]; simp [List.getD, hkl])
      have lb : bb < wr.heap.size := by omega
      have HTK := hide (takeF_push hkl HX.out)
      clear hkl HX
      go_wp2_with (at_builtin; refine wpList_append_own _ rfl (.tmp 59) (.tmp 66) 22 rfl base 45 ia _ 5 40 Try.underlying22 ha0 ha1 ha2 ha3 rfl (by omega) (.slice A5 (n + k) c5) (n + k) _ rfl ((HOWN.out.alloc _).alloc _) ⟨wr.heap.size + 1, 0, none⟩ 1 1 (arcRow [eps x.s a.n x.w]) rfl (by rfl) (World.news_of_block (cs := (arcRow [eps x.s a.n x.w]).toArray) (t := 45) (fr := (0, 0)) (Blk.at_ (by simp))) (arcRow_one _) (by simp only [maxLen]; omega) (by omega) (by simp <;> omega) ?_; intro v' w6 hown2 hg2 _; obtain ⟨Av, cv, rfl, hkcv, _⟩ := own_value hown2; have o1' := far_cell hg2 hneO (o := 1) (v := (.slice A5 (n + k) c5)) (by exact ((HBKO.out.alloc _).alloc _).cell 1); have bO6 := ((HBKO.out.alloc _).alloc _).grown hg2 (Ne.symm hneO); have of1' := bO6.frozen 1; have lO6 := bO6.lt)
      have hs6 := hg2.size
      simp at hs6
      go_roundw
      case rel => exact ⟨k + 1, by omega, by go_num, hide (by rw [HTK.out, List.map_append, ← List.append_assoc]; exact mq_pushA ((HBKO.out.alloc _).alloc _) ((HOWN.out.alloc _).alloc _) ((HFIN.out.alloc _).alloc _) hg2 hown2), hide ((((HBK.out.alloc (by omega) _).alloc (by simp <;> omega) _).grown hg2 (by simp <;> omega) (fun q hq => by have := HLOW.out q hq; omega)).setCell (by show base ≤ O; omega) _), by simp [World.setCell]; omega⟩
      case measure => simp [intOf]; omega
    · obtain rfl : nf = k := by omega
      replace HMK := hide (show Mq wr O base n0 (n + nf) (a.arcs ++ a.fins.map (fun x => eps x.s a.n x.w)) 0 ([] : List Fnl) by have h := HMK.out; rw [List.take_of_length_le (by rw [HF.out]; exact Nat.le_refl _)] at h; exact h)
      have bXX := HY2.out.below HBK.out (by omega)
      have x1 := bXX.cell 1
      simp at x1
      have lXX := bXX.lt
      go_wp2
      clear bXX x1 lXX
      have HMK0 := hide (show Mq _ O base n0 ((n + nf) + 0) ((a.arcs ++ a.fins.map (fun x => eps x.s a.n x.w)) ++ (b.arcs.take 0).map (shA a.n)) 0 ([] : List Fnl) from by simpa using HMK.out)
      go_loopw [73] (fun iv wr => ∃ k : Nat, k ≤ n' ∧ iv = .int .i64 k ∧ Hid (Mq wr O base n0 ((n + nf) + k) ((a.arcs ++ a.fins.map (fun x => eps x.s a.n x.w)) ++ (b.arcs.take k).map (shA a.n)) 0 ([] : List Fnl)) ∧ Hid (Below base W2 wr) ∧ base ≤ wr.heap.size) (fun iv _ => n' - (intOf iv).toNat)
      case atStart => exact ⟨0, by omega, rfl, HMK0, HBK, hbz⟩
      case round =>
        clear HMK0 HMK HBK hbz
        obtain ⟨k, hk, rfl, HMK, HBK, hbz⟩ := hrel
        by_cases hkn : k < n'
        · skip
          obtain ⟨A5, c5, AF5, cf5, bO5, hown5, hfin5⟩ := HMK.out
          have lO := bO5.lt
          have o1 := bO5.cell 1
          have of1 := bO5.frozen 1
          simp at o1
          have HBKO := hide bO5
          have HOWN := hide hown5
          have HFIN := hide hfin5
          have hlow : ∀ q, (Value.slice A5 ((n + nf) + k) c5).ownBlock = some q → base ≤ q := fun q hq => (hown5.lt q hq).1
          have HLOW := hide hlow
          have hneO : (Value.slice A5 ((n + nf) + k) c5).ownBlock ≠ some O := own_blk_ne hown5 bO5 (by decide)
          clear hlow HMK bO5 hown5 hfin5
          obtain ⟨bb, off, x, rfl, hbB, d0, d1, d2, d3, d4, HX⟩ := arcs_at (HRA2'.out.below HBK.out (by omega)) hkn
          have hkl : k < b.arcs.length := by rw [HN'.out]; exact hkn
          obtain ⟨r0_, r1_, r2_, r3_⟩ := HOKA'.out x (by rw [← HX.out]; simp [List.getD, hkl])
          have lb : bb < wr.heap.size := by omega
          have HTK := hide (take_push hkl HX.out)
          have w0_ : IntKind.i64.wrap (x.f + a.n) = x.f + a.n := IntWalk.i64_in _ (by omega)
          have w1_ : IntKind.i64.wrap (x.t + a.n) = x.t + a.n := IntWalk.i64_in _ (by omega)
          clear hkl HX
          go_wp2_with (at_builtin; refine wpList_append_own _ rfl (.tmp 78) (.tmp 94) 22 rfl base 45 ia _ 5 40 Try.underlying22 ha0 ha1 ha2 ha3 rfl (by omega) (.slice A5 ((n + nf) + k) c5) ((n + nf) + k) _ rfl ((HOWN.out.alloc _).alloc _) ⟨wr.heap.size + 1, 0, none⟩ 1 1 (arcRow [shA a.n x]) rfl (by rfl) (World.news_of_block (cs := (arcRow [shA a.n x]).toArray) (t := 45) (fr := (0, 0)) (Blk.at_ (by simp))) (arcRow_one _) (by simp only [maxLen]; omega) (by omega) (by simp <;> omega) ?_; intro v' w6 hown2 hg2 _; obtain ⟨Av, cv, rfl, hkcv, _⟩ := own_value hown2; have o1' := far_cell hg2 hneO (o := 1) (v := (.slice A5 ((n + nf) + k) c5)) (by exact ((HBKO.out.alloc _).alloc _).cell 1); have bO6 := ((HBKO.out.alloc _).alloc _).grown hg2 (Ne.symm hneO); have of1' := bO6.frozen 1; have lO6 := bO6.lt)
          have hs6 := hg2.size
          simp at hs6
          go_roundw
          case rel => exact ⟨k + 1, by omega, by go_num, hide (by rw [HTK.out, List.map_append, ← List.append_assoc]; exact mq_pushA ((HBKO.out.alloc _).alloc _) ((HOWN.out.alloc _).alloc _) ((HFIN.out.alloc _).alloc _) hg2 hown2), hide ((((HBK.out.alloc (by omega) _).alloc (by simp <;> omega) _).grown hg2 (by simp <;> omega) (fun q hq => by have := HLOW.out q hq; omega)).setCell (by show base ≤ O; omega) _), by simp [World.setCell]; omega⟩
          case measure => simp [intOf]; omega
        · obtain rfl : n' = k := by omega
          replace HMK := hide (show Mq wr O base n0 ((n + nf) + n') ((a.arcs ++ a.fins.map (fun x => eps x.s a.n x.w)) ++ b.arcs.map (shA a.n)) 0 ([] : List Fnl) by have h := HMK.out; rw [List.take_of_length_le (by rw [HN'.out]; exact Nat.le_refl _)] at h; exact h)
          have bXX := HY2.out.below HBK.out (by omega)
          have x1 := bXX.cell 2
          simp at x1
          have lXX := bXX.lt
          go_wp2
          clear bXX x1 lXX
          have HMK0 := hide (show Mq _ O base n0 (n + nf + n') ((a.arcs ++ a.fins.map (fun x => eps x.s a.n x.w)) ++ b.arcs.map (shA a.n)) 0 (([] : List Fnl) ++ (b.fins.take 0).map (shF a.n)) from by simpa using HMK.out)
          go_loopw [101] (fun iv wr => ∃ k : Nat, k ≤ nf' ∧ iv = .int .i64 k ∧ Hid (Mq wr O base n0 (n + nf + n') ((a.arcs ++ a.fins.map (fun x => eps x.s a.n x.w)) ++ b.arcs.map (shA a.n)) k (([] : List Fnl) ++ (b.fins.take k).map (shF a.n))) ∧ Hid (Below base W2 wr) ∧ base ≤ wr.heap.size) (fun iv _ => nf' - (intOf iv).toNat)
          case atStart => exact ⟨0, by omega, rfl, HMK0, HBK, hbz⟩
          case round =>
            clear HMK0 HMK HBK hbz
            obtain ⟨k, hk, rfl, HMK, HBK, hbz⟩ := hrel
            by_cases hkn : k < nf'
            · skip
              obtain ⟨A5, c5, AF5, cf5, bO5, hown5, hfin5⟩ := HMK.out
              have lO := bO5.lt
              have o1 := bO5.cell 2
              have of1 := bO5.frozen 2
              simp at o1
              have HBKO := hide bO5
              have HOWN := hide hown5
              have HFIN := hide hfin5
              have hlow : ∀ q, (Value.slice AF5 k cf5).ownBlock = some q → base ≤ q := fun q hq => (hfin5.lt q hq).1
              have HLOW := hide hlow
              have hneO : (Value.slice AF5 k cf5).ownBlock ≠ some O := own_blk_ne hfin5 bO5 (by decide)
              clear hlow HMK bO5 hown5 hfin5
              obtain ⟨bb, off, x, rfl, hbB, d0, d1, HX⟩ := fins_at (HRF2'.out.below HBK.out (by omega)) hkn
              have hkl : k < b.fins.length := by rw [HF'.out]; exact hkn
              obtain ⟨r0_, r1_, r2_, r3_⟩ := HOKF'.out x (by rw [← HX.out]; simp [List.getD, hkl])
              have lb : bb < wr.heap.size := by omega
              have HTK := hide (takeF_push hkl HX.out)
              have w0_ : IntKind.i64.wrap (x.s + a.n) = x.s + a.n := IntWalk.i64_in _ (by omega)
              clear hkl HX
              go_wp2_with (at_builtin; refine wpList_append_own _ rfl (.tmp 106) (.tmp 114) 23 rfl base 51 iF _ 2 16 Try.underlying23 hF0 hF1 hF2 hF3 rfl (by omega) (.slice AF5 k cf5) k _ rfl ((HFIN.out.alloc _).alloc _) ⟨wr.heap.size + 1, 0, none⟩ 1 1 (finRow [shF a.n x]) rfl (by rfl) (World.news_of_block (cs := (finRow [shF a.n x]).toArray) (t := 51) (fr := (0, 0)) (Blk.at_ (by simp))) (finRow_one _) (by simp only [maxLen]; omega) (by omega) (by simp <;> omega) ?_; intro v' w6 hown2 hg2 _; obtain ⟨Av, cv, rfl, hkcv, _⟩ := own_value hown2; have o1' := far_cell hg2 hneO (o := 2) (v := (.slice AF5 k cf5)) (by exact ((HBKO.out.alloc _).alloc _).cell 2); have bO6 := ((HBKO.out.alloc _).alloc _).grown hg2 (Ne.symm hneO); have of1' := bO6.frozen 2; have lO6 := bO6.lt)
              have hs6 := hg2.size
              simp at hs6
              go_roundw
              case rel => exact ⟨k + 1, by omega, by go_num, hide (by rw [HTK.out, List.map_append, ← List.append_assoc]; exact mq_pushF ((HBKO.out.alloc _).alloc _) ((HOWN.out.alloc _).alloc _) ((HFIN.out.alloc _).alloc _) hg2 hown2), hide ((((HBK.out.alloc (by omega) _).alloc (by simp <;> omega) _).grown hg2 (by simp <;> omega) (fun q hq => by have := HLOW.out q hq; omega)).setCell (by show base ≤ O; omega) _), by simp [World.setCell]; omega⟩
              case measure => simp [intOf]; omega
            · obtain rfl : nf' = k := by omega
              replace HMK := hide (show Mq wr O base n0 (n + nf + n') ((a.arcs ++ a.fins.map (fun x => eps x.s a.n x.w)) ++ b.arcs.map (shA a.n)) nf' (([] : List Fnl) ++ b.fins.map (shF a.n)) by have h := HMK.out; rw [List.take_of_length_le (by rw [HF'.out]; exact Nat.le_refl _)] at h; exact h)
              obtain ⟨Fb, hFb⟩ : ∃ z, z = w.heap.size + 1 + 1 + 1 := ⟨_, rfl⟩
              obtain ⟨Rb, hRb⟩ : ∃ z, z = w.heap.size + 1 + 1 := ⟨_, rfl⟩
              have hRF : Rb ≠ Fb := by omega
              have hFR : Fb ≠ Rb := by omega
              have hRw : w.heap.size ≤ Rb := by omega
              have hFw : w.heap.size ≤ Fb := by omega
              have hRG : Rb < base := by omega
              have hFG : Fb < base := by omega
              have hRO : Rb < O := by omega
              have hFO2 : Fb < O := by omega
              have hwG : w.heap.size ≤ base := by omega
              have hwO : w.heap.size ≤ O := by omega
              rw [← hFb] at HF2
              rw [← hRb] at HR2
              simp only [← hFb]
              simp only [← hRb]
              clear hFb hRb hp0
              obtain ⟨A5, c5, AF5, cf5, bO5, hown5, hfin5⟩ := HMK.out
              have HP := hide (show (((a.arcs ++ a.fins.map (fun x => eps x.s a.n x.w)) ++ b.arcs.map (shA a.n))).Perm (catArcs a b) from cat_perm _ _ _)
              have HLQ := hide (show (((a.arcs ++ a.fins.map (fun x => eps x.s a.n x.w)) ++ b.arcs.map (shA a.n))).length = (n + nf + n') by simp only [List.length_append, List.length_map, HN.out, HN'.out, HF.out])
              have HFR := hide (show ((([] : List Fnl) ++ b.fins.map (shF a.n))).length = nf' by simp only [List.length_append, List.length_map, List.length_nil, HF'.out]; omega)
              have HRD := hide (Rd.of_own hown5 (fun i j hi hj => arcRow_at _ i j (by rw [HLQ.out]; exact hi) hj))
              have HFI := hide (fun W (hW : W = wr) => rfin_any n0 (((a.arcs ++ a.fins.map (fun x => eps x.s a.n x.w)) ++ b.arcs.map (shA a.n))) (n + nf + n') c5 A5 AF5 nf' cf5 W HLQ.out ((HP.out.nodup_iff).2 (cat_nodup HV.out HV'.out)) (by omega) (by omega) ((([] : List Fnl) ++ b.fins.map (shF a.n))) base (by rw [hW]; omega) (by rw [hW]; exact hfin5) HFR.out (by unfold big; omega) (by rw [hW]; exact HRD.out))
              have o0 := bO5.cell 0
              have o1 := bO5.cell 1
              have o2 := bO5.cell 2
              simp at o0 o1 o2
              have lO := bO5.lt
              clear HMK bO5 hown5 hfin5 HRD
              go_wp2_with fail
              refine (HFI.out _ rfl).mono ?_
              rintro e w9 ⟨v9, rfl, hM9, hb9⟩
              obtain ⟨A9, n9, c9, AF9, nf9, cf9, rfl⟩ := agg_of hM9
              have HM9 := hide hM9
              have HBE := hide (HBW.out.trans ((HBK.out.trans (hb9.mono (by omega))).mono (by omega)))
              have bR := (HR2.out.below HBK.out (by omega)).below hb9 (by omega)
              have bF := (HF2.out.below HBK.out (by omega)).below hb9 (by omega)
              have q0 := bR.cell 0
              have q1 := bR.cell 1
              have q2 := bR.cell 2
              have q3 := bF.cell 0
              have q4 := bF.cell 1
              have qf := bR.frozen 0
              have qf1 := bR.frozen 1
              have qf2 := bR.frozen 2
              have qf3 := bF.frozen 0
              have qf4 := bF.frozen 1
              simp at q0 q1 q2 q3 q4
              have lR := bR.lt
              have lF := bF.lt
              clear hM9 hb9 bR bF o0 o1 o2 lO HFI
              obtain ⟨g9, hg9⟩ : ∃ z, z = (finM n0 (((a.arcs ++ a.fins.map (fun x => eps x.s a.n x.w)) ++ b.arcs.map (shA a.n))) ((([] : List Fnl) ++ b.fins.map (shF a.n)))).n := ⟨_, rfl⟩
              rw [← hg9] at HM9 ⊢
              obtain ⟨p9, hp9⟩ : ∃ z, z = (finF n0 (n + nf + n')).1 := ⟨_, rfl⟩
              obtain ⟨s9, hs9⟩ : ∃ z, z = (finF n0 (n + nf + n')).2 := ⟨_, rfl⟩
              rw [← hp9, ← hs9]
              have HP9 := hide hp9
              have HS9 := hide hs9
              clear hg9 hp9 hs9
              clear hnc hnfc hnb hnfb hnc' hnfc' hnb' hnfb' hlf hlf' hn0 hn4 hn0' hn4' hn01 hn02 hf0 hne ha0 ha1 ha2 ha3 hF0 hF1 hF2 hF3 hap hbp tz1 tz2
              go_wp21
              refine bodyPost_ret (v := .tuple #[.agg #[.int .i64 g9, .slice A9 n9 c9, .slice AF9 nf9 cf9], .agg #[.int .i64 p9, .int .i64 s9]]) (by simp [results, Try.results22, go_sem, lR, lF, q0, q1, q2, q3, q4, qf, qf1, qf2, qf3, qf4]) rfl ⟨.agg #[.int .i64 g9, .slice A9 n9 c9, .slice AF9 nf9 cf9], ?_, ?_, ?_⟩
              · have e1 : finF n0 (n + nf + n') = finF (a.n + b.n) (catArcs a b).length := by rw [← HP.out.length_eq, HLQ.out, HN0.out]
                rw [HP9.out, HS9.out, e1]
              · have e2 : finM n0 (((a.arcs ++ a.fins.map (fun x => eps x.s a.n x.w)) ++ b.arcs.map (shA a.n))) ((([] : List Fnl) ++ b.fins.map (shF a.n))) = finM (a.n + b.n) (catArcs a b) (catFins a b) := by unfold finM; rw [HP.out.length_eq, srtA_congr HP.out, HN0.out, show (([] : List Fnl) ++ b.fins.map (shF a.n)) = catFins a b from rfl]
                rw [e2] at HM9
                refine MachNew.mono (lo := base) ?_ (by omega)
                refine MachNew.set (MachNew.set (MachNew.set (MachNew.set (MachNew.set HM9.out ?_ _) ?_ _) ?_ _) ?_ _) ?_ _ <;> (dsimp only; omega)
              · refine Below.setCell (Below.setCell (Below.setCell (Below.setCell (Below.setCell HBE.out ?_ _) ?_ _) ?_ _) ?_ _) ?_ _ <;> (dsimp only; omega)
/-- The reference's Concatenated, at any two machines. -/
theorem rcat_any (va vb : Value) (a b : Mach) (w : World) (B : Nat) (hB : B ≤ w.heap.size) (ha : MachAt w B va a) (hb : MachAt w B vb b) :
    Calls Try.prog 22 #[va, vb] w fun e w' => ∃ v', e = .returned (.tuple #[v', .agg #[.int .i64 (catF a b).1, .int .i64 (catF a b).2]]) ∧ MachNew w.heap.size w' v' (catR a b) ∧ Below w.heap.size w w' := by
  by_cases hz : validate a = (0, 0)
  · by_cases hz2 : validate b = (0, 0)
    · have et : twoF a b = (0, 0) := by unfold twoF; rw [if_pos hz]; exact hz2
      by_cases h0 : a.n = 0 ∨ b.n = 0
      · have e1 : catF a b = (0, 0) := by unfold catF; rw [if_pos et, if_pos h0]
        have e2 : catR a b = emptyM := by unfold catR; rw [if_pos et, if_pos h0]
        rw [e1, e2]
        exact (rcat_zero va vb a b w B hB ha hb hz hz2 h0).mono fun e w' ⟨he, hb⟩ => ⟨_, he, MachNew.empty _ _, hb⟩
      · have e1 : catF a b = finF (a.n + b.n) (catArcs a b).length := by unfold catF; rw [if_pos et, if_neg h0]
        have e2 : catR a b = finM (a.n + b.n) (catArcs a b) (catFins a b) := by unfold catR; rw [if_pos et, if_neg h0]
        rw [e1, e2]
        have h1 := (valid_of hz).n0
        have h2 := (valid_of hz2).n0
        exact rcat_good va vb a b w B hB ha hb hz hz2 (by omega) (by omega)
    · have e0 : twoF a b = validate b := by unfold twoF; rw [if_pos hz]
      have e1 : catF a b = validate b := by unfold catF; rw [e0, if_neg hz2]
      have e2 : catR a b = emptyM := by unfold catR; rw [e0, if_neg hz2]
      rw [e1, e2]
      exact (rcat_bad2 va vb a b w B hB ha hb hz hz2).mono fun e w' ⟨he, hb⟩ => ⟨_, he, MachNew.empty _ _, hb⟩
  · have e0 : twoF a b = validate a := by unfold twoF; rw [if_neg hz]
    have e1 : catF a b = validate a := by unfold catF; rw [e0, if_neg hz]
    have e2 : catR a b = emptyM := by unfold catR; rw [e0, if_neg hz]
    rw [e1, e2]
    exact (rcat_bad1 va vb a b w B hB ha hb hz).mono fun e w' ⟨he, hb⟩ => ⟨_, he, MachNew.empty _ _, hb⟩
end Go.Proofs.Ytmgpcnkmmgkjgaa
