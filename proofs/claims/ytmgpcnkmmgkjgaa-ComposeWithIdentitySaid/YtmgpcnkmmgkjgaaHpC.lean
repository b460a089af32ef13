/- The queue's Push and Pop, and container/heap's, walked. -/
import Derived.Test.YtmgpcnkmmgkjgaaHpB
import Derived.OneCell
namespace Gm
open Go Go.RowKit
/-- The queue l: a variable in block Q, its row in blocks from base on. -/
def HpAt (t e : TypeId) (w : World) (Q base P : Nat) (l : List Pl) : Prop := ∃ v, Blk w Q t #[v] ∧ w.ownsRow base e 4 v l.length (plRow l) ∧ v.ownBlock ≠ some Q ∧ v.ownBlock ≠ some P
theorem HpAt.alloc {t e : TypeId} {w : World} {Q base P : Nat} {l : List Pl} (h : HpAt t e w Q base P l) (o : Obj) : HpAt t e (w.alloc o) Q base P l := by
  obtain ⟨v, h1, h2, h3, h4⟩ := h
  exact ⟨v, h1.alloc o, h2.alloc o, h3, h4⟩
theorem HpAt.drewN {t e : TypeId} {w : World} {Q base P : Nat} {l : List Pl} (h : HpAt t e w Q base P l) (n : Nat) : HpAt t e (w.drewN n) Q base P l := h
theorem HpAt.re {t e : TypeId} {w : World} {Q base P P' : Nat} {l : List Pl} (h : HpAt t e w Q base P l) (hP : w.heap.size ≤ P') : HpAt t e w Q base P' l := by
  obtain ⟨v, h1, h2, h3, h4⟩ := h
  exact ⟨v, h1, h2, h3, fun e => by have := (h2.lt _ e).2; omega⟩
theorem HpAt.low {t e : TypeId} {w : World} {Q base P P' : Nat} {l : List Pl} (h : HpAt t e w Q base P l) (hP : P' < base) : HpAt t e w Q base P' l := by
  obtain ⟨v, h1, h2, h3, h4⟩ := h
  exact ⟨v, h1, h2, h3, fun e => by have := (h2.lt _ e).1; omega⟩
theorem HpAt.set {t e : TypeId} {w : World} {Q base P : Nat} {l : List Pl} (h : HpAt t e w Q base P l) {a : Addr} (ha : a.block < base) (haQ : a.block ≠ Q) (u : Value) : HpAt t e (w.setCell a u) Q base P l := by
  obtain ⟨v, h1, h2, h3, h4⟩ := h
  exact ⟨v, h1.far (Ne.symm haQ) u, ownsRow_setCell_below h2 ha u, h3, h4⟩
end Gm
namespace Go.Proofs.Ytmgpcnkmmgkjgaa
open Go.RowKit Gm
set_option linter.unusedSimpArgs false
set_option linter.unusedVariables false
theorem place_info : (Try.prog.info? 91).map (fun i => (i.zero, i.size, i.bytes)) = some (some (.agg #[.int .i64 0, .int .i64 0, .int .i64 0, .int .i64 0]), 4, 32) := by kernel_rfl
set_option maxRecDepth 100000 in
set_option maxHeartbeats 2000000 in
theorem pl_push (l : List Pl) (x : Pl) (Q base P : Nat) (w : World) (hP : P < w.heap.size) (hPQ : P ≠ Q) (hB : base ≤ Q) (hn : l.length ≤ 1000000000000) (h : HpAt 93 91 w Q base P l) :
    Calls Try.prog 125 #[.pointer (some ⟨Q, 0, none⟩), .iface 91 (.agg #[.int .i64 (x.w : Int), .int .i64 (x.s : Int), .int .i64 (x.i : Int), .int .i64 (x.j : Int)])] w fun e w' => e = .returned (.tuple #[]) ∧
      HpAt 93 91 w' Q base P (l ++ [x]) ∧ Below base w w' ∧ w'.heap[P]? = w.heap[P]? := by
  obtain ⟨v, bQ, hown, hvQ, hvP⟩ := h
  obtain ⟨i0, hi0, hz0, hz1, hz2⟩ := info_parts place_info
  obtain ⟨n, hn'⟩ : ∃ n, n = l.length := ⟨_, rfl⟩
  rw [← hn'] at hown hn
  have HN := hide hn'
  have cQ : w.cell? ⟨Q, 0, none⟩ = some v := bQ.cell 0
  have fQ := bQ.frozen 0
  have lQ := bQ.lt
  have HROW := hide (show plRow [x] = [.int .i64 (x.w : Int), .int .i64 (x.s : Int), .int .i64 (x.i : Int), .int .i64 (x.j : Int)] from rfl)
  have hlow : ∀ k, v.ownBlock = some k → base ≤ k := fun k hk => (hown.lt k hk).1
  obtain ⟨xw, hxw⟩ : ∃ z : Int, z = (x.w : Int) := ⟨_, rfl⟩
  obtain ⟨xs, hxs⟩ : ∃ z : Int, z = (x.s : Int) := ⟨_, rfl⟩
  obtain ⟨xi, hxi⟩ : ∃ z : Int, z = (x.i : Int) := ⟨_, rfl⟩
  obtain ⟨xj, hxj⟩ : ∃ z : Int, z = (x.j : Int) := ⟨_, rfl⟩
  rw [← hxw, ← hxs, ← hxi, ← hxj] at HROW ⊢
  clear hn' hxw hxs hxi hxj
  go_enter Try.func125, Try.ntmps125
  go_wp2
  refine wp_mix (fun w' => w'.cell? ⟨Q, 0, none⟩ = some v) 8 [(0, false), (1, false), (2, false), (3, false), (4, false), (5, true), (6, true), (7, true)] (by kernel_rfl) (by kernel_rfl) ?_ ?_
  · go_simp
  simp only [List.drop_succ_cons, List.drop_zero]
  repeat (refine mix_q (v := ?_) (by rfl) (by rfl) ?_ ?_; rotate_left; (focus (intro w' hC; (try dsimp only at hC); go_simp; (first | done | with_reducible rfl))); simp only [Act.put, List.setIfInBounds_toArray, List.set_cons_zero, List.set_cons_succ])
  refine mix_l (by rfl) (by rfl) (fun K hK => ?_)
  go_simp
  refine hK _ _ (by go_simp) ?_
  clear hK K
  refine mix_l (by rfl) (by rfl) (fun K hK => ?_)
  go_simp
  refine hK _ _ (by go_simp) ?_
  clear hK K
  refine mix_l (by rfl) (by rfl) (fun K hK => ?_)
  refine wp_append_lies _ (.tmp 7) (.tmp 10) 93 (by rfl) base 91 i0 _ 4 32 Try.underlying93 hi0 hz0 hz1 hz2 rfl (by omega) v _ _ (by rfl) ((own_drew hown).alloc _)
        ⟨w.heap.size, 0, none⟩ 1 1 [.int .i64 xw, .int .i64 xs, .int .i64 xi, .int .i64 xj] (by rfl) (by rfl) (World.news_of_block (cs := #[.int .i64 xw, .int .i64 xs, .int .i64 xi, .int .i64 xj]) (t := 91) (fr := (0, 0)) (Blk.at_ (by simp))) (by simp [Value.oneCell'])
        (by omega) (by simp only [maxLen]; omega) (by omega) (by simp; omega) (w.heap.size + 1) (by simp) ?_
  intro gg cap w1 hown1 hgrow hat hltg
  have fQ1 : w1.frozen? ⟨Q, 0, none⟩ = false := far_free hgrow hvQ (by simp; omega) (by go_simp)
  have cQ1 : w1.cell? ⟨Q, 0, none⟩ = some v := far_cell hgrow hvQ (by go_simp)
  have bQ1 : Blk w1 Q 93 #[v] := (bQ.drew.alloc _).grown hgrow (Ne.symm hvQ)
  refine hK _ _ cQ1 ?_
  clear hK K
  refine mix_nil ?_; try simp only [Act.put, List.setIfInBounds_toArray, List.set_cons_zero, List.set_cons_succ]
  go_wp2
  refine NoPanic.normal ?_
  go_wp2
  have hgQ : gg ≠ Q := by
    rcases hat with e | e
    · intro e2; rw [e2] at e; exact hvQ e
    · omega
  have hgP : gg ≠ P := by
    rcases hat with e | e
    · intro e2; rw [e2] at e; exact hvP e
    · omega
  have hPb : w1.heap[P]? = w.heap[P]? := (hgrow.block P (by simp; omega) (Ne.symm hvP)).trans (Below.heap_alloc w _ P hP)
  have hb1 : Below base w w1 := ((Below.refl base w).alloc (by omega) _ |> fun h => below_drewN h 1).grown hgrow (by simp; omega) (fun k hk => hlow k hk)
  go_end0
  refine ⟨rfl, ⟨.slice (some ⟨gg, 0, none⟩) (n + 1) cap, ?_, ?_, ?_, ?_⟩, ?_, ?_⟩
  · exact bQ1.set_ 0 _
  · rw [List.length_append, ← HN.out, plRow_append, HROW.out]
    exact ownsRow_setCell_other hown1 (by simp [Value.ownBlock]; exact hgQ) _
  · simp [Value.ownBlock]; exact hgQ
  · simp [Value.ownBlock]; exact hgP
  · exact hb1.setCell (by simpa using hB) _
  · exact (Below.heap_setCell w1 ⟨Q, 0, none⟩ _ P (by simpa using hPQ)).trans hPb
theorem own_take {w : World} {base n c g : Nat} {e : TypeId} {l : List Pl} (h : w.ownsRow base e 4 (.slice (some ⟨g, 0, none⟩) (n + 1) c) (n + 1) (plRow l)) (hl : l.length = n + 1) : w.ownsRow base e 4 (.slice (some ⟨g, 0, none⟩) n c) n (plRow (l.take n)) := by
  refine ⟨by rw [plRow_length, List.length_take]; omega, ?_⟩
  rcases h.2 with ⟨_, h0⟩ | ⟨g', cap', cur, h1, h2, h3, h4, h5, h6, h7⟩
  · omega
  · injection h1 with h1 _ hc
    injection h1 with h1
    injection h1 with h1
    subst h1
    subst hc
    refine .inr ⟨g, c, cur, rfl, h2, h3, by omega, h5, h6, ?_⟩
    have e1 : plRow l = plRow (l.take n) ++ plRow (l.drop n) := by rw [← plRow_append, List.take_append_drop]
    have e2 : (plRow (l.take n)).length = n * 4 := by rw [plRow_length, List.length_take]; omega
    have e3 : cur.toList.take (n * 4) = (cur.toList.take ((n + 1) * 4)).take (n * 4) := by rw [List.take_take]; congr 1; omega
    rw [e3, h7, e1, ← e2, List.take_left]
theorem run_upto (b n m c : Nat) (hn : n ≤ m) (hc : m ≤ c) (h0 : 0 < c) (W : World) :
    (Instr.slice 93 (.slice (some ⟨b, 0, none⟩) m c) none (some (.int .i64 (n : Int))) none).run Try.prog W = .ok (.slice (some ⟨b, 0, none⟩) n c) W := by
  have hne : ¬ c = 0 := by omega
  simp [go_sem, sliced, Addr.add, hne, (by omega : (n : Int) ≤ c), (by omega : n ≤ c)]
theorem below_of_grown {w w' : World} {g base : Nat} (h : w.grownBy w' (some g)) (hb : base ≤ g) (hbz : base ≤ w.heap.size) : Below base w w' :=
  (Below.refl base w).grown h hbz (fun k hk => by injection hk with hk; omega)
set_option maxRecDepth 100000 in
set_option maxHeartbeats 2000000 in
theorem pl_pop (l : List Pl) (n Q base P : Nat) (w : World) (hB : base ≤ Q) (hn : l.length = n + 1) (hnb : n ≤ 1000000000000) (h : HpAt 93 91 w Q base P l) :
    Calls Try.prog 124 #[.pointer (some ⟨Q, 0, none⟩)] w fun e w' => e = .returned (.iface 91 (.agg #[.int .i64 ((l.getD n dP).w : Int), .int .i64 ((l.getD n dP).s : Int), .int .i64 ((l.getD n dP).i : Int), .int .i64 ((l.getD n dP).j : Int)])) ∧
      HpAt 93 91 w' Q base P (l.take n) ∧ Below base w w' := by
  obtain ⟨v, bQ, hown, hvQ, hvP⟩ := h
  rw [hn] at hown
  obtain ⟨g, c, rfl, hbg, hgz, hnc, hcm⟩ := own_formN hown (by omega)
  obtain ⟨a0, a1, a2, a3⟩ := pl_at hown hn (show n < n + 1 by omega) rfl
  have cQ : w.cell? ⟨Q, 0, none⟩ = some (.slice (some ⟨g, 0, none⟩) (n + 1) c) := bQ.cell 0
  have fQ := bQ.frozen 0
  have lQ := bQ.lt
  have hgQ : g ≠ Q := by intro e; rw [e] at hvQ; exact hvQ rfl
  have hgP : g ≠ P := by intro e; rw [e] at hvP; exact hvP rfl
  have ht := own_take hown hn
  have hln : (l.take n).length = n := by rw [List.length_take]; omega
  obtain ⟨x, hx⟩ : ∃ x, x = l.getD n dP := ⟨_, rfl⟩
  rw [← hx] at a0 a1 a2 a3 ⊢
  obtain ⟨xw, hxw⟩ : ∃ z : Int, z = (x.w : Int) := ⟨_, rfl⟩
  obtain ⟨xs, hxs⟩ : ∃ z : Int, z = (x.s : Int) := ⟨_, rfl⟩
  obtain ⟨xi, hxi⟩ : ∃ z : Int, z = (x.i : Int) := ⟨_, rfl⟩
  obtain ⟨xj, hxj⟩ : ∃ z : Int, z = (x.j : Int) := ⟨_, rfl⟩
  rw [← hxw] at a0 ⊢
  rw [← hxs] at a1 ⊢
  rw [← hxi] at a2 ⊢
  rw [← hxj] at a3 ⊢
  have HOT := hide ht
  have HLN := hide hln
  have hsl := fun W => run_upto g n (n + 1) c (by omega) hnc (by omega) W
  have j0 : (0 : Int) ≤ (n : Int) := by omega
  have j1 : (n : Int) < (n : Int) + 1 := by omega
  clear hown hx hxw hxs hxi hxj ht hn hln hcm
  go_enter Try.func124, Try.ntmps124
  go_wp2
  go_ret
  refine ⟨rfl, ⟨.slice (some ⟨g, 0, none⟩) n c, ?_, ?_, ?_, ?_⟩, ?_⟩
  · exact (bQ.set_ 0 _).alloc _
  · rw [HLN.out]
    exact (ownsRow_setCell_other HOT.out (a := ⟨Q, 0, none⟩) (by simp [Value.ownBlock]; exact hgQ) _).alloc _
  · simp [Value.ownBlock]; exact hgQ
  · simp [Value.ownBlock]; exact hgP
  · exact ((Below.refl base w).setCell (p := ⟨Q, 0, none⟩) (by simpa using hB) _).alloc (by simp [World.setCell]; omega) _
set_option maxRecDepth 100000 in
set_option maxHeartbeats 4000000 in
theorem heap_push (l : List Pl) (x : Pl) (Q base P : Nat) (w : World) (hP : P < w.heap.size) (hPQ : P ≠ Q) (hB : base ≤ Q) (hbz : base ≤ w.heap.size) (hn : l.length ≤ 1000000000) (h : HpAt 93 91 w Q base P l) (hO : hOrd l l.length) :
    Calls Try.prog 69 #[.iface 89 (.pointer (some ⟨Q, 0, none⟩)), .iface 91 (.agg #[.int .i64 (x.w : Int), .int .i64 (x.s : Int), .int .i64 (x.i : Int), .int .i64 (x.j : Int)])] w fun e w' => e = .returned (.tuple #[]) ∧
      ∃ l', HpAt 93 91 w' Q base P l' ∧ l'.Perm (x :: l) ∧ hOrd l' l'.length ∧ Below base w w' ∧ w'.heap[P]? = w.heap[P]? := by
  have eL := ent_len
  have eP := ent_push
  have mP := fun m W => meth_push m (.pointer (some ⟨Q, 0, none⟩)) W
  have HPU := hide (pl_push l x Q base P w hP hPQ hB (by omega) h)
  have HST := hide (up_start hO rfl x)
  have lQ : Q < w.heap.size := by obtain ⟨v, bQ, _⟩ := h; exact bQ.lt
  have HPH := hide hP
  obtain ⟨n, hn'⟩ : ∃ n, n = l.length := ⟨_, rfl⟩
  rw [← hn'] at hn HST
  have HN := hide hn'
  clear h hO hn'
  go_enter Try.func69, Try.ntmps69
  go_wp2_with fail
  refine HPU.out.mono ?_
  rintro e w1 ⟨rfl, ⟨v1, bQ1, hown1, hv1, hv1P⟩, hb1, hP1⟩
  have hl1 : (l ++ [x]).length = n + 1 := by rw [List.length_append, ← HN.out]; rfl
  rw [hl1] at hown1
  obtain ⟨g, c, rfl, hbg, hgz, hnc, hcm⟩ := own_formN hown1 (by omega)
  have cQ1 : w1.cell? ⟨Q, 0, none⟩ = some (.slice (some ⟨g, 0, none⟩) (n + 1) c) := bQ1.cell 0
  have hgQ : g ≠ Q := by intro e; rw [e] at hv1; exact hv1 rfl
  have hgP : g ≠ P := by intro e; rw [e] at hv1P; exact hv1P rfl
  have mL := fun m => meth_len m _ w1 _ cQ1
  have HU := hide (hp_up (l ++ [x]) (n + 1) c g base Q n w1 hl1 (by unfold big; omega) (by omega) cQ1 hgQ hown1 HST.out)
  have HL1 := hide hl1
  have HB1 := hide bQ1
  have hz1 := hb1.size
  clear HPU hown1 hl1 hv1 hcm bQ1
  go_wp2_with (first
    | (go_at_fn 67; refine (pl_len _ _ _ _).mono ?_; rintro e w' ⟨rfl, rfl⟩)
    | (go_at_call 77; refine HU.out.mono ?_; rintro e w2 ⟨rfl, l2, hown2, hp2, ho2, hg2⟩))
  go_end0
  have hl2 : l2.length = n + 1 := by rw [hp2.length_eq]; exact HL1.out
  refine ⟨rfl, l2, ⟨_, HB1.out.grown hg2 (by simpa using Ne.symm hgQ), by rw [hl2]; exact hown2, by simpa [Value.ownBlock] using hgQ, by simpa [Value.ownBlock] using hgP⟩, hp2.trans (List.perm_append_singleton _ _), by rw [hl2]; exact ho2, hb1.trans (below_of_grown hg2 hbg (by omega)), (hg2.block P (by omega) (by simpa using Ne.symm hgP)).trans hP1⟩
set_option maxRecDepth 100000 in
set_option maxHeartbeats 4000000 in
theorem heap_pop (l : List Pl) (n Q base P : Nat) (w : World) (hB : base ≤ Q) (hbz : base ≤ w.heap.size) (hl : l.length = n + 1) (hn : n ≤ 1000000000) (h : HpAt 93 91 w Q base P l) (hO : hOrd l l.length) :
    Calls Try.prog 68 #[.iface 89 (.pointer (some ⟨Q, 0, none⟩))] w fun e w' =>
      ∃ x l', e = .returned (.iface 91 (.agg #[.int .i64 (Pl.w x : Int), .int .i64 (Pl.s x : Int), .int .i64 (Pl.i x : Int), .int .i64 (Pl.j x : Int)])) ∧
        HpAt 93 91 w' Q base P l' ∧ l.Perm (x :: l') ∧ (∀ y ∈ l', x.w ≤ y.w) ∧ hOrd l' l'.length ∧ Below base w w' := by
  have eL := ent_len
  have eS := ent_swap
  have eP := ent_pop
  have mP := fun m W => meth_pop m (.pointer (some ⟨Q, 0, none⟩)) W
  obtain ⟨v, bQ, hown, hvQ, hvP⟩ := h
  rw [hl] at hown hO
  obtain ⟨g, c, rfl, hbg, hgz, hnc, hcm⟩ := own_formN hown (by omega)
  have cQ : w.cell? ⟨Q, 0, none⟩ = some (.slice (some ⟨g, 0, none⟩) (n + 1) c) := bQ.cell 0
  have hgQ : g ≠ Q := by intro e; rw [e] at hvQ; exact hvQ rfl
  have hgP : g ≠ P := by intro e; rw [e] at hvP; exact hvP rfl
  have mL := fun m => meth_len m _ w _ cQ
  have mS := fun m => meth_swap m _ w _ cQ
  have HS := hide (pl_swap l (n + 1) c g base 0 n w hl (by unfold maxLen; omega) (by omega) (by omega) hown)
  have HST := hide (dn_start hl hO)
  have HOR := hide hO
  have HLL := hide hl
  have HBQ := hide bQ
  clear hown hO hl bQ hvQ hcm
  go_enter Try.func68, Try.ntmps68
  go_wp2_with (first
    | (go_at_fn 67; refine (pl_len _ _ _ _).mono ?_; rintro e w' ⟨rfl, rfl⟩)
    | (go_at_fn 126; refine HS.out.mono ?_; rintro e w1 ⟨rfl, hown1, hg1⟩)
    | fail)
  have cQ1 : w1.cell? ⟨Q, 0, none⟩ = some (.slice (some ⟨g, 0, none⟩) (n + 1) c) := hg1.cell cQ (by simpa using Ne.symm hgQ)
  have hl1 : (swp l 0 n).length = n + 1 := by rw [swp_len]; exact HLL.out
  refine (hp_down (swp l 0 n) (n + 1) c g base Q n w1 hl1 (by unfold big; omega) (by omega) (by omega) cQ1 hgQ hown1 HST.out).mono ?_
  rintro e w2 ⟨⟨b, rfl⟩, l2, hown2, hp2, ho2, hx2, hg2⟩
  have hp2' : l2.Perm l := hp2.trans (swp_perm (by rw [HLL.out]; omega) (by rw [HLL.out]; omega))
  have hl2 : l2.length = n + 1 := by rw [hp2'.length_eq]; exact HLL.out
  have hlast : l2.getD n dP = l.getD 0 dP := by
    rw [hx2 n (Nat.le_refl _), getD_swp (by rw [HLL.out]; omega) (by rw [HLL.out]; omega), if_pos rfl]
  have bQ2 := (HBQ.out.grown hg1 (by simpa using Ne.symm hgQ)).grown hg2 (by simpa using Ne.symm hgQ)
  have hb2 : Below base w w2 := (below_of_grown hg1 hbg hbz).trans (below_of_grown hg2 hbg (by have := hg1.size; omega))
  have hpop := pl_pop l2 n Q base P w2 hB hl2 (by omega) ⟨_, bQ2, by rw [hl2]; exact hown2, by simpa [Value.ownBlock] using hgQ, by simpa [Value.ownBlock] using hgP⟩
  have hlaw := pop_law HLL.out HOR.out hp2' hlast
  rw [hlast] at hpop
  have HPOP := hide hpop
  have HLAW := hide hlaw
  have HO2 := hide (show hOrd (l2.take n) (l2.take n).length from by
    rw [List.length_take, Nat.min_eq_left (by omega)]
    intro k h0 hk
    have e : ∀ k, k < n → kw (l2.take n) k = kw l2 k := fun k hk => by unfold kw; simp [List.getD, hk]
    rw [e _ (by omega), e _ hk]
    exact ho2 k h0 hk)
  clear hpop hlaw hp2 hp2' hlast hown2 hown1 hx2 ho2 bQ2 HS HST
  go_wp2_with (go_at_fn 124; refine HPOP.out.mono ?_; rintro e w3 ⟨rfl, hp3, hb3⟩)
  go_ret
  exact ⟨_, _, rfl, hp3, HLAW.out.1, HLAW.out.2, HO2.out, hb2.trans hb3⟩
end Go.Proofs.Ytmgpcnkmmgkjgaa
