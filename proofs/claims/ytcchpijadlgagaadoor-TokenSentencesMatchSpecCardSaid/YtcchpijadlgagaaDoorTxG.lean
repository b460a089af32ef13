/- letters.Fold and the reference's Folded: a text in lower case. -/
import Derived.Test.YtcchpijadlgagaaDoorTxL2
namespace Gm
open Go Go.RowKit
theorem own_set {w : World} {base n : Nat} {e : TypeId} {v : Value} {xs : List Value} (h : w.ownsRow base e 1 v n xs) {g cap : Nat} (hv : v = .slice (some ⟨g, 0, none⟩) n cap) (hn : 0 < n) (i : Nat) (u : Value) :
    (w.setCell ⟨g, i, none⟩ u).ownsRow base e 1 v n (xs.set i u) := by
  refine ⟨by rw [List.length_set]; exact h.1, ?_⟩
  rcases h.2 with ⟨_, h0⟩ | ⟨g', cap', cur, h1, h2, h3, h4, h5, h6, h7⟩
  · omega
  · rw [hv] at h1
    injection h1 with h1 _ hc
    injection h1 with h1
    injection h1 with h1
    subst h1
    refine .inr ⟨g, cap', cur.setIfInBounds i u, by rw [hv, hc], h2, ?_, h4, h5, by simpa using h6, ?_⟩
    · simp [World.setCell, Array.getElem?_modify, h3]
    · rw [Array.toList_setIfInBounds, List.take_set, h7]
theorem own_at {w : World} {base n : Nat} {e : TypeId} {v : Value} {xs : List Value} (h : w.ownsRow base e 1 v n xs) {g cap : Nat} (hv : v = .slice (some ⟨g, 0, none⟩) n cap) {j : Nat} {u : Value} (hu : xs[j]? = some u) : w.cell? ⟨g, j, none⟩ = some u := by
  have := h.cells (g := g) (by rw [hv]; rfl) j u hu
  rw [addr_add, Nat.zero_add] at this
  exact this
theorem own_free {w : World} {base n : Nat} {e : TypeId} {v : Value} {xs : List Value} (h : w.ownsRow base e 1 v n xs) {g cap : Nat} (hv : v = .slice (some ⟨g, 0, none⟩) n cap) (hn : 0 < n) (j : Nat) : w.frozen? ⟨g, j, none⟩ = false := by
  rcases h.2 with ⟨_, h0⟩ | ⟨g', cap', cur, h1, h2, h3, h4⟩
  · omega
  · rw [hv] at h1
    injection h1 with h1 _ hc
    injection h1 with h1
    injection h1 with h1
    subst h1
    simp [World.frozen?, h3]
theorem own_form {w : World} {base n : Nat} {e : TypeId} {A : Option Addr} {c : Nat} {xs : List Value} (h : w.ownsRow base e 1 (.slice A n c) n xs) (hn : 0 < n) : ∃ g, A = some ⟨g, 0, none⟩ ∧ base ≤ g ∧ g < w.heap.size := by
  obtain ⟨g, cap, hv, h1, h2⟩ := h.form hn
  injection hv with hA
  exact ⟨g, hA, h1, h2⟩
def mixL (f : Int → Int) (ps : List Int) (k : Nat) : List Int := (ps.take k).map f ++ ps.drop k
theorem mixL_zero (f : Int → Int) (ps : List Int) : mixL f ps 0 = ps := by simp [mixL]
theorem mixL_end (f : Int → Int) (ps : List Int) (k : Nat) (h : ps.length ≤ k) : mixL f ps k = ps.map f := by
  unfold mixL; rw [List.take_of_length_le h, List.drop_eq_nil_of_le h, List.append_nil]
theorem mixL_at (f : Int → Int) {ps : List Int} {k : Nat} (h : k < ps.length) : (intRow (mixL f ps k))[k]? = some (.int .i64 (ps.getD k 0)) := by
  unfold mixL intRow
  have hl : ((ps.take k).map f).length = k := by simp; omega
  rw [List.getElem?_map, List.getElem?_append_right (by omega), hl]
  simp [h]
theorem mixL_set (f : Int → Int) {ps : List Int} {k : Nat} (h : k < ps.length) : (intRow (mixL f ps k)).set k (.int .i64 (f (ps.getD k 0))) = intRow (mixL f ps (k + 1)) := by
  have hl : ((ps.take k).map f).length = k := by simp; omega
  have e : (mixL f ps k).set k (f (ps.getD k 0)) = mixL f ps (k + 1) := by
    unfold mixL
    rw [List.set_append_right _ _ (by omega), hl, Nat.sub_self, takeI_push h rfl, List.map_append, List.append_assoc]
    congr 1
    rw [List.drop_eq_getElem_cons h]
    simp only [List.set_cons_zero, List.getD, List.getElem?_eq_getElem h, Option.getD_some]
    rfl
  rw [← e]
  simp [intRow, List.map_set]
end Gm
namespace Go.Proofs.YtcchpijadlgagaaDoor
open Go.RowKit Gm
set_option linter.unusedSimpArgs false
theorem scal_low {p : Int} (h : scal p = true) : scal (lowP p) = true := by
  rw [scal_iff] at h ⊢
  unfold lowP
  (repeat' split) <;> omega
theorem allS_low {ps : List Int} (h : allS ps) : allS (ps.map lowP) := by
  intro q hq
  obtain ⟨p, hp, rfl⟩ := List.mem_map.1 hq
  exact scal_low (h p hp)
def foldR (l : List UInt8) : (Int × Int) × List UInt8 := ((decR l).1, encL ((decR l).2.map lowP))
theorem rlower_b (p : Int) (w : World) (h0 : 0 ≤ p) (h1 : p ≤ 1114111) :
    Calls Tryd.prog 44 #[.int .i64 p] w fun e w' => e = .returned (.int .i64 (lowP p)) ∧ Below w.heap.size w w' :=
  (rlower_any p w h0 h1).mono fun _ _ ⟨h1, h2⟩ => ⟨h1, by subst h2; exact Below.refl _ _⟩
set_option maxHeartbeats 1000000 in
theorem fold_text_any (s : ByteArray) (w : World) (hT : Tabs w) (hs : s.size ≤ maxLen) :
    Calls Tryd.prog 42 #[.string s] w fun e w' => e = .returned (.tuple #[.string ⟨(foldR s.data.toList).2.toArray⟩, .agg #[.int .i64 (foldR s.data.toList).1.1, .int .i64 (foldR s.data.toList).1.2]]) ∧ Below w.heap.size w w' := by
  have hne := fun a b c d W => run_neq_fault a b c d W
  have hf0 : fEq 0 0 0 0 = true := rfl
  have hT' : Tabs (w.alloc (Obj.cells #[.int .i64 0, .int .i64 0] 25)) := tabs_keep hT (show Below w.heap.size w _ by go_grown) (Nat.le_refl _)
  have hD := decode_any s _ hT' hs
  unfold foldR
  clear hT hT'
  rcases decR_cases s.data.toList with ⟨ps, hq⟩ | ⟨hq, hq2⟩
  · rw [hq] at hD ⊢
    obtain ⟨g1, g2, g3⟩ := decR_ok hq
    have hlen := encL_len_le ps
    have hn4 : ps.length ≤ 4000 := by rw [← g2] at hlen; omega
    have HD := hide hD
    have HA := hide g1
    clear hD hq g1 g2 g3 hlen hs
    go_enter Tryd.func42, Tryd.ntmps42
    go_wp2_with fail
    refine HD.out.mono ?_
    rintro e w1 ⟨v, rfl, hown, hb1⟩
    clear HD
    obtain ⟨n, hn⟩ : ∃ n, n = ps.length := ⟨_, rfl⟩
    rw [← hn] at hown hn4
    have HN := hide hn
    clear hn
    obtain ⟨A, c, rfl, hnc, hcm⟩ := own_value hown
    unfold maxLen at hcm
    have hz1 : w.heap.size < w1.heap.size := by have := hb1.size; simp at this; omega
    have hbw : Below w.heap.size w w1 := ((Below.refl _ _).alloc (Nat.le_refl _) _).trans (hb1.mono (by simp))
    have bR := (Blk.new w 25 #[.int .i64 0, .int .i64 0]).below hb1 (by simp)
    obtain ⟨W0, hW0⟩ : ∃ W0 : World, W0 = w1.alloc (Obj.cells #[.int .i64 0, .int .i64 0] 25) := ⟨_, rfl⟩
    have hown0 : W0.ownsRow (w.heap.size + 1) 3 1 (.slice A n c) n (intRow ps) := by rw [hW0]; have := hown.alloc (Obj.cells #[.int .i64 0, .int .i64 0] 25); simpa using this
    have bR0 : Blk W0 w.heap.size 25 #[.int .i64 0, .int .i64 0] := by rw [hW0]; exact bR.alloc _
    have hbw0 : Below w.heap.size w W0 := by rw [hW0]; exact hbw.alloc hbw.size _
    have HW0 := hide hW0
    clear hown bR hb1 hbw hW0
    go_wp2
    rw [← HW0.out]
    go_loopw [18] (fun iv wr => ∃ (k : Nat), k ≤ n ∧ iv = .int .i64 k ∧ wr.ownsRow (w.heap.size + 1) 3 1 (.slice A n c) n (intRow (mixL lowP ps k)) ∧
        Blk wr w.heap.size 25 #[.int .i64 0, .int .i64 0] ∧ Below w.heap.size w wr) (fun iv _ => n - (intOf iv).toNat)
    case atStart => exact ⟨0, by omega, rfl, by rw [mixL_zero]; exact hown0, bR0, hbw0⟩
    case round =>
      clear hown0 bR0 hbw0 HW0 hz1
      obtain ⟨k, hk, rfl, hown, bR, hbw⟩ := hrel
      by_cases hkn : k < n
      · obtain ⟨g, rfl, hg, hgz⟩ := own_form hown (by omega)
        have hkl : k < ps.length := by rw [← HN.out]; exact hkn
        have c0 := own_at hown rfl (mixL_at lowP hkl)
        have hset := fun (W : World) (h : W.ownsRow (w.heap.size + 1) 3 1 (.slice (some ⟨g, 0, none⟩) n c) n (intRow (mixL lowP ps k))) => mixL_set lowP hkl ▸ own_set h rfl (by omega) k (.int .i64 (lowP (ps.getD k 0)))
        have hsc := HA.out _ (getI_mem hkl)
        obtain ⟨p, hp⟩ : ∃ p, p = ps.getD k 0 := ⟨_, rfl⟩
        rw [← hp] at c0 hsc
        simp only [← hp] at hset
        have hsc := scal_iff.1 hsc
        have hp0 : 0 ≤ p ∧ p ≤ 1114111 := by omega
        obtain ⟨hp0, hp1⟩ := hp0
        have HSET := hide hset
        have HOWN := hide hown
        have bRl := bR.lt
        have HR := hide bR
        clear hset hp hsc hown bR hkl
        go_wp2_with fail
        refine (fold_any p _ hp0 hp1).mono ?_
        rintro e w2 ⟨rfl, hb2⟩
        have hown2 := own_below HOWN.out hb2 (Nat.le_refl _)
        have c1 := keep_cell hb2 c0 hgz
        have cf := own_free hown2 rfl (by omega) k
        have hgz2 : g < w2.heap.size := by have := hb2.size; omega
        have hbw2 : Below w.heap.size w w2 := hbw.trans (hb2.mono hbw.size)
        have bR2 := HR.out.below hb2 bRl
        have hown3 := HSET.out _ hown2
        have HO3 := hide hown3
        have HB2 := hide bR2
        clear hown2 hb2 HOWN HSET c0 hgz HR hown3 bR2 bRl hbw
        go_wp2
        go_roundw
        case rel => exact ⟨k + 1, by omega, by go_num, HO3.out, HB2.out.far (p := ⟨g, k, none⟩) (by simp; omega) _, hbw2.setCell (p := ⟨g, k, none⟩) (by simp; omega) _⟩
        case measure => simp [intOf]; omega
      · have hmix : mixL lowP ps k = ps.map lowP := mixL_end _ _ _ (by rw [← HN.out]; omega)
        rw [hmix] at hown
        have hll : (ps.map lowP).length = n := by rw [List.length_map, ← HN.out]
        have HWR := hide (write_any A n c (ps.map lowP) wr wr.heap.size hll (by omega) (Nat.le_refl _) (Rd.of_own hown (hll ▸ intRow_at _)) (allS_low HA.out))
        have bRl := bR.lt
        have HR := hide bR
        clear hmix hown hll bR
        go_wp2_with fail
        refine HWR.out.mono ?_
        rintro e w2 ⟨rfl, hb2⟩
        have hbw2 : Below w.heap.size w w2 := hbw.trans (hb2.mono hbw.size)
        have bR2 := HR.out.below hb2 bRl
        have q0 : w2.cell? ⟨w.heap.size, 0, none⟩ = some (.int .i64 0) := bR2.cell 0
        have q1 : w2.cell? ⟨w.heap.size, 1, none⟩ = some (.int .i64 0) := bR2.cell 1
        have f0 := bR2.frozen 0
        have f1 := bR2.frozen 1
        have hz := bR2.lt
        clear bR2 hb2 HR HWR hbw
        go_wp2
        exact bodyPost_ret (v := .tuple #[.string ⟨(encL (ps.map lowP)).toArray⟩, .agg #[.int .i64 0, .int .i64 0]]) (by simp [results, Tryd.results42, go_sem, q0, q1, f0, f1, hz]) rfl ⟨rfl, by go_grown⟩
  · obtain ⟨a1, h1⟩ : ∃ x, x = (decR s.data.toList).1.1 := ⟨_, rfl⟩
    obtain ⟨a2, h2⟩ : ∃ x, x = (decR s.data.toList).1.2 := ⟨_, rfl⟩
    rw [hq2]
    rw [← h1] at hq
    simp only [← h1, ← h2] at hD ⊢
    have hfa := fEq_ne (b := a2) hq
    have HD := hide hD
    clear hD hq h1 h2 hq2 hs
    go_enter Tryd.func42, Tryd.ntmps42
    go_wp2_with fail
    refine HD.out.mono ?_
    rintro e w1 ⟨v, rfl, hown, hb1⟩
    clear HD hown
    have hz1 : w.heap.size < w1.heap.size := by have := hb1.size; simp at this; omega
    have hbw : Below w.heap.size w w1 := ((Below.refl _ _).alloc (Nat.le_refl _) _).trans (hb1.mono (by simp))
    have bR := (Blk.new w 25 #[.int .i64 0, .int .i64 0]).below hb1 (by simp)
    have q0 : w1.cell? ⟨w.heap.size, 0, none⟩ = some (.int .i64 0) := bR.cell 0
    have q1 : w1.cell? ⟨w.heap.size, 1, none⟩ = some (.int .i64 0) := bR.cell 1
    have f0 := bR.frozen 0
    have f1 := bR.frozen 1
    clear bR hb1
    go_wp2
    refine wp_quiet_tail_lit 2 (by kernel_rfl) (by kernel_rfl) ?_
    simp only [List.take_succ_cons, List.take_zero, List.drop_succ_cons, List.drop_zero]
    repeat (quiet_step (fail))
    refine wpQuiet_nil ?_
    intro _ hw'; obtain ⟨nq, hw''⟩ := hw'; subst hw''
    go_wp2
    exact bodyPost_ret (v := .tuple #[.string ⟨#[]⟩, .agg #[.int .i64 a1, .int .i64 a2]]) (by simp [results, Tryd.results42, go_sem, q0, q1, f0, f1, hz1]) rfl ⟨rfl, by go_grown; exact below_drewN (hbw.alloc hbw.size _) _⟩
end Go.Proofs.YtcchpijadlgagaaDoor
