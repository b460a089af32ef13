/- slices.Clone at []int, and machine.reach: which states are reached. -/
import Derived.Test.YtopakcbhodnipaaCmp
import Derived.Test.YtopakcbhodnipaaOwn
import Derived.Test.YtopakcbhodnipaaPlG
import Derived.Deep.RegionHeld3
import Derived.Deep.LoopGhost
namespace Gm
open Go Go.RowKit
theorem adjRow_push {back : Bool} {l : List Arc} {a : Arc} {key : Nat} (hkey : akey back a = (key : Int)) :
    (fun j => if j = key then intRow (adj back l key) ++ [.int .i64 (aval back a)] else intRow (adj back l j)) = fun j => intRow (adj back (l ++ [a]) j) := by
  funext j
  rw [adj_snoc]
  by_cases h : j = key
  · subst h; rw [if_pos rfl, if_pos hkey, intRow_append]; rfl
  · rw [if_neg h, if_neg (by rw [hkey]; omega), List.append_nil]
theorem adjLen_push {back : Bool} {l : List Arc} {a : Arc} {key : Nat} (hkey : akey back a = (key : Int)) :
    (fun j => if j = key then (adj back l key).length + 1 else (adj back l j).length) = fun j => (adj back (l ++ [a]) j).length := by
  funext j
  rw [adj_snoc]
  by_cases h : j = key
  · subst h; rw [if_pos rfl, if_pos hkey]; simp
  · rw [if_neg h, if_neg (by rw [hkey]; omega), List.append_nil]
theorem take_push {l : List Arc} {k : Nat} {a : Arc} (hk : k < l.length) (ha : l.getD k dA = a) : l.take (k + 1) = l.take k ++ [a] := by
  have e : l.getD k dA = l[k] := by simp [hk]
  rw [List.take_succ_eq_append_getElem hk, ← e, ha]
theorem getD_mem {l : List Arc} {k : Nat} {a : Arc} (hk : k < l.length) (ha : l.getD k dA = a) : a ∈ l := by
  have e : l.getD k dA = l[k] := by simp [hk]
  rw [← ha, e]; exact List.getElem_mem hk
end Gm
namespace Go.Proofs.Ytopakcbhodnipaa
open Go.RowKit Gm
set_option linter.unusedSimpArgs false
theorem int_info : (Try.prog.info? 3).map (fun i => (i.zero, i.size, i.bytes)) = some (some (.int .i64 0), 1, 8) := by kernel_rfl
theorem ints_info : (Try.prog.info? 22).map (fun i => (i.zero, i.size, i.bytes)) = some (some (.slice none 0 0), 1, 24) := by kernel_rfl
theorem bool_info : (Try.prog.info? 4).map (fun i => (i.zero, i.size, i.bytes)) = some (some (.bool false), 1, 1) := by kernel_rfl
theorem clone_any (A : Option Addr) (n c : Nat) (l : List Int) (w : World) (B : Nat) (hl : l.length = n) (hn : n ≤ 1000000) (h : Rd w B 1 A n (intCell l)) :
    Calls Try.prog 68 #[.slice A n c] w fun e w' => ∃ v, e = .returned v ∧ w'.ownsRow w.heap.size 3 1 v n (intRow l) ∧ Below w.heap.size w w' := by
  obtain ⟨i0, hi0, hz0, hz1, hz2⟩ := info_parts int_info
  have hA : A = none → n = 0 := by
    intro e
    rcases Nat.eq_zero_or_pos n with h0 | h0
    · exact h0
    · obtain ⟨b, off, h1, _⟩ := h h0
      rw [e] at h1; cases h1
  have he := fun W => Lib.run_eql_slice_nil (P := Try.prog) W 22 3 A n c 0 0 Try.underlying22
  rcases A with _ | ad
  · have h0 := hA rfl
    subst h0
    obtain rfl : l = [] := List.eq_nil_of_length_eq_zero hl
    go_enter Try.func68, Try.ntmps68
    go_wp2
    go_ret
    exact ⟨_, rfl, World.ownsRow_nil _ _ _ _, Below.refl _ _⟩
  · go_enter Try.func68, Try.ntmps68
    have h' : Rd (w.alloc (Obj.cells #[] 3)) B 1 (some ad) n (intCell l) := by
      intro h0
      obtain ⟨b, off, h1, h2, h3⟩ := h h0
      refine ⟨b, off, h1, h2, fun i j hi hj => ?_⟩
      have h4 := h3 i j hi hj
      rw [World.cell?_alloc_lt _ _ _ (World.block_lt_of_cell? w _ h4)]; exact h4
    go_wp2_with (at_builtin; refine wpList_append_any _ rfl (.tmp 5) (.tmp 6) _ rfl w.heap.size 3 i0 _ 1 8 Try.underlying22 hi0 hz0 hz1 hz2 rfl (by omega) (.slice (some ⟨w.heap.size, 0, none⟩) 0 0) 0 [] rfl (World.ownsRow_made _ _ 0 (Nat.le_refl _) (by simp [maxLen]) (by simp)) B (some ad) n c (intRow l) (intCell l) rfl h' (by simp) (by rw [intRow_length, hl]; omega) (hl ▸ intRow_at l) (intRow_one l) (by simp only [maxLen]; omega) (by omega) (by simp) ?_; intro v' w1 hown hg hat)
    have hbw : Below w.heap.size w w1 := ((Below.refl w.heap.size w).alloc (Nat.le_refl _) _).grown hg (by simp) (by simp [Value.ownBlock])
    go_ret
    refine ⟨v', rfl, ?_, hbw⟩
    simpa using hown
set_option maxRecDepth 100000 in
set_option maxHeartbeats 2000000 in
theorem reach_any (v : Value) (m : Mach) (S : Nat) (w : World) (B : Nat) (hB : B ≤ w.heap.size) (h : MachAt w B v m) (hS : m.n = (S : Int)) (hS4 : S ≤ 400) (hn2 : m.arcs.length ≤ 2000) (hrng : inRange m.arcs S)
    (A : Option Addr) (nf cf : Nat) (I : List Int) (hI : Rd w B 1 A nf (intCell I)) (hIl : I.length = nf) (hnf : nf ≤ 400) (hIr : ∀ x ∈ I, 0 ≤ x ∧ x < (S : Int)) (back : Bool) :
    Calls Try.prog 72 #[v, .slice A nf cf, .bool back] w fun e w' => ∃ (g : Nat) (seen : Nat → Bool), e = .returned (.slice (some ⟨g, 0, none⟩) S S) ∧ w'.rowIs g 4 S (fun i => .bool (seen i)) ∧ w.heap.size ≤ g ∧
      (∀ s, s < S → (seen s = true ↔ RS back m.arcs I (s : Int))) ∧ Below w.heap.size w w' := by
  obtain ⟨AM, AF, n, c, nf', cf', rfl, HN, HF, hnc, hnfc, hnb, hnfb, hA, hF⟩ := h
  rw [hS]
  have HS := hide hS
  clear hS hnb hnfb hF HF hnfc
  rw [HN.out] at hn2
  obtain ⟨i0, hi0, hz0, hz1, hz2⟩ := info_parts int_info
  have hmk := fun (W : World) => run_make_row' (P := Try.prog) 23 22 (.slice none 0 0) 24 Try.underlying23 ints_info rfl .i64 .i64 S (by omega) (by omega) W
  have hmk2 := fun (W : World) => run_make_row' (P := Try.prog) 24 4 (.bool false) 1 Try.underlying24 bool_info rfl .i64 .i64 S (by omega) (by omega) W
  have HMK := hide hmk2
  clear hmk2
  go_enter Try.func72, Try.ntmps72
  go_wp2
  clear hmk
  generalize hW : World.alloc _ _ = W0
  have hb0 : Below w.heap.size w W0 := by rw [← hW]; go_grown
  have bx0 : Blk W0 w.heap.size 28 #[.int .i64 (S : Int), .slice AM n c, .slice AF nf' cf'] := by rw [← hW]; exact (Blk.at_ (by first | rfl | simp)).alloc _
  have ll0 : OwnLL W0 (w.heap.size + 2) 22 3 1 (w.heap.size + 1) S (fun _ => .slice none 0 0) (fun i => intRow (adj back (m.arcs.take 0) i)) (fun i => (adj back (m.arcs.take 0) i).length) := by
    rw [← hW]
    refine ⟨?_, by omega, fun i _ => World.ownsRow_nil _ _ _ _, fun i j _ _ _ => .inl rfl⟩
    have := World.rowIs_made (w.alloc (Obj.cells #[.int .i64 (S : Int), .slice AM n c, .slice AF nf' cf'] 28)) (.slice none 0 0) S 22
    simpa using this
  have hz0 : w.heap.size + 2 ≤ W0.heap.size := by rw [← hW]; simp
  clear hW
  go_loopw [19] (fun i wr => ∃ (k : Nat) (vs : Nat → Value), k ≤ n ∧ i = .int .i64 k ∧ Below w.heap.size w wr ∧ Blk wr w.heap.size 28 #[.int .i64 (S : Int), .slice AM n c, .slice AF nf' cf'] ∧
      OwnLL wr (w.heap.size + 2) 22 3 1 (w.heap.size + 1) S vs (fun i => intRow (adj back (m.arcs.take k) i)) (fun i => (adj back (m.arcs.take k) i).length) ∧ w.heap.size + 2 ≤ wr.heap.size) (fun i _ => n - (intOf i).toNat)
  case atStart => exact ⟨0, _, by omega, rfl, hb0, bx0, ll0, hz0⟩
  case round =>
    clear hb0 bx0 ll0 hz0
    obtain ⟨k, vs, hk, rfl, hbw, bx, ll, hz⟩ := hrel
    have k0 : wr.cell? ⟨w.heap.size, 0, none⟩ = some (.int .i64 (S : Int)) := bx.cell 0
    have k1 : wr.cell? ⟨w.heap.size, 1, none⟩ = some (.slice AM n c) := bx.cell 1
    have hlt := bx.lt
    by_cases hkn : k < n
    · obtain ⟨b, off, a, rfl, hbB, c0, c1, c2, c3, c4, HA⟩ := arcs_at (hA.below hbw hB) hkn
      have hbw' : b < wr.heap.size := by have := hbw.size; omega
      cases back
      · have hin := hrng a (getD_mem (by rw [HN.out]; exact hkn) HA.out)
        obtain ⟨r0, r1, r2, r3⟩ := hin
        have hkey : a.f.toNat < S := by omega
        have cG := ll.row.cell hkey
        have fG := ll.row.frozen a.f.toNat
        obtain ⟨vk, hvk⟩ : ∃ x, x = vs a.f.toNat := ⟨_, rfl⟩
        have HVK := hide hvk
        rw [← hvk] at cG
        have ownk := ll.own _ hkey
        have hlen := adj_len false (m.arcs.take k) a.f.toNat
        rw [List.length_take] at hlen
        rw [← hvk] at ownk
        clear hvk
        have ne1 : vk.ownBlock ≠ some wr.heap.size := fun e => by have := (ownk.lt _ e).2; omega
        have ne0 : vk.ownBlock ≠ some w.heap.size := fun e => by have := (ownk.lt _ e).1; omega
        have ne2 : vk.ownBlock ≠ some (w.heap.size + 1) := fun e => by have := (ownk.lt _ e).1; omega
        have hlt1 : w.heap.size + 1 < wr.heap.size := by omega
        go_wp2
        refine wp_mix (fun w' => w'.cell? ⟨wr.heap.size, 0, none⟩ = some (.int .i64 a.f) ∧ w'.cell? ⟨wr.heap.size, 1, none⟩ = some (.int .i64 a.t) ∧ w'.cell? ⟨w.heap.size + 1, a.f.toNat, none⟩ = some vk) 12 [(0, false), (1, false), (2, false), (3, false), (4, false), (5, false), (6, false), (7, false), (8, false), (9, false), (10, true), (11, true)] (by kernel_rfl) (by kernel_rfl) ?_ ?_
        · go_simp
        simp only [List.drop_succ_cons, List.drop_zero]
        repeat (refine mix_q (v := ?_) (by rfl) (by rfl) ?_ ?_; rotate_left; (focus (intro w' hC; (try dsimp only at hC); go_simp; (first | done | with_reducible rfl))); simp only [Act.put, List.setIfInBounds_toArray, List.set_cons_zero, List.set_cons_succ])
        refine mix_l (by rfl) (by rfl) (fun K hK => ?_)
        go_simp
        refine hK _ _ (by go_simp) ?_
        clear hK K
        refine mix_l (by rfl) (by rfl) (fun K hK => ?_)
        refine wp_append_lies _ (.tmp 44) (.tmp 47) 22 (by rfl) (w.heap.size + 2) 3 i0 _ 1 8 Try.underlying22 hi0 hz0 hz1 hz2 rfl (by omega) vk _ _ (by rfl) (((ownk.alloc _).alloc _).drew)
              ⟨wr.heap.size + 1, 0, none⟩ 1 1 [.int .i64 a.t] (by rfl) (by rfl) (World.news_of_block (cs := #[.int .i64 a.t]) (t := 3) (fr := (0, 0)) ((Blk.at_ (by simp)).drew)) (by simp [Value.oneCell'])
              (by omega) (by simp only [maxLen]; omega) (by omega) (by simp; omega) (wr.heap.size + 1 + 1) (by simp) ?_
        intro gg cap w1 hown1 hgrow hat hltg
        have fG1 : w1.frozen? ⟨w.heap.size + 1, a.f.toNat, none⟩ = false := far_free hgrow ne2 (by simp; omega) ((((ll.alloc _).alloc _).drew).row.frozen _)
        have cG1 : w1.cell? ⟨w.heap.size + 1, a.f.toNat, none⟩ = some vk := far_cell hgrow ne2 (by go_simp)
        refine hK _ _ ⟨far_cell hgrow ne1 (by go_simp), far_cell hgrow ne1 (by go_simp), cG1⟩ ?_
        clear hK K
        refine mix_nil ?_; try simp only [Act.put, List.setIfInBounds_toArray, List.set_cons_zero, List.set_cons_succ]
        go_wp2
        refine NoPanic.normal ?_
        go_wp2
        have hvb : vk.ownBlock = (vs a.f.toNat).ownBlock := by rw [HVK.out]
        have llp := (((ll.alloc _).alloc _).drew).push hkey (hvb ▸ hgrow) hown1 (hat.elim (fun e => .inl (by rw [← hvb, e]; rfl)) (fun e => .inr ⟨gg, rfl, by rw [e]; simp⟩))
        have hk1 : akey false a = ((a.f.toNat : Nat) : Int) := by show a.f = _; omega
        have e1 := adjRow_push (back := false) (l := m.arcs.take k) hk1
        have e2 := adjLen_push (back := false) (l := m.arcs.take k) hk1
        simp only [aval, Bool.false_eq_true, if_false] at e1
        rw [e1, e2, ← take_push (by rw [HN.out]; exact hkn) HA.out] at llp
        clear e1 e2
        go_roundw
        case rel => exact ⟨k + 1, _, by omega, by go_num, (((((hbw.alloc hbw.size _).alloc (by simp; omega) _).drew).grown hgrow (by simp; omega) (fun k hk => by have := (ownk.lt _ hk).1; omega)).setCell (by simp) _), ((((bx.alloc _).alloc _).drew).grown hgrow (Ne.symm ne0)).far (by simp) _, llp, by have := hgrow.size; simp [World.setCell] at this ⊢; omega⟩
        case measure => simp [intOf]; omega
      · have hin := hrng a (getD_mem (by rw [HN.out]; exact hkn) HA.out)
        obtain ⟨r0, r1, r2, r3⟩ := hin
        have hkey : a.t.toNat < S := by omega
        have cG := ll.row.cell hkey
        have fG := ll.row.frozen a.t.toNat
        obtain ⟨vk, hvk⟩ : ∃ x, x = vs a.t.toNat := ⟨_, rfl⟩
        have HVK := hide hvk
        rw [← hvk] at cG
        have ownk := ll.own _ hkey
        have hlen := adj_len true (m.arcs.take k) a.t.toNat
        rw [List.length_take] at hlen
        rw [← hvk] at ownk
        clear hvk
        have ne1 : vk.ownBlock ≠ some wr.heap.size := fun e => by have := (ownk.lt _ e).2; omega
        have ne0 : vk.ownBlock ≠ some w.heap.size := fun e => by have := (ownk.lt _ e).1; omega
        have ne2 : vk.ownBlock ≠ some (w.heap.size + 1) := fun e => by have := (ownk.lt _ e).1; omega
        have hlt1 : w.heap.size + 1 < wr.heap.size := by omega
        go_wp2
        refine wp_mix (fun w' => w'.cell? ⟨wr.heap.size, 0, none⟩ = some (.int .i64 a.f) ∧ w'.cell? ⟨wr.heap.size, 1, none⟩ = some (.int .i64 a.t) ∧ w'.cell? ⟨w.heap.size + 1, a.t.toNat, none⟩ = some vk) 12 [(0, false), (1, false), (2, false), (3, false), (4, false), (5, false), (6, false), (7, false), (8, false), (9, false), (10, true), (11, true)] (by kernel_rfl) (by kernel_rfl) ?_ ?_
        · go_simp
        simp only [List.drop_succ_cons, List.drop_zero]
        repeat (refine mix_q (v := ?_) (by rfl) (by rfl) ?_ ?_; rotate_left; (focus (intro w' hC; (try dsimp only at hC); go_simp; (first | done | with_reducible rfl))); simp only [Act.put, List.setIfInBounds_toArray, List.set_cons_zero, List.set_cons_succ])
        refine mix_l (by rfl) (by rfl) (fun K hK => ?_)
        go_simp
        refine hK _ _ (by go_simp) ?_
        clear hK K
        refine mix_l (by rfl) (by rfl) (fun K hK => ?_)
        refine wp_append_lies _ (.tmp 31) (.tmp 34) 22 (by rfl) (w.heap.size + 2) 3 i0 _ 1 8 Try.underlying22 hi0 hz0 hz1 hz2 rfl (by omega) vk _ _ (by rfl) (((ownk.alloc _).alloc _).drew)
              ⟨wr.heap.size + 1, 0, none⟩ 1 1 [.int .i64 a.f] (by rfl) (by rfl) (World.news_of_block (cs := #[.int .i64 a.f]) (t := 3) (fr := (0, 0)) ((Blk.at_ (by simp)).drew)) (by simp [Value.oneCell'])
              (by omega) (by simp only [maxLen]; omega) (by omega) (by simp; omega) (wr.heap.size + 1 + 1) (by simp) ?_
        intro gg cap w1 hown1 hgrow hat hltg
        have fG1 : w1.frozen? ⟨w.heap.size + 1, a.t.toNat, none⟩ = false := far_free hgrow ne2 (by simp; omega) ((((ll.alloc _).alloc _).drew).row.frozen _)
        have cG1 : w1.cell? ⟨w.heap.size + 1, a.t.toNat, none⟩ = some vk := far_cell hgrow ne2 (by go_simp)
        refine hK _ _ ⟨far_cell hgrow ne1 (by go_simp), far_cell hgrow ne1 (by go_simp), cG1⟩ ?_
        clear hK K
        refine mix_nil ?_; try simp only [Act.put, List.setIfInBounds_toArray, List.set_cons_zero, List.set_cons_succ]
        go_wp2
        refine NoPanic.normal ?_
        go_wp2
        have hvb : vk.ownBlock = (vs a.t.toNat).ownBlock := by rw [HVK.out]
        have llp := (((ll.alloc _).alloc _).drew).push hkey (hvb ▸ hgrow) hown1 (hat.elim (fun e => .inl (by rw [← hvb, e]; rfl)) (fun e => .inr ⟨gg, rfl, by rw [e]; simp⟩))
        have hk1 : akey true a = ((a.t.toNat : Nat) : Int) := by show a.t = _; omega
        have e1 := adjRow_push (back := true) (l := m.arcs.take k) hk1
        have e2 := adjLen_push (back := true) (l := m.arcs.take k) hk1
        simp only [aval, if_true] at e1
        rw [e1, e2, ← take_push (by rw [HN.out]; exact hkn) HA.out] at llp
        clear e1 e2
        go_roundw
        case rel => exact ⟨k + 1, _, by omega, by go_num, (((((hbw.alloc hbw.size _).alloc (by simp; omega) _).drew).grown hgrow (by simp; omega) (fun k hk => by have := (ownk.lt _ hk).1; omega)).setCell (by simp) _), ((((bx.alloc _).alloc _).drew).grown hgrow (Ne.symm ne0)).far (by simp) _, llp, by have := hgrow.size; simp [World.setCell] at this ⊢; omega⟩
        case measure => simp [intOf]; omega
    · have hend : m.arcs.take k = m.arcs := List.take_of_length_le (by rw [HN.out]; omega)
      rw [hend] at ll
      clear hend
      obtain ⟨wo, rfl⟩ : ∃ wo : World, wo = wr := ⟨_, rfl⟩
      have hmk2 := HMK.out
      go_wp2_with fail
      clear hmk2
      have hb1 : Below w.heap.size w (wo.alloc (Obj.cells (madeCells #[Value.bool false] S) 4)) := hbw.alloc hbw.size _
      refine (clone_any A nf cf I _ B hIl (by omega) (hI.below hb1 hB)).mono ?_
      rintro e w1 ⟨v1, rfl, hown, hbc⟩
      have sn := (World.rowIs_made wo (.bool false) S 4).of_block (hbc.block wo.heap.size (by simp))
      have hbo : Below wo.heap.size wo w1 := ((Below.refl _ _).alloc (Nat.le_refl _) _).trans (hbc.mono (by simp))
      have hb2 := hb1.trans (hbc.mono (by have := hb1.size; simpa using this))
      have hsz : wo.heap.size + 1 ≤ w1.heap.size := by have := hbc.size; simpa using this
      rw [show (wo.alloc (Obj.cells (madeCells #[Value.bool false] S) 4)).heap.size = wo.heap.size + 1 by simp] at hown
      clear hbc hb1
      have hM : I.length + pend back m.arcs (fun _ => false) S ≤ 1000000 := by
        have h1 := pend_le back m.arcs (fun _ => false) S
        have h2 : S * m.arcs.length ≤ 400 * 2000 := Nat.mul_le_mul hS4 (by rw [HN.out]; exact hn2)
        omega
      rw [← hIl] at hown
      go_wp2
      have l0 : OwnLL wo (w.heap.size + 2) 22 3 1 (w.heap.size + 1) S vs (fun i => intRow (adj back m.arcs i)) (fun i => (adj back m.arcs i).length) := ll
      clear ll k0 k1 bx HS
      go_loopg [11] (I.length + pend back m.arcs (fun _ => false) S) (fun gk v wr => ∃ (seen : Nat → Bool) (todo : List Int), wr.ownsRow (wo.heap.size + 1) 3 1 v todo.length (intRow todo) ∧ wr.rowIs wo.heap.size 4 S (fun i => .bool (seen i)) ∧ Aside (DInv back m.arcs I S seen todo) ∧
        todo.length + pend back m.arcs seen S ≤ gk ∧ gk ≤ 1000000 ∧ Below w.heap.size w wr ∧ Below wo.heap.size wo wr ∧ wo.heap.size + 1 ≤ wr.heap.size)
      case atStart => exact ⟨fun _ => false, I, hown, sn, DInv.start hIr, Nat.le_refl _, hM, hb2, hbo, hsz⟩
      case round =>
        clear hown sn hb2 hbo hsz hM
        obtain ⟨seen, todo, hown, sn, dinv, hgk, hg6, hbw2, hbo, hsz⟩ := hrel
        rcases List.eq_nil_or_concat todo with hnil | ⟨l, x, hcat⟩
        · subst hnil
          obtain ⟨Av, cv, rfl, _, _⟩ := own_value hown
          go_wp2
          go_ret
          exact ⟨_, seen, rfl, sn, hbw.size, DInv.done hrng hIr dinv.out, hbw2⟩
        · rw [List.concat_eq_append] at hcat
          subst hcat
          rw [intRow_append, List.length_append] at hown
          have hx := dinv.out.rng x (by simp)
          obtain ⟨hx0, hx1⟩ := hx
          have hlen : l.length + 1 + pend back m.arcs seen S ≤ gk := by simpa using hgk
          clear hgk
          obtain ⟨g, cap, rfl, hg1, hg2⟩ := hown.form (by simp)
          have hown : wr.ownsRow (wo.heap.size + 1) 3 1 (.slice (some ⟨g, 0, none⟩) (l.length + 1) cap) (l.length + 1) (intRow l ++ [.int .i64 x]) := hown
          have hcap := own_value hown
          obtain ⟨A1, c1, hv1, hc1, hc2⟩ := hcap
          obtain ⟨rfl, rfl⟩ : A1 = some ⟨g, 0, none⟩ ∧ c1 = cap := by injection hv1 with e1 e2 e3; exact ⟨e1.symm, e3.symm⟩
          clear hv1
          have cT : wr.cell? ⟨g, l.length, none⟩ = some (.int .i64 x) := by
            rw [hown.cellAt _ (by omega), List.getElem?_append_right (by rw [intRow_length]; exact Nat.le_refl _), intRow_length]; simp
          have cS : wr.cell? ⟨wo.heap.size, x.toNat, none⟩ = some (.bool (seen x.toNat)) := sn.cell (by omega)
          have fS := sn.frozen x.toNat
          have hpop := ownsRow_pop (intRow_length l ▸ by omega) hown
          obtain ⟨n1, hn1⟩ : ∃ n1, n1 = l.length := ⟨_, rfl⟩
          simp only [List.length_cons, List.length_nil, Nat.zero_add]
          rw [← hn1]
          rw [← hn1] at hlen hown hc1 cT hpop
          have HN1 := hide hn1
          clear hn1
          cases hs : seen x.toNat
          · have hpu := pend_upd (back := back) (l := m.arcs) hs S (by omega)
            have lx := l0.own x.toNat (by omega)
            have cG : wo.cell? ⟨w.heap.size + 1, x.toNat, none⟩ = some (vs x.toNat) := l0.row.cell (by omega)
            have hGlt : w.heap.size + 1 < wo.heap.size := l0.row.lt
            obtain ⟨Ax, cx, hvx, hcx1, hcx2⟩ := own_value lx
            rw [hvx] at lx cG
            have rx : Rd wo wo.heap.size 1 Ax _ (intCell (adj back m.arcs x.toNat)) := Rd.of_own lx (intRow_at _)
            have hAx : Ax = none → (adj back m.arcs x.toNat).length = 0 := by
              intro e
              rcases Nat.eq_zero_or_pos (adj back m.arcs x.toNat).length with h0 | h0
              · exact h0
              · obtain ⟨b, off, h1, _⟩ := rx h0
                rw [e] at h1; cases h1
            have cG1 := keep_cell hbo cG hGlt
            have hne : w.heap.size + 1 ≠ wo.heap.size := by omega
            have hgne : g ≠ wo.heap.size := by omega
            have hal := adj_len back m.arcs x.toNat
            rw [HN.out] at hal
            have rx2 := (rx.below hbo (Nat.le_refl _)).below ((Below.refl wo.heap.size wr).setCell (p := ⟨wo.heap.size, x.toNat, none⟩) (Nat.le_refl _) (.bool true)) (Nat.le_refl _)
            obtain ⟨ml, hml⟩ : ∃ ml, ml = (adj back m.arcs x.toNat).length := ⟨_, rfl⟩
            rw [← hml] at hal rx2 hAx hcx1 hpu cG1
            have HML := hide hml
            clear hml cG hvx
            go_wp2_with (at_builtin; refine wpList_append_any _ rfl (.tmp 77) (.tmp 81) _ rfl (wo.heap.size + 1) 3 i0 _ 1 8 Try.underlying22 hi0 hz0 hz1 hz2 rfl (by omega) (.slice (some ⟨g, 0, none⟩) n1 c1) n1 (intRow l) rfl (ownsRow_setCell_below hpop (a := ⟨wo.heap.size, x.toNat, none⟩) (by simp) _) wo.heap.size Ax ml cx (intRow (adj back m.arcs x.toNat)) (intCell (adj back m.arcs x.toNat)) rfl rx2 hAx (by rw [intRow_length, HML.out]; omega) (HML.out ▸ intRow_at _) (intRow_one _) (by simp only [maxLen]; omega) (by omega) (by simp [World.setCell]; omega) ?_; intro v2 w2 hown2 hg2 hat2)
            have hb3 : Below wo.heap.size wo w2 := (hbo.setCell (p := ⟨wo.heap.size, x.toNat, none⟩) (Nat.le_refl _) (.bool true)).grown hg2 (by simp [World.setCell]; omega) (fun k hk => by simp [Value.ownBlock] at hk; omega)
            have hb4 : Below w.heap.size w w2 := (hbw2.setCell (p := ⟨wo.heap.size, x.toNat, none⟩) (by show w.heap.size ≤ wo.heap.size; omega) (.bool true)).grown hg2 (by have := hbw2.size; simpa [World.setCell] using this) (fun k hk => by simp [Value.ownBlock] at hk; omega)
            have sn2 := ((sn.set x.toNat (.bool true)).of_block (hg2.block wo.heap.size (by simp [World.setCell]; omega) (by simp [Value.ownBlock]; omega))).congr (g := fun i => .bool (upd seen x.toNat i)) (fun i _ => by unfold upd; split <;> rfl)
            have hs2 := hg2.size
            simp [World.setCell] at hs2
            go_roundg (gk - 1)
            case measure => omega
            case rel => exact ⟨upd seen x.toNat, l ++ adj back m.arcs x.toNat, by rw [intRow_append, List.length_append, ← HN1.out, ← HML.out]; exact hown2, sn2, (dinv.out.popNew hrng), by rw [List.length_append, ← HN1.out, ← HML.out]; omega, by omega, hb4, hb3, by omega⟩
          · go_wp2
            go_roundg (gk - 1)
            case measure => omega
            case rel => exact ⟨seen, l, HN1.out ▸ hpop, sn, (dinv.out.popSeen hs), by rw [← HN1.out]; omega, by omega, hbw2, hbo, hsz⟩
end Go.Proofs.Ytopakcbhodnipaa
