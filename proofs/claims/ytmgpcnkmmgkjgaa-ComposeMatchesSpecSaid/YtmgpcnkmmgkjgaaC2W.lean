/- The reference's Composed2, walked at any two valid machines. Written by gen_c2.py. -/
import Derived.Test.YtmgpcnkmmgkjgaaRgQ
import Derived.Test.YtmgpcnkmmgkjgaaTrd
import Derived.Test.YtmgpcnkmmgkjgaaSdX
import Derived.Test.YtmgpcnkmmgkjgaaCoC
import Derived.Deep.CutRange
import Derived.Maps.AppendAt
import Derived.IntWalk
namespace Go.Proofs.Ytmgpcnkmmgkjgaa
open Go.RowKit Gm Go.Sort Go.Shelf
set_option linter.unusedSimpArgs false
set_option linter.unusedVariables false
/-- What a loop leaves alone: all blocks that were there, but the machine's and the block of its growing list. -/
structure Keep (O : Nat) (g : Option Nat) (W w : World) : Prop where
  size : W.heap.size ≤ w.heap.size
  blk : ∀ b, b < W.heap.size → b ≠ O → g ≠ some b → w.heap[b]? = W.heap[b]?
theorem Keep.refl (O : Nat) (g : Option Nat) (W : World) : Keep O g W W := ⟨Nat.le_refl _, fun _ _ _ _ => rfl⟩
theorem Keep.at_ {O : Nat} {g : Option Nat} {W w : World} (h : Keep O g W w) {b : Nat} {t : TypeId} {cs : Array Value} (hb : Blk W b t cs) (h1 : b ≠ O) (h2 : g ≠ some b) : Blk w b t cs := (h.blk b hb.lt h1 h2).trans hb
theorem Keep.alloc {O : Nat} {g : Option Nat} {W w : World} (h : Keep O g W w) (o : Obj) : Keep O g W (w.alloc o) :=
  ⟨by simp; have := h.size; omega, fun b hb h1 h2 => (Below.heap_alloc w o b (by have := h.size; omega)).trans (h.blk b hb h1 h2)⟩
theorem Keep.grown {O : Nat} {g row : Option Nat} {W w w6 : World} (h : Keep O g W w) (hg : w.grownBy w6 row) (hr : row = g ∨ ∃ k, row = some k ∧ W.heap.size ≤ k) : Keep O g W w6 :=
  ⟨Nat.le_trans h.size hg.size, fun b hb h1 h2 => (hg.block b (by have := h.size; omega) (fun e => by
    rcases hr with rfl | ⟨k, rfl, hk⟩
    · exact h2 e.symm
    · injection e with e; omega)).trans (h.blk b hb h1 h2)⟩
theorem Keep.set {O : Nat} {g : Option Nat} {W w : World} (h : Keep O g W w) (j : Nat) (u : Value) : Keep O g W (w.setCell ⟨O, j, none⟩ u) :=
  ⟨by simpa using h.size, fun b hb h1 h2 => (Below.heap_setCell w ⟨O, j, none⟩ u b h1).trans (h.blk b hb h1 h2)⟩
/-- A machine that grows, its list of arcs in the block g or in one at or above Z. -/
def MqA (w : World) (O base : Nat) (n0 : Int) (q : Nat) (L : List Arc) (r : Nat) (F : List Fnl) (g : Option Nat) (Z : Nat) : Prop :=
  ∃ A c AF cf, Blk w O 25 #[.int .i64 n0, .slice A q c, .slice AF r cf] ∧ w.ownsRow base 45 5 (.slice A q c) q (arcRow L) ∧ w.ownsRow base 51 2 (.slice AF r cf) r (finRow F) ∧ ((Value.slice A q c).ownBlock = g ∨ ∃ h, (Value.slice A q c).ownBlock = some h ∧ Z ≤ h)
def MqF (w : World) (O base : Nat) (n0 : Int) (q : Nat) (L : List Arc) (r : Nat) (F : List Fnl) (g : Option Nat) (Z : Nat) : Prop :=
  ∃ A c AF cf, Blk w O 25 #[.int .i64 n0, .slice A q c, .slice AF r cf] ∧ w.ownsRow base 45 5 (.slice A q c) q (arcRow L) ∧ w.ownsRow base 51 2 (.slice AF r cf) r (finRow F) ∧ ((Value.slice AF r cf).ownBlock = g ∨ ∃ h, (Value.slice AF r cf).ownBlock = some h ∧ Z ≤ h)
theorem MqA.mq {w : World} {O base q r Z : Nat} {n0 : Int} {L : List Arc} {F : List Fnl} {g : Option Nat} (h : MqA w O base n0 q L r F g Z) : Mq w O base n0 q L r F := by
  obtain ⟨A, c, AF, cf, h1, h2, h3, _⟩ := h
  exact ⟨A, c, AF, cf, h1, h2, h3⟩
theorem MqF.mq {w : World} {O base q r Z : Nat} {n0 : Int} {L : List Arc} {F : List Fnl} {g : Option Nat} (h : MqF w O base n0 q L r F g Z) : Mq w O base n0 q L r F := by
  obtain ⟨A, c, AF, cf, h1, h2, h3, _⟩ := h
  exact ⟨A, c, AF, cf, h1, h2, h3⟩
theorem mqA_start {w : World} {O base q r : Nat} {n0 : Int} {L : List Arc} {F : List Fnl} (h : Mq w O base n0 q L r F) (o : Obj) (Z : Nat) : ∃ g, MqA (w.alloc o) O base n0 q L r F g Z ∧ ∀ b, w.heap.size ≤ b → g ≠ some b := by
  obtain ⟨A, c, AF, cf, h1, h2, h3⟩ := h
  exact ⟨_, ⟨A, c, AF, cf, h1.alloc _, h2.alloc _, h3.alloc _, .inl rfl⟩, fun b hb e => by have := (h2.lt b e).2; omega⟩
theorem mqF_start {w : World} {O base q r : Nat} {n0 : Int} {L : List Arc} {F : List Fnl} (h : Mq w O base n0 q L r F) (o : Obj) (Z : Nat) : ∃ g, MqF (w.alloc o) O base n0 q L r F g Z ∧ ∀ b, w.heap.size ≤ b → g ≠ some b := by
  obtain ⟨A, c, AF, cf, h1, h2, h3⟩ := h
  exact ⟨_, ⟨A, c, AF, cf, h1.alloc _, h2.alloc _, h3.alloc _, .inl rfl⟩, fun b hb e => by have := (h3.lt b e).2; omega⟩
theorem mqA_push {w w6 : World} {O base q r Z : Nat} {n0 : Int} {A AF Av : Option Addr} {c cf cv : Nat} {L : List Arc} {F : List Fnl} {x : Arc} {g : Option Nat} (bO : Blk w O 25 #[.int .i64 n0, .slice A q c, .slice AF r cf]) (hA : w.ownsRow base 45 5 (.slice A q c) q (arcRow L))
    (hF : w.ownsRow base 51 2 (.slice AF r cf) r (finRow F)) (hg : w.grownBy w6 (Value.slice A q c).ownBlock) (hown : w6.ownsRow base 45 5 (.slice Av (q + 1) cv) (q + 1) (arcRow L ++ arcRow [x]))
    (hat : (Value.slice Av (q + 1) cv).ownBlock = (Value.slice A q c).ownBlock ∨ (Value.slice Av (q + 1) cv).ownBlock = some w.heap.size) (hin : (Value.slice A q c).ownBlock = g ∨ ∃ h, (Value.slice A q c).ownBlock = some h ∧ Z ≤ h) (hZ : Z ≤ w.heap.size) :
    MqA (w6.setCell ⟨O, 1, none⟩ (.slice Av (q + 1) cv)) O base n0 (q + 1) (L ++ [x]) r F g Z := by
  have b6 := bO.grown hg (Ne.symm (own_blk_ne hA bO (by decide)))
  have hF6 := hF.kept hg (own_ne hF hA (by decide))
  refine ⟨Av, cv, AF, cf, b6.set_ 1 _, ownsRow_setCell_other (by rw [arcRow_append]; exact hown) (own_blk_ne hown b6 (by decide)) _, ownsRow_setCell_other hF6 (own_blk_ne hF6 b6 (by decide)) _, ?_⟩
  rcases hat with e | e
  · rw [e]; exact hin
  · exact .inr ⟨_, e, hZ⟩
theorem mqF_push {w w6 : World} {O base q r Z : Nat} {n0 : Int} {A AF Av : Option Addr} {c cf cv : Nat} {L : List Arc} {F : List Fnl} {x : Fnl} {g : Option Nat} (bO : Blk w O 25 #[.int .i64 n0, .slice A q c, .slice AF r cf]) (hA : w.ownsRow base 45 5 (.slice A q c) q (arcRow L))
    (hF : w.ownsRow base 51 2 (.slice AF r cf) r (finRow F)) (hg : w.grownBy w6 (Value.slice AF r cf).ownBlock) (hown : w6.ownsRow base 51 2 (.slice Av (r + 1) cv) (r + 1) (finRow F ++ finRow [x]))
    (hat : (Value.slice Av (r + 1) cv).ownBlock = (Value.slice AF r cf).ownBlock ∨ (Value.slice Av (r + 1) cv).ownBlock = some w.heap.size) (hin : (Value.slice AF r cf).ownBlock = g ∨ ∃ h, (Value.slice AF r cf).ownBlock = some h ∧ Z ≤ h) (hZ : Z ≤ w.heap.size) :
    MqF (w6.setCell ⟨O, 2, none⟩ (.slice Av (r + 1) cv)) O base n0 q L (r + 1) (F ++ [x]) g Z := by
  have b6 := bO.grown hg (Ne.symm (own_blk_ne hF bO (by decide)))
  have hA6 := hA.kept hg (own_ne hA hF (by decide))
  refine ⟨A, c, Av, cv, b6.set_ 2 _, ownsRow_setCell_other hA6 (own_blk_ne hA6 b6 (by decide)) _, ownsRow_setCell_other (by rw [finRow_append]; exact hown) (own_blk_ne hown b6 (by decide)) _, ?_⟩
  rcases hat with e | e
  · rw [e]; exact hin
  · exact .inr ⟨_, e, hZ⟩
theorem flat_snoc {α : Type} (f : Arc → List α) {l : List Arc} {i : Nat} {x : Arc} (hi : i < l.length) (hx : l.getD i dA = x) : (l.take (i + 1)).flatMap f = (l.take i).flatMap f ++ f x := by
  rw [List.take_add_one, List.getElem?_eq_getElem hi, getDA hi hx, List.flatMap_append]
  simp
theorem flat_snocF {α : Type} (f : Fnl → List α) {l : List Fnl} {i : Nat} {x : Fnl} (hi : i < l.length) (hx : l.getD i dF = x) : (l.take (i + 1)).flatMap f = (l.take i).flatMap f ++ f x := by
  rw [takeF_snoc hi hx, List.flatMap_append]
  simp
theorem flat_len {α β : Type} (f : α → List β) (l : List α) (i : Nat) : ((l.take i).flatMap f).length ≤ (l.flatMap f).length := by
  have h : l.flatMap f = (l.take i).flatMap f ++ (l.drop i).flatMap f := by rw [← List.flatMap_append, List.take_append_drop]
  rw [h, List.length_append]; omega
theorem arcs_len {w : World} {base q : Nat} {v : Value} {L : List Arc} (h : w.ownsRow base 45 5 v q (arcRow L)) : L.length = q := by
  have h1 := h.1
  rw [arcRow_length] at h1
  omega
theorem fins_len {w : World} {base q : Nat} {v : Value} {L : List Fnl} (h : w.ownsRow base 51 2 v q (finRow L)) : L.length = q := by
  have h1 := h.1
  rw [finRow_length] at h1
  omega
theorem own_monoX {w : World} {b1 b2 sz n : Nat} {e : TypeId} {v : Value} {xs : List Value} (h : w.ownsRow b1 e sz v n xs) (hb : b2 ≤ b1) : w.ownsRow b2 e sz v n xs := by
  obtain ⟨h1, h2⟩ := h
  refine ⟨h1, ?_⟩
  rcases h2 with h2 | ⟨g, cap, cur, e1, e2, e3⟩
  · exact .inl h2
  · exact .inr ⟨g, cap, cur, e1, by omega, e3⟩
theorem mq_at {w : World} {O base q r : Nat} {n0 : Int} {L : List Arc} {F : List Fnl} {A AF : Option Addr} {c cf : Nat} (hA : w.ownsRow base 45 5 (.slice A q c) q (arcRow L)) (hF : w.ownsRow base 51 2 (.slice AF r cf) r (finRow F)) (hq : q ≤ big) (hr : r ≤ big) : MachAt w w.heap.size (.agg #[.int .i64 n0, .slice A q c, .slice AF r cf]) ⟨n0, L, F⟩ := by
  obtain ⟨_, _, ev, hqc, _⟩ := own_value hA
  injection ev with _ _ ev
  obtain ⟨_, _, fv, hrc, _⟩ := own_value hF
  injection fv with _ _ fv
  exact ⟨A, AF, q, c, r, cf, rfl, hide (arcs_len hA), hide (fins_len hF), by omega, by omega, hq, hr, Rd.of_own hA (fun i j hi hj => arcRow_at _ i j (by rw [arcs_len hA]; exact hi) hj), Rd.of_own hF (fun i j hi hj => finRow_at _ i j (by rw [fins_len hF]; exact hi) hj)⟩
theorem szP {a b : Mach} (ha : Valid a) (hb : Valid b) (h1 : (prodArcs a b).length ≤ 1000000) (h2 : (prodFins a b).length ≤ 1000000) (hn : a.n * b.n ≤ 100000) : Sz (prodM a b) := by
  have hr := rng_prod (rng_valid ha) (rng_valid hb)
  have h0 := hr.n0
  refine ⟨h0, hn, h1, h2, fun x hx => ?_, fun x hx => ?_⟩
  · have := hr.arc x hx
    have e : (((prodM a b).n.toNat : Nat) : Int) = (prodM a b).n := by omega
    rw [e]
    omega
  · have := hr.fin x hx
    have e : (((prodM a b).n.toNat : Nat) : Int) = (prodM a b).n := by omega
    rw [e]
    omega
set_option maxRecDepth 100000 in
set_option maxHeartbeats 16000000 in
theorem comp2_any (va vb : Value) (a b : Mach) (w : World) (B : Nat) (hB : B ≤ w.heap.size) (ha : MachAt w B va a) (hb : MachAt w B vb b) (hva : Valid a) (hvb : Valid b) (han : a.n ≠ 0) (hbn : b.n ≠ 0) (hsz : (prodArcs a b).length ≤ 1000000) (hnN : a.n * b.n ≤ 100000) :
    Calls Try.prog 49 #[va, vb] w fun e w' => ∃ v', e = .returned v' ∧ MachNew w.heap.size w' v' (compM a b) ∧ Below w.heap.size w w' := by
  obtain ⟨A, AF, n, c, nf, cf, rfl, HN, HF, hnc, hnfc, hnb, hnfb, hA, hF⟩ := ha
  obtain ⟨A', AF', n', c', nf', cf', rfl, HN', HF', hnc', hnfc', hnb', hnfb', hA', hF'⟩ := hb
  have hl := hva.len
  have hl' := hvb.len
  have hfl := hva.finLen
  have hfl' := hvb.finLen
  rw [HN.out] at hl
  rw [HN'.out] at hl'
  rw [HF.out] at hfl
  rw [HF'.out] at hfl'
  have HVA := hide hva
  have HVB := hide hvb
  obtain ⟨S1, hS1⟩ : ∃ S : Nat, a.n = (S : Int) := ⟨a.n.toNat, by have := hva.n0; omega⟩
  obtain ⟨S2, hS2⟩ : ∃ S : Nat, b.n = (S : Int) := ⟨b.n.toNat, by have := hvb.n0; omega⟩
  have s14 : S1 ≤ 400 := by have := hva.n4; omega
  have s24 : S2 ≤ 400 := by have := hvb.n4; omega
  have s10 : 0 < S1 := by omega
  have s20 : 0 < S2 := by omega
  have HS1 := hide hS1
  have HS2 := hide hS2
  obtain ⟨N, hN⟩ : ∃ N : Nat, N = S1 * S2 := ⟨_, rfl⟩
  have hN4 : N ≤ 160000 := by rw [hN]; exact Nat.mul_le_mul s14 s24
  have hNI : (S1 : Int) * (S2 : Int) = (N : Int) := by rw [hN]; push_cast; rfl
  have HNN := hide hN
  have HSZ := hide hsz
  rw [hS1, hS2]
  have HRA := hide hA
  have HRF := hide hF
  have HRA' := hide hA'
  have HRF' := hide hF'
  obtain ⟨ia, ha0, ha1, ha2, ha3⟩ := info_parts arc_info
  obtain ⟨iF, hF0, hF1, hF2, hF3⟩ := info_parts fin_info
  have t1 : ((S1 : Int) == 0) = false := by simp; omega
  have t2 : ((S2 : Int) == 0) = false := by simp; omega
  clear hA hF hA' hF' hva hvb han hbn hS1 hS2 hN hsz hnb hnfb hnb' hnfb' hnc hnfc hnc' hnfc'
  go_enter Try.func49, Try.ntmps49
  go_upto_region 5 with fail
  generalize hW2 : World.alloc _ _ = W2
  obtain ⟨O, hO⟩ : ∃ z, z = w.heap.size + 1 + 1 + 1 := ⟨_, rfl⟩
  have HX2 := hide (show Blk W2 w.heap.size 25 #[.int .i64 (S1 : Int), .slice A n c, .slice AF nf cf] by rw [← hW2]; exact (((Blk.at_ rfl).alloc _).alloc _).alloc _)
  have HY2 := hide (show Blk W2 (w.heap.size + 1) 25 #[.int .i64 (S2 : Int), .slice A' n' c', .slice AF' nf' cf'] by rw [← hW2]; exact ((Blk.at_ (by simp)).alloc _).alloc _)
  have HR2 := hide (show Blk W2 (w.heap.size + 1 + 1) 25 #[.int .i64 0, .slice none 0 0, .slice none 0 0] by rw [← hW2]; exact (Blk.at_ (by simp)).alloc _)
  have HO2 := (show Blk W2 O 25 #[.int .i64 (N : Int), .slice none 0 0, .slice none 0 0] by rw [← hW2]; exact Blk.at_ (by simp [hO]))
  have HBW := hide (show Below w.heap.size w W2 by rw [← hW2]; go_grown)
  have hbz : O < W2.heap.size := HO2.lt
  have HRA2 := hide (HRA.out.below HBW.out hB)
  have HRF2 := hide (HRF.out.below HBW.out hB)
  have HRA2' := hide (HRA'.out.below HBW.out hB)
  have HRF2' := hide (HRF'.out.below HBW.out hB)
  have hOw : w.heap.size + 1 + 1 < O := by omega
  have HMK0 := hide (show Mq W2 O O (N : Int) 0 ((a.arcs.take 0).flatMap (prodX a b)) 0 ([] : List Fnl) from ⟨none, 0, none, 0, HO2, World.ownsRow_nil _ _ _ _, World.ownsRow_nil _ _ _ _⟩)
  simp only [← hO]
  clear hW2 hO HO2 HRA HRF HRA' HRF' hNI t1 t2

  go_loopw [36] (fun iv wr => ∃ (i q : Nat), i ≤ n ∧ iv = .int .i64 i ∧ Hid (Mq wr O O (N : Int) q ((a.arcs.take i).flatMap (prodX a b)) 0 ([] : List Fnl)) ∧ Hid (Below O W2 wr) ∧ O < wr.heap.size) (fun iv _ => n - (intOf iv).toNat)
  case atStart => exact ⟨0, 0, by omega, rfl, HMK0, hide (Below.refl _ _), hbz⟩
  case round =>
    clear HMK0 hbz
    obtain ⟨i, q, hi, rfl, HMK, HBK, hbz⟩ := hrel
    have bY := HY2.out.below HBK.out (by omega)
    have y0 := bY.cell 0
    have y1 := bY.cell 1
    simp at y0 y1
    have lY := bY.lt
    by_cases hin : i < n
    · obtain ⟨bb, off, x, rfl, hbB, d0, d1, d2, d3, d4, HX⟩ := arcs_at (HRA2.out.below HBK.out (by omega)) hin
      have hil : i < a.arcs.length := by rw [HN.out]; exact hin
      have HTK := hide (flat_snoc (prodX a b) hil HX.out)
      have hmem : x ∈ a.arcs := by rw [← getDA hil HX.out]; exact List.getElem_mem _
      have HLEN := hide (show ((a.arcs.take i).flatMap (prodX a b)).length + (prodX a b x).length ≤ 1000000 by
        have h1 := flat_len (prodX a b) a.arcs (i + 1)
        rw [HTK.out, List.length_append] at h1
        have h2 := HSZ.out
        unfold prodArcs at h2
        rw [List.length_append] at h2
        omega)
      have hok := okArc_iff (HVA.out.okA hmem)
      rw [HS1.out] at hok
      obtain ⟨xf0, xf1, xt0, xt1, xi0, xi1, xo0, xo1, xw0, xw1⟩ := hok
      obtain ⟨P1, hP1⟩ : ∃ z, z = x.f * (S2 : Int) := ⟨_, rfl⟩
      obtain ⟨P2, hP2⟩ : ∃ z, z = x.t * (S2 : Int) := ⟨_, rfl⟩
      have p10 : 0 ≤ P1 := by rw [hP1]; exact Int.mul_nonneg xf0 (by omega)
      have p20 : 0 ≤ P2 := by rw [hP2]; exact Int.mul_nonneg xt0 (by omega)
      have p11 : P1 ≤ 160000 := by rw [hP1]; have := Int.mul_le_mul (show x.f ≤ 400 by omega) (show (S2 : Int) ≤ 400 by omega) (by omega) (by omega); omega
      have p21 : P2 ≤ 160000 := by rw [hP2]; have := Int.mul_le_mul (show x.t ≤ 400 by omega) (show (S2 : Int) ≤ 400 by omega) (by omega) (by omega); omega
      have lb : bb < wr.heap.size := by omega
      clear hmem hil
      by_cases hx0 : x.o = 0
      · have HX0 := hide hx0
        have t0 : (x.o == 0) = true := by simp [hx0]
        have HPX := hide (show prodX a b x = (List.range S2).map (fun k : Nat => prodL b.n x (k : Int)) by unfold prodX; rw [if_pos hx0, HS2.out]; simp)
        have HPL := hide (show ∀ k : Nat, prodL b.n x (k : Int) = ⟨P1 + k, P2 + k, x.i, 0, x.w⟩ from fun k => by unfold prodL enc; rw [HS2.out, hP1, hP2])
        have HPP1 := hide hP1.symm
        have HPP2 := hide hP2.symm
        have hqS : q + S2 ≤ 1000000 := by
          obtain ⟨_, _, _, _, _, h, _⟩ := HMK.out
          have h1 := arcs_len h
          have h2 := HLEN.out
          rw [HPX.out, List.length_map, List.length_range] at h2
          omega
        clear hx0 hP1 hP2
        obtain ⟨g, hmq, hgn⟩ := mqA_start HMK.out (Obj.cells #[.int .i64 x.f, .int .i64 x.t, .int .i64 x.i, .int .i64 x.o, .int .i64 x.w] 45) (World.alloc wr (Obj.cells #[.int .i64 x.f, .int .i64 x.t, .int .i64 x.i, .int .i64 x.o, .int .i64 x.w] 45)).heap.size
        have HMQ0 := hide hmq
        have HGN := hide (hgn wr.heap.size (Nat.le_refl _))
        clear hmq hgn
        go_wp2
        generalize hW7 : World.alloc _ _ = W7 at HMQ0 ⊢
        obtain ⟨X9, hX9⟩ : ∃ z, z = wr.heap.size := ⟨_, rfl⟩
        have HXB := hide (show Blk W7 X9 45 #[.int .i64 x.f, .int .i64 x.t, .int .i64 x.i, .int .i64 x.o, .int .i64 x.w] by rw [← hW7]; exact Blk.at_ hX9)
        have HBI7 := hide (show Below O W2 W7 by rw [← hW7]; exact HBK.out.alloc (by omega) _)
        have hXO : O < X9 := by omega
        have hX7 : X9 < W7.heap.size := HXB.out.lt
        rw [← hX9] at HGN
        simp only [← hX9]
        clear hW7 hX9 d0 d1 d2 d3 d4 lb t0 HMK HBK y0 y1 lY bY 
        go_loopw [45] (fun iv wr => ∃ k : Nat, k ≤ S2 ∧ iv = .int .i64 k ∧ Hid (MqA wr O O (N : Int) (q + k) ((a.arcs.take i).flatMap (prodX a b) ++ (List.range k).map (fun k : Nat => prodL b.n x (k : Int))) 0 ([] : List Fnl) g W7.heap.size) ∧ Hid (Below O W2 wr) ∧ Hid (Keep O g W7 wr) ∧ O < wr.heap.size) (fun iv _ => S2 - (intOf iv).toNat)
        case atStart => exact ⟨0, by omega, rfl, hide (by simpa using HMQ0.out), HBI7, hide (Keep.refl _ _ _), by omega⟩
        case round =>
          clear HMQ0 HBI7
          obtain ⟨k, hk, rfl, HMQ, HBI, HKE, hbi⟩ := hrel
          have hsK := HKE.out.size
          have bX := HKE.out.at_ HXB.out (by omega) HGN.out
          have lX := bX.lt
          have bY := HY2.out.below HBI.out (by omega)
          have lY := bY.lt
          by_cases hks : k < S2
          · skip
            obtain ⟨A5, c5, AF5, cf5, bO5, hown5, hfin5, hin5⟩ := HMQ.out
            have lO := bO5.lt
            have o1 := bO5.cell 1
            have of1 := bO5.frozen 1
            simp at o1
            have HBKO := hide bO5
            have HOWN := hide hown5
            have HFIN := hide hfin5
            have HIN5 := hide hin5
            have HLOW := hide (show ∀ z, (Value.slice A5 (q + k) c5).ownBlock = some z → O ≤ z from fun z hz => (hown5.lt z hz).1)
            have hneO : (Value.slice A5 (q + k) c5).ownBlock ≠ some O := own_blk_ne hown5 bO5 (by decide)
            have hlq := arcs_len hown5
            clear HMQ bO5 hown5 hfin5 hin5
            have x0 := bX.cell 0
            have x1 := bX.cell 1
            have x2 := bX.cell 2
            have x3 := bX.cell 3
            have x4 := bX.cell 4
            simp at x0 x1 x2 x3 x4
            have y0 := bY.cell 0
            simp at y0
            have hPP1 : x.f * (S2 : Int) = P1 := HPP1.out
            have hPP2 : x.t * (S2 : Int) = P2 := HPP2.out
            clear bX bY
            go_wp2_with (at_builtin; refine wpList_append_own_at _ rfl (.tmp 49) (.tmp 69) 22 rfl O 45 ia _ 5 40 Try.underlying22 ha0 ha1 ha2 ha3 rfl (by omega) (.slice A5 (q + k) c5) (q + k) _ rfl (HOWN.out.alloc _) ⟨wr.heap.size, 0, none⟩ 1 1 (arcRow [⟨P1 + k, P2 + k, x.i, 0, x.w⟩]) rfl (by rfl) (World.news_of_block (cs := (arcRow [⟨P1 + k, P2 + k, x.i, 0, x.w⟩]).toArray) (t := 45) (fr := (0, 0)) (Blk.at_ (by first | rfl | simp))) (arcRow_one _) (by simp only [maxLen]; omega) (by omega) (by simp <;> omega) ?_; intro v' w6 hown2 hg2 _ hat2; obtain ⟨Av, cv, rfl, hkcv, _⟩ := own_value hown2; have o1' := far_cell hg2 hneO (o := 1) (v := (.slice A5 (q + k) c5)) (by exact (HBKO.out.alloc _).cell 1); have bO6 := (HBKO.out.alloc _).grown hg2 (Ne.symm hneO); have of1' := bO6.frozen 1; have lO6 := bO6.lt)
            have hs6 := hg2.size
            simp at hs6
            have HG2 := hide hg2
            have HNEW := hide (mqA_push (HBKO.out.alloc _) (HOWN.out.alloc _) (HFIN.out.alloc _) hg2 hown2 hat2 HIN5.out (by simp <;> omega))
            have HKP := hide ((((HKE.out.alloc _)).grown hg2 HIN5.out).set 1 (.slice Av ((q + k) + 1) cv))
            have HBN := hide (((HBI.out.alloc (by omega) _).grown hg2 (by simp <;> omega) (fun z hz => HLOW.out z hz)).setCell (p := ⟨O, 1, none⟩) (by exact Nat.le_refl _) (.slice Av ((q + k) + 1) cv))
            clear hown2 hg2 hat2 bO6
            go_roundw
            case rel => exact ⟨k + 1, by omega, by go_num, hide (by rw [List.range_succ, List.map_append, List.map_cons, List.map_nil, HPL.out k, ← List.append_assoc]; exact HNEW.out), HBN, HKP, by simp [World.setCell]; omega⟩
            case measure => simp [intOf]; omega
          · obtain rfl : S2 = k := by omega
            have HMK2 := hide (show Mq wr O O (N : Int) (q + S2) ((a.arcs.take (i + 1)).flatMap (prodX a b)) 0 ([] : List Fnl) by rw [HTK.out, HPX.out]; exact HMQ.out.mq)
            clear HMQ bX bY
            go_wp2
            go_roundw
            case rel => exact ⟨i + 1, q + S2, by omega, by go_num, HMK2, HBI, hbi⟩
            case measure => simp [intOf]; omega
      · have HX0 := hide hx0
        have t0 : (x.o == 0) = false := by simp [hx0]
        have HPX := hide (show prodX a b x = (b.arcs.filter fun y => decide (y.i = x.o)).map (prodA b.n x) by unfold prodX; rw [if_neg hx0])
        have HPL := hide (show ∀ y : Arc, prodA b.n x y = ⟨P1 + y.f, P2 + y.t, x.i, y.o, x.w + y.w⟩ from fun y => by unfold prodA enc; rw [HS2.out, hP1, hP2])
        have HPP1 := hide hP1.symm
        have HPP2 := hide hP2.symm
        have hqr : ∀ k, q + ((b.arcs.take k).filter fun y => decide (y.i = x.o)).length ≤ 1000000 := fun k => by
          obtain ⟨_, _, _, _, _, h, _⟩ := HMK.out
          have h1 := arcs_len h
          have h2 := HLEN.out
          rw [HPX.out, List.length_map] at h2
          have h3 := ((List.take_sublist k b.arcs).filter fun y => decide (y.i = x.o)).length_le
          omega
        have HQR := hide hqr
        clear hx0 hP1 hP2 hqr
        obtain ⟨g, hmq, hgn⟩ := mqA_start HMK.out (Obj.cells #[.int .i64 x.f, .int .i64 x.t, .int .i64 x.i, .int .i64 x.o, .int .i64 x.w] 45) (World.alloc wr (Obj.cells #[.int .i64 x.f, .int .i64 x.t, .int .i64 x.i, .int .i64 x.o, .int .i64 x.w] 45)).heap.size
        have HMQ0 := hide hmq
        have HGN := hide (hgn wr.heap.size (Nat.le_refl _))
        clear hmq hgn
        have HLQ := hide (show (((a.arcs.take i).flatMap (prodX a b)).length = q) by obtain ⟨_, _, _, _, _, h, _⟩ := HMK.out; exact arcs_len h)
        go_wp2
        generalize hW7 : World.alloc _ _ = W7 at HMQ0 ⊢
        obtain ⟨X9, hX9⟩ : ∃ z, z = wr.heap.size := ⟨_, rfl⟩
        have HXB := hide (show Blk W7 X9 45 #[.int .i64 x.f, .int .i64 x.t, .int .i64 x.i, .int .i64 x.o, .int .i64 x.w] by rw [← hW7]; exact Blk.at_ hX9)
        have HBI7 := hide (show Below O W2 W7 by rw [← hW7]; exact HBK.out.alloc (by omega) _)
        have hXO : O < X9 := by omega
        have hX7 : X9 < W7.heap.size := HXB.out.lt
        rw [← hX9] at HGN
        simp only [← hX9]
        clear hW7 hX9 d0 d1 d2 d3 d4 lb t0 HMK HBK y0 y1 lY bY
        go_loopw [76] (fun iv wr => ∃ (k r : Nat), k ≤ n' ∧ iv = .int .i64 k ∧ Hid (MqA wr O O (N : Int) (q + r) ((a.arcs.take i).flatMap (prodX a b) ++ ((b.arcs.take k).filter fun y => decide (y.i = x.o)).map (prodA b.n x)) 0 ([] : List Fnl) g W7.heap.size) ∧ Hid (Below O W2 wr) ∧ Hid (Keep O g W7 wr) ∧ O < wr.heap.size) (fun iv _ => n' - (intOf iv).toNat)
        case atStart => exact ⟨0, 0, by omega, rfl, hide (by simpa using HMQ0.out), HBI7, hide (Keep.refl _ _ _), by omega⟩
        case round =>
          clear HMQ0 HBI7
          obtain ⟨k, r, hk, rfl, HMQ, HBI, HKE, hbi⟩ := hrel
          have hsK := HKE.out.size
          have bX := HKE.out.at_ HXB.out (by omega) HGN.out
          have lX := bX.lt
          have bY := HY2.out.below HBI.out (by omega)
          have lY := bY.lt
          by_cases hks : k < n'
          · skip
            obtain ⟨bb', off', y, rfl, hbB', d0, d1, d2, d3, d4, HY⟩ := arcs_at (HRA2'.out.below HBI.out (by omega)) hks
            have hkl : k < b.arcs.length := by rw [HN'.out]; exact hks
            have hmem : y ∈ b.arcs := by rw [← getDA hkl HY.out]; exact List.getElem_mem _
            have hok := okArc_iff (HVB.out.okA hmem)
            rw [HS2.out] at hok
            obtain ⟨yf0, yf1, yt0, yt1, yi0, yi1, yo0, yo1, yw0, yw1⟩ := hok
            have lb : bb' < wr.heap.size := by omega
            have HTK2 := hide (show (b.arcs.take (k + 1)).filter (fun y => decide (y.i = x.o)) = (b.arcs.take k).filter (fun y => decide (y.i = x.o)) ++ (if y.i = x.o then [y] else []) by
              rw [List.take_add_one, List.getElem?_eq_getElem hkl, getDA hkl HY.out, List.filter_append]
              by_cases e : y.i = x.o <;> simp [e])
            have hqb := HQR.out (k + 1)
            rw [HTK2.out, List.length_append] at hqb
            clear hmem hkl HY
            obtain ⟨A5, c5, AF5, cf5, bO5, hown5, hfin5, hin5⟩ := HMQ.out
            have lO := bO5.lt
            have o1 := bO5.cell 1
            have of1 := bO5.frozen 1
            simp at o1
            have HBKO := hide bO5
            have HOWN := hide hown5
            have HFIN := hide hfin5
            have HIN5 := hide hin5
            have HLOW := hide (show ∀ z, (Value.slice A5 (q + r) c5).ownBlock = some z → O ≤ z from fun z hz => (hown5.lt z hz).1)
            have hneO : (Value.slice A5 (q + r) c5).ownBlock ≠ some O := own_blk_ne hown5 bO5 (by decide)
            have hlq := arcs_len hown5
            clear HMQ bO5 hown5 hfin5 hin5
            rw [List.length_append, List.length_map, HLQ.out] at hlq
            have x0 := bX.cell 0
            have x1 := bX.cell 1
            have x2 := bX.cell 2
            have x3 := bX.cell 3
            have x4 := bX.cell 4
            simp at x0 x1 x2 x3 x4
            have y0 := bY.cell 0
            simp at y0
            by_cases hyx : y.i = x.o
            · skip
              have t4 : (y.i == x.o) = true := by simp [hyx]
              rw [if_pos hyx, List.length_singleton] at hqb
              have HTK3 := hide (HTK2.out.trans (by rw [if_pos hyx]))
              have hPP1 : x.f * (S2 : Int) = P1 := HPP1.out
              have hPP2 : x.t * (S2 : Int) = P2 := HPP2.out
              clear bX bY hyx HTK2
              go_wp2_with (at_builtin; refine wpList_append_own_at _ rfl (.tmp 86) (.tmp 113) 22 rfl O 45 ia _ 5 40 Try.underlying22 ha0 ha1 ha2 ha3 rfl (by omega) (.slice A5 (q + r) c5) (q + r) _ rfl ((HOWN.out.alloc _).alloc _) ⟨wr.heap.size + 1, 0, none⟩ 1 1 (arcRow [⟨P1 + y.f, P2 + y.t, x.i, y.o, x.w + y.w⟩]) rfl (by rfl) (World.news_of_block (cs := (arcRow [⟨P1 + y.f, P2 + y.t, x.i, y.o, x.w + y.w⟩]).toArray) (t := 45) (fr := (0, 0)) (Blk.at_ (by first | rfl | simp))) (arcRow_one _) (by simp only [maxLen]; omega) (by omega) (by simp <;> omega) ?_; intro v' w6 hown2 hg2 _ hat2; obtain ⟨Av, cv, rfl, hkcv, _⟩ := own_value hown2; have o1' := far_cell hg2 hneO (o := 1) (v := (.slice A5 (q + r) c5)) (by exact ((HBKO.out.alloc _).alloc _).cell 1); have bO6 := ((HBKO.out.alloc _).alloc _).grown hg2 (Ne.symm hneO); have of1' := bO6.frozen 1; have lO6 := bO6.lt)
              have hs6 := hg2.size
              simp at hs6
              have HG2 := hide hg2
              have HNEW := hide (mqA_push ((HBKO.out.alloc _).alloc _) ((HOWN.out.alloc _).alloc _) ((HFIN.out.alloc _).alloc _) hg2 hown2 hat2 HIN5.out (by simp <;> omega))
              have HKP := hide (((((HKE.out.alloc _).alloc _)).grown hg2 HIN5.out).set 1 (.slice Av ((q + r) + 1) cv))
              have HBN := hide ((((HBI.out.alloc (by omega) _).alloc (by simp; omega) _).grown hg2 (by simp <;> omega) (fun z hz => HLOW.out z hz)).setCell (p := ⟨O, 1, none⟩) (by exact Nat.le_refl _) (.slice Av ((q + r) + 1) cv))
              clear hown2 hg2 hat2 bO6
              go_roundw
              case rel => exact ⟨k + 1, r + 1, by omega, by go_num, hide (by rw [HTK3.out, List.map_append, List.map_cons, List.map_nil, HPL.out y, ← List.append_assoc]; exact HNEW.out), HBN, HKP, by simp [World.setCell]; omega⟩
              case measure => simp [intOf]; omega
            · skip
              have t4 : (y.i == x.o) = false := by simp [hyx]
              have HTK3 := hide (HTK2.out.trans (by rw [if_neg hyx, List.append_nil]))
              clear bX bY hyx HTK2
              go_wp2
              go_roundw
              case rel => exact ⟨k + 1, r, by omega, by go_num, hide (by rw [HTK3.out]; exact ⟨A5, c5, AF5, cf5, HBKO.out.alloc _, HOWN.out.alloc _, HFIN.out.alloc _, HIN5.out⟩), hide (HBI.out.alloc (by omega) _), hide (HKE.out.alloc _), by simp; omega⟩
              case measure => simp [intOf]; omega
          · obtain rfl : n' = k := by omega
            have HMK2 := hide (show Mq wr O O (N : Int) (q + r) ((a.arcs.take (i + 1)).flatMap (prodX a b)) 0 ([] : List Fnl) by
              rw [HTK.out, HPX.out]
              have h := HMQ.out.mq
              rw [List.take_of_length_le (show b.arcs.length ≤ n' by rw [HN'.out]; exact Nat.le_refl _)] at h
              exact h)
            clear HMQ bX bY
            go_wp2
            go_roundw
            case rel => exact ⟨i + 1, q + r, by omega, by go_num, HMK2, HBI, hbi⟩
            case measure => simp [intOf]; omega
    · obtain rfl : n = i := by omega
      have HMK2 := hide (show Mq wr O O (N : Int) q (a.arcs.flatMap (prodX a b) ++ (b.arcs.take 0).flatMap (prodY a b)) 0 ([] : List Fnl) by
        have h := HMK.out
        rw [List.take_of_length_le (show a.arcs.length ≤ n by rw [HN.out]; exact Nat.le_refl _)] at h
        simpa using h)
      clear HMK bY
      go_wp2
      clear y0 y1 lY
      go_loopw [121] (fun iv wr => ∃ (i q : Nat), i ≤ n' ∧ iv = .int .i64 i ∧ Hid (Mq wr O O (N : Int) q (a.arcs.flatMap (prodX a b) ++ (b.arcs.take i).flatMap (prodY a b)) 0 ([] : List Fnl)) ∧ Hid (Below O W2 wr) ∧ O < wr.heap.size) (fun iv _ => n' - (intOf iv).toNat)
      case atStart => exact ⟨0, q, by omega, rfl, HMK2, HBK, hbz⟩
      case round =>
        clear HMK2 hbz HBK
        obtain ⟨i, q, hi, rfl, HMK, HBK, hbz⟩ := hrel
        have bXX := HX2.out.below HBK.out (by omega)
        have z0 := bXX.cell 0
        have z2 := bXX.cell 2
        simp at z0 z2
        have lXX := bXX.lt
        by_cases hin : i < n'
        · obtain ⟨bb, off, x, rfl, hbB, d0, d1, d2, d3, d4, HX⟩ := arcs_at (HRA2'.out.below HBK.out (by omega)) hin
          have hil : i < b.arcs.length := by rw [HN'.out]; exact hin
          have HTK := hide (flat_snoc (prodY a b) hil HX.out)
          have hmem : x ∈ b.arcs := by rw [← getDA hil HX.out]; exact List.getElem_mem _
          have HLEN := hide (show ((a.arcs.flatMap (prodX a b) ++ (b.arcs.take i).flatMap (prodY a b))).length + (prodY a b x).length ≤ 1000000 by
            have h1 := flat_len (prodY a b) b.arcs (i + 1)
            rw [HTK.out, List.length_append] at h1
            have h2 := HSZ.out
            unfold prodArcs at h2
            rw [List.length_append] at h2 ⊢
            omega)
          have hok := okArc_iff (HVB.out.okA hmem)
          rw [HS2.out] at hok
          obtain ⟨xf0, xf1, xt0, xt1, xi0, xi1, xo0, xo1, xw0, xw1⟩ := hok
          have lb : bb < wr.heap.size := by omega
          clear hmem hil
          by_cases hx0 : x.i = 0
          · skip
            have t0 : (x.i == 0) = true := by simp [hx0]
            have HPX := hide (show prodY a b x = (List.range S1).map (fun k : Nat => prodR b.n x (k : Int)) by unfold prodY; rw [if_pos hx0, HS1.out]; simp)
            have HPL := hide (show ∀ k : Nat, prodR b.n x (k : Int) = ⟨((k * S2 : Nat) : Int) + x.f, ((k * S2 : Nat) : Int) + x.t, 0, x.o, x.w⟩ from fun k => by unfold prodR enc; rw [HS2.out]; push_cast; rfl)
            have hqS : q + S1 ≤ 1000000 := by
              obtain ⟨_, _, _, _, _, h, _⟩ := HMK.out
              have h1 := arcs_len h
              have h2 := HLEN.out
              rw [HPX.out, List.length_map, List.length_range] at h2
              omega
            clear hx0
            obtain ⟨g, hmq, hgn⟩ := mqA_start HMK.out (Obj.cells #[.int .i64 x.f, .int .i64 x.t, .int .i64 x.i, .int .i64 x.o, .int .i64 x.w] 45) (World.alloc wr (Obj.cells #[.int .i64 x.f, .int .i64 x.t, .int .i64 x.i, .int .i64 x.o, .int .i64 x.w] 45)).heap.size
            have HMQ0 := hide hmq
            have HGN := hide (hgn wr.heap.size (Nat.le_refl _))
            clear hmq hgn
            go_wp2
            generalize hW7 : World.alloc _ _ = W7 at HMQ0 ⊢
            obtain ⟨X9, hX9⟩ : ∃ z, z = wr.heap.size := ⟨_, rfl⟩
            have HXB := hide (show Blk W7 X9 45 #[.int .i64 x.f, .int .i64 x.t, .int .i64 x.i, .int .i64 x.o, .int .i64 x.w] by rw [← hW7]; exact Blk.at_ hX9)
            have HBI7 := hide (show Below O W2 W7 by rw [← hW7]; exact HBK.out.alloc (by omega) _)
            have hXO : O < X9 := by omega
            have hX7 : X9 < W7.heap.size := HXB.out.lt
            rw [← hX9] at HGN
            simp only [← hX9]
            clear hW7 hX9 d0 d1 d2 d3 d4 lb t0 HMK HBK z0 z2 lXX bXX
            go_loopw [130] (fun iv wr => ∃ k : Nat, k ≤ S1 ∧ iv = .int .i64 k ∧ Hid (MqA wr O O (N : Int) (q + k) ((a.arcs.flatMap (prodX a b) ++ (b.arcs.take i).flatMap (prodY a b)) ++ (List.range k).map (fun k : Nat => prodR b.n x (k : Int))) 0 ([] : List Fnl) g W7.heap.size) ∧ Hid (Below O W2 wr) ∧ Hid (Keep O g W7 wr) ∧ O < wr.heap.size) (fun iv _ => S1 - (intOf iv).toNat)
            case atStart => exact ⟨0, by omega, rfl, hide (by simpa using HMQ0.out), HBI7, hide (Keep.refl _ _ _), by omega⟩
            case round =>
              clear HMQ0 HBI7
              obtain ⟨k, hk, rfl, HMQ, HBI, HKE, hbi⟩ := hrel
              have hsK := HKE.out.size
              have bX := HKE.out.at_ HXB.out (by omega) HGN.out
              have lX := bX.lt
              have bY := HY2.out.below HBI.out (by omega)
              have lY := bY.lt
              by_cases hks : k < S1
              · skip
                obtain ⟨A5, c5, AF5, cf5, bO5, hown5, hfin5, hin5⟩ := HMQ.out
                have lO := bO5.lt
                have o1 := bO5.cell 1
                have of1 := bO5.frozen 1
                simp at o1
                have HBKO := hide bO5
                have HOWN := hide hown5
                have HFIN := hide hfin5
                have HIN5 := hide hin5
                have HLOW := hide (show ∀ z, (Value.slice A5 (q + k) c5).ownBlock = some z → O ≤ z from fun z hz => (hown5.lt z hz).1)
                have hneO : (Value.slice A5 (q + k) c5).ownBlock ≠ some O := own_blk_ne hown5 bO5 (by decide)
                have hlq := arcs_len hown5
                clear HMQ bO5 hown5 hfin5 hin5
                have x0 := bX.cell 0
                have x1 := bX.cell 1
                have x2 := bX.cell 2
                have x3 := bX.cell 3
                have x4 := bX.cell 4
                simp at x0 x1 x2 x3 x4
                have y0 := bY.cell 0
                simp at y0
                obtain ⟨PK, hPK⟩ : ∃ z : Nat, z = k * S2 := ⟨_, rfl⟩
                have hpk : PK ≤ 160000 := by rw [hPK]; exact Nat.mul_le_mul (show k ≤ 400 by omega) s24
                have hPP1 : (k : Int) * (S2 : Int) = (PK : Int) := by rw [hPK]; push_cast; rfl
                have HPLk := HPL.out k
                rw [← hPK] at HPLk
                have HPK := hide HPLk
                clear bX bY HPLk hPK
                go_wp2_with (at_builtin; refine wpList_append_own_at _ rfl (.tmp 134) (.tmp 154) 22 rfl O 45 ia _ 5 40 Try.underlying22 ha0 ha1 ha2 ha3 rfl (by omega) (.slice A5 (q + k) c5) (q + k) _ rfl (HOWN.out.alloc _) ⟨wr.heap.size, 0, none⟩ 1 1 (arcRow [⟨(PK : Int) + x.f, (PK : Int) + x.t, 0, x.o, x.w⟩]) rfl (by rfl) (World.news_of_block (cs := (arcRow [⟨(PK : Int) + x.f, (PK : Int) + x.t, 0, x.o, x.w⟩]).toArray) (t := 45) (fr := (0, 0)) (Blk.at_ (by first | rfl | simp))) (arcRow_one _) (by simp only [maxLen]; omega) (by omega) (by simp <;> omega) ?_; intro v' w6 hown2 hg2 _ hat2; obtain ⟨Av, cv, rfl, hkcv, _⟩ := own_value hown2; have o1' := far_cell hg2 hneO (o := 1) (v := (.slice A5 (q + k) c5)) (by exact (HBKO.out.alloc _).cell 1); have bO6 := (HBKO.out.alloc _).grown hg2 (Ne.symm hneO); have of1' := bO6.frozen 1; have lO6 := bO6.lt)
                have hs6 := hg2.size
                simp at hs6
                have HG2 := hide hg2
                have HNEW := hide (mqA_push (HBKO.out.alloc _) (HOWN.out.alloc _) (HFIN.out.alloc _) hg2 hown2 hat2 HIN5.out (by simp <;> omega))
                have HKP := hide ((((HKE.out.alloc _)).grown hg2 HIN5.out).set 1 (.slice Av ((q + k) + 1) cv))
                have HBN := hide (((HBI.out.alloc (by omega) _).grown hg2 (by simp <;> omega) (fun z hz => HLOW.out z hz)).setCell (p := ⟨O, 1, none⟩) (by exact Nat.le_refl _) (.slice Av ((q + k) + 1) cv))
                clear hown2 hg2 hat2 bO6
                go_roundw
                case rel => exact ⟨k + 1, by omega, by go_num, hide (by rw [List.range_succ, List.map_append, List.map_cons, List.map_nil, HPK.out, ← List.append_assoc]; exact HNEW.out), HBN, HKP, by simp [World.setCell]; omega⟩
                case measure => simp [intOf]; omega
              · obtain rfl : S1 = k := by omega
                have HMK2 := hide (show Mq wr O O (N : Int) (q + S1) (a.arcs.flatMap (prodX a b) ++ (b.arcs.take (i + 1)).flatMap (prodY a b)) 0 ([] : List Fnl) by rw [HTK.out, HPX.out, ← List.append_assoc]; exact HMQ.out.mq)
                clear HMQ bX bY
                go_wp2
                go_roundw
                case rel => exact ⟨i + 1, q + S1, by omega, by go_num, HMK2, HBI, hbi⟩
                case measure => simp [intOf]; omega
          · skip
            have t0 : (x.i == 0) = false := by simp [hx0]
            have HPX := hide (show prodY a b x = [] by unfold prodY; rw [if_neg hx0])
            have HMK2 := hide (show Mq wr O O (N : Int) q (a.arcs.flatMap (prodX a b) ++ (b.arcs.take (i + 1)).flatMap (prodY a b)) 0 ([] : List Fnl) by rw [HTK.out, HPX.out, List.append_nil]; exact HMK.out)
            obtain ⟨g, hmq, hgn⟩ := mqA_start HMK2.out (Obj.cells #[.int .i64 x.f, .int .i64 x.t, .int .i64 x.i, .int .i64 x.o, .int .i64 x.w] 45) 0
            have HMK3 := hide hmq.mq
            clear hx0 bXX z0 z2 lXX HMK HMK2 hmq hgn
            go_wp2
            go_roundw
            case rel => exact ⟨i + 1, q, by omega, by go_num, HMK3, hide (HBK.out.alloc (by omega) _), by simp; omega⟩
            case measure => simp [intOf]; omega
        · obtain rfl : n' = i := by omega
          have HMK2 := hide (show Mq wr O O (N : Int) q (prodArcs a b) 0 ((a.fins.take 0).flatMap fun x => b.fins.map fun y => (⟨enc b.n x.s y.s, x.w + y.w⟩ : Fnl)) by
            have h := HMK.out
            rw [List.take_of_length_le (show b.arcs.length ≤ n' by rw [HN'.out]; exact Nat.le_refl _)] at h
            exact h)
          have hq6 : q ≤ 1000000 := by
            obtain ⟨_, _, _, _, _, h, _⟩ := HMK2.out
            have h1 := arcs_len h
            have h2 := HSZ.out
            omega
          clear HMK bXX
          go_wp2
          clear z0 z2 lXX
          obtain ⟨gF, hgF⟩ : ∃ f : Fnl → List Fnl, f = fun x => b.fins.map fun y => (⟨enc b.n x.s y.s, x.w + y.w⟩ : Fnl) := ⟨_, rfl⟩
          have HGF := hide hgF
          rw [← hgF] at HMK2
          clear hgF
          go_loopw [162] (fun iv wr => ∃ (i r : Nat), i ≤ nf ∧ iv = .int .i64 i ∧ Hid (Mq wr O O (N : Int) q (prodArcs a b) r ((a.fins.take i).flatMap gF)) ∧ r ≤ i * nf' ∧ Hid (Below O W2 wr) ∧ O < wr.heap.size) (fun iv _ => nf - (intOf iv).toNat)
          case atStart => exact ⟨0, 0, by omega, rfl, HMK2, by omega, HBK, hbz⟩
          case round =>
            clear HMK2 hbz HBK
            obtain ⟨i, r, hi, rfl, HMK, hri, HBK, hbz⟩ := hrel
            have bY := HY2.out.below HBK.out (by omega)
            have y0 := bY.cell 0
            have y2 := bY.cell 2
            simp at y0 y2
            have lY := bY.lt
            by_cases hin : i < nf
            · obtain ⟨bb, off, x, rfl, hbB, d0, d1, HX⟩ := fins_at (HRF2.out.below HBK.out (by omega)) hin
              have hil : i < a.fins.length := by rw [HF.out]; exact hin
              have HTK := hide (flat_snocF gF hil HX.out)
              have hmem : x ∈ a.fins := by rw [← getDF hil HX.out]; exact List.getElem_mem _
              have hok := okFin_iff (HVA.out.okF hmem)
              rw [HS1.out] at hok
              obtain ⟨xs0, xs1, xw0, xw1⟩ := hok
              obtain ⟨P1, hP1⟩ : ∃ z, z = x.s * (S2 : Int) := ⟨_, rfl⟩
              have p10 : 0 ≤ P1 := by rw [hP1]; exact Int.mul_nonneg xs0 (by omega)
              have p11 : P1 ≤ 160000 := by rw [hP1]; have := Int.mul_le_mul (show x.s ≤ 400 by omega) (show (S2 : Int) ≤ 400 by omega) (by omega) (by omega); omega
              have HPP1 := hide hP1.symm
              have HPL := hide (show ∀ y : Fnl, (⟨enc b.n x.s y.s, x.w + y.w⟩ : Fnl) = ⟨P1 + y.s, x.w + y.w⟩ from fun y => by unfold enc; rw [HS2.out, hP1])
              have hrm : r ≤ 160000 := by have h1 : i * nf' ≤ 400 * 400 := Nat.mul_le_mul (show i ≤ 400 by omega) hfl'; omega
              have hrn : r + nf' ≤ (i + 1) * nf' := by rw [Nat.succ_mul]; omega
              have lb : bb < wr.heap.size := by omega
              clear hmem hil hP1
              obtain ⟨g, hmq, hgn⟩ := mqF_start HMK.out (Obj.cells #[.int .i64 x.s, .int .i64 x.w] 51) (World.alloc wr (Obj.cells #[.int .i64 x.s, .int .i64 x.w] 51)).heap.size
              have HMQ0 := hide hmq
              have HGN := hide (hgn wr.heap.size (Nat.le_refl _))
              clear hmq hgn
              go_wp2
              generalize hW7 : World.alloc _ _ = W7 at HMQ0 ⊢
              obtain ⟨X9, hX9⟩ : ∃ z, z = wr.heap.size := ⟨_, rfl⟩
              have HXB := hide (show Blk W7 X9 51 #[.int .i64 x.s, .int .i64 x.w] by rw [← hW7]; exact Blk.at_ hX9)
              have HBI7 := hide (show Below O W2 W7 by rw [← hW7]; exact HBK.out.alloc (by omega) _)
              have hXO : O < X9 := by omega
              have hX7 : X9 < W7.heap.size := HXB.out.lt
              rw [← hX9] at HGN
              simp only [← hX9]
              clear hW7 hX9 d0 d1 lb HMK HBK y0 y2 lY bY
              go_loopw [169] (fun iv wr => ∃ k : Nat, k ≤ nf' ∧ iv = .int .i64 k ∧ Hid (MqF wr O O (N : Int) q (prodArcs a b) (r + k) ((a.fins.take i).flatMap gF ++ (b.fins.take k).map fun y => (⟨enc b.n x.s y.s, x.w + y.w⟩ : Fnl)) g W7.heap.size) ∧ Hid (Below O W2 wr) ∧ Hid (Keep O g W7 wr) ∧ O < wr.heap.size) (fun iv _ => nf' - (intOf iv).toNat)
              case atStart => exact ⟨0, by omega, rfl, hide (by simpa using HMQ0.out), HBI7, hide (Keep.refl _ _ _), by omega⟩
              case round =>
                clear HMQ0 HBI7
                obtain ⟨k, hk, rfl, HMQ, HBI, HKE, hbi⟩ := hrel
                have hsK := HKE.out.size
                have bX := HKE.out.at_ HXB.out (by omega) HGN.out
                have lX := bX.lt
                have bY := HY2.out.below HBI.out (by omega)
                have lY := bY.lt
                by_cases hks : k < nf'
                · skip
                  obtain ⟨bb', off', y, rfl, hbB', d0, d1, HY⟩ := fins_at (HRF2'.out.below HBI.out (by omega)) hks
                  have hkl : k < b.fins.length := by rw [HF'.out]; exact hks
                  have hmem : y ∈ b.fins := by rw [← getDF hkl HY.out]; exact List.getElem_mem _
                  have hok := okFin_iff (HVB.out.okF hmem)
                  rw [HS2.out] at hok
                  obtain ⟨ys0, ys1, yw0, yw1⟩ := hok
                  have lb : bb' < wr.heap.size := by omega
                  have HTK2 := hide (takeF_snoc hkl HY.out)
                  clear hmem hkl HY
                  obtain ⟨A5, c5, AF5, cf5, bO5, hown5, hfin5, hin5⟩ := HMQ.out
                  have lO := bO5.lt
                  have o1 := bO5.cell 2
                  have of1 := bO5.frozen 2
                  simp at o1
                  have HBKO := hide bO5
                  have HOWN := hide hown5
                  have HFIN := hide hfin5
                  have HIN5 := hide hin5
                  have HLOW := hide (show ∀ z, (Value.slice AF5 (r + k) cf5).ownBlock = some z → O ≤ z from fun z hz => (hfin5.lt z hz).1)
                  have hneO : (Value.slice AF5 (r + k) cf5).ownBlock ≠ some O := own_blk_ne hfin5 bO5 (by decide)
                  have hlq := fins_len hfin5
                  clear HMQ bO5 hown5 hfin5 hin5
                  have x0 := bX.cell 0
                  have x1 := bX.cell 1
                  simp at x0 x1
                  have y0 := bY.cell 0
                  simp at y0
                  have hPP1 : x.s * (S2 : Int) = P1 := HPP1.out
                  clear bX bY
                  go_wp2_with (at_builtin; refine wpList_append_own_at _ rfl (.tmp 174) (.tmp 189) 23 rfl O 51 iF _ 2 16 Try.underlying23 hF0 hF1 hF2 hF3 rfl (by omega) (.slice AF5 (r + k) cf5) (r + k) _ rfl ((HFIN.out.alloc _).alloc _) ⟨wr.heap.size + 1, 0, none⟩ 1 1 (finRow [⟨P1 + y.s, x.w + y.w⟩]) rfl (by rfl) (World.news_of_block (cs := (finRow [⟨P1 + y.s, x.w + y.w⟩]).toArray) (t := 51) (fr := (0, 0)) (Blk.at_ (by first | rfl | simp))) (finRow_one _) (by simp only [maxLen]; omega) (by omega) (by simp <;> omega) ?_; intro v' w6 hown2 hg2 _ hat2; obtain ⟨Av, cv, rfl, hkcv, _⟩ := own_value hown2; have o1' := far_cell hg2 hneO (o := 2) (v := (.slice AF5 (r + k) cf5)) (by exact ((HBKO.out.alloc _).alloc _).cell 2); have bO6 := ((HBKO.out.alloc _).alloc _).grown hg2 (Ne.symm hneO); have of1' := bO6.frozen 2; have lO6 := bO6.lt)
                  have hs6 := hg2.size
                  simp at hs6
                  have HG2 := hide hg2
                  have HNEW := hide (mqF_push ((HBKO.out.alloc _).alloc _) ((HOWN.out.alloc _).alloc _) ((HFIN.out.alloc _).alloc _) hg2 hown2 hat2 HIN5.out (by simp <;> omega))
                  have HKP := hide (((((HKE.out.alloc _).alloc _)).grown hg2 HIN5.out).set 2 (.slice Av ((r + k) + 1) cv))
                  have HBN := hide ((((HBI.out.alloc (by omega) _).alloc (by simp; omega) _).grown hg2 (by simp <;> omega) (fun z hz => HLOW.out z hz)).setCell (p := ⟨O, 2, none⟩) (by exact Nat.le_refl _) (.slice Av ((r + k) + 1) cv))
                  clear hown2 hg2 hat2 bO6
                  go_roundw
                  case rel => exact ⟨k + 1, by omega, by go_num, hide (by rw [HTK2.out, List.map_append, List.map_cons, List.map_nil, HPL.out y, ← List.append_assoc]; exact HNEW.out), HBN, HKP, by simp [World.setCell]; omega⟩
                  case measure => simp [intOf]; omega
                · obtain rfl : nf' = k := by omega
                  have HMK2 := hide (show Mq wr O O (N : Int) q (prodArcs a b) (r + nf') ((a.fins.take (i + 1)).flatMap gF) by
                    rw [HTK.out]
                    have h := HMQ.out.mq
                    rw [List.take_of_length_le (show b.fins.length ≤ nf' by rw [HF'.out]; exact Nat.le_refl _)] at h
                    rw [show gF x = b.fins.map fun y => (⟨enc b.n x.s y.s, x.w + y.w⟩ : Fnl) by rw [HGF.out]]
                    exact h)
                  clear HMQ bX bY
                  go_wp2
                  go_roundw
                  case rel => exact ⟨i + 1, r + nf', by omega, by go_num, HMK2, hrn, HBI, hbi⟩
                  case measure => simp [intOf]; omega
            · obtain rfl : nf = i := by omega
              have HMK2 := hide (show Mq wr O O (N : Int) q (prodArcs a b) r (prodFins a b) by
                have h := HMK.out
                rw [List.take_of_length_le (show a.fins.length ≤ nf by rw [HF.out]; exact Nat.le_refl _), HGF.out] at h
                exact h)
              clear HMK bY y0 y2 lY
              obtain ⟨A5, c5, AF5, cf5, bO5, hown5, hfin5⟩ := HMK2.out
              have hrl := fins_len hfin5
              have hrb : r ≤ 160000 := by have h1 : nf * nf' ≤ 400 * 400 := Nat.mul_le_mul hfl hfl'; omega
              have HMA := hide (show MachAt wr wr.heap.size (.agg #[.int .i64 (N : Int), .slice A5 q c5, .slice AF5 r cf5]) (prodM a b) by
                have h := mq_at (O := O) (n0 := (N : Int)) hown5 hfin5 (by unfold big; omega) (by unfold big; omega)
                have e : (prodM a b).n = (N : Int) := by show a.n * b.n = _; rw [HS1.out, HS2.out, HNN.out]; push_cast; rfl
                have e2 : prodM a b = ⟨(N : Int), prodArcs a b, prodFins a b⟩ := by rw [← e]; rfl
                rw [e2]; exact h)
              have HSP := hide (szP HVA.out HVB.out HSZ.out (by omega) hnN)
              obtain ⟨TM, hTM⟩ : ∃ z, z = trimOf (prodM a b) := ⟨_, rfl⟩
              have HTR := hide (fun W (h : W = wr) => trimmed_gen (.agg #[.int .i64 (N : Int), .slice A5 q c5, .slice AF5 r cf5]) (prodM a b) W W.heap.size (Nat.le_refl _) (by rw [h]; exact HMA.out) HSP.out)
              rw [← hTM] at HTR
              have hTl : TM.arcs.length ≤ 1000000 := by
                rw [hTM]
                unfold trimOf
                split
                · show (0 : Nat) ≤ _; omega
                · show (partArcs _ (prodArcs a b)).length ≤ _
                  unfold partArcs
                  rw [List.length_map]
                  exact Nat.le_trans (List.length_filter_le _ _) HSZ.out
              have HTL := hide hTl
              have HTM := hide hTM
              have o0 := bO5.cell 0
              have o1 := bO5.cell 1
              have o2 := bO5.cell 2
              simp at o0 o1 o2
              have lO := bO5.lt
              have HBO := hide bO5
              clear hown5 hfin5 hrl bO5 HMK2 HMA HSP hTM hTl
              go_wp2_with fail
              refine (HTR.out _ rfl).mono ?_
              rintro e w5 ⟨v5, rfl, hM, hb5⟩
              obtain ⟨T5, n5, c6, TF5, nf5, cf6, rfl⟩ := agg_of hM
              obtain ⟨g5, hg5⟩ : ∃ g, g = TM.n := ⟨_, rfl⟩
              rw [← hg5] at hM ⊢
              have HG5 := hide hg5
              have bO6 := HBO.out.below hb5 lO
              have o0 := bO6.cell 0
              have o1 := bO6.cell 1
              have o2 := bO6.cell 2
              have of0 := bO6.frozen 0
              have of1 := bO6.frozen 1
              have of2 := bO6.frozen 2
              simp at o0 o1 o2
              have lO6 := bO6.lt
              have HB5 := hide (HBK.out.trans (hb5.mono (by omega)))
              have HM6 := hide (((hM.set (p := ⟨O, 0, none⟩) (by exact hbz) (.int .i64 g5)).set (p := ⟨O, 1, none⟩) (by exact hbz) (.slice T5 n5 c6)).set (p := ⟨O, 2, none⟩) (by exact hbz) (.slice TF5 nf5 cf6))
              have HB6 := hide (((HB5.out.setCell (p := ⟨O, 0, none⟩) (by exact Nat.le_refl _) (.int .i64 g5)).setCell (p := ⟨O, 1, none⟩) (by exact Nat.le_refl _) (.slice T5 n5 c6)).setCell (p := ⟨O, 2, none⟩) (by exact Nat.le_refl _) (.slice TF5 nf5 cf6))
              have HO6 := hide (((bO6.set_ 0 (.int .i64 g5)).set_ 1 (.slice T5 n5 c6)).set_ 2 (.slice TF5 nf5 cf6))
              have hz6 : wr.heap.size ≤ w5.heap.size := hb5.size
              have hT1 : TM.arcs.length = n5 := by
                obtain ⟨_, _, _, _, _, _, e, e1, _⟩ := hM.at_
                simp only [Value.agg.injEq] at e
                have := e1.out
                injection e with e
                injection e with e e2
                injection e2 with e2 e3
                injection e2 with e4 e5 e6
                omega
              have HTN := hide hT1
              clear hg5 hM hb5 bO6 HTR HBO HB5 hT1
              go_upto_region 40 with fail
              generalize hW6 : World.setCell _ _ _ = W6
              rw [hW6] at HM6 HB6 HO6
              have hz7 : W6.heap.size = w5.heap.size := by rw [← hW6]; simp [World.setCell]
              clear hW6 o0 o1 o2 of0 of1 of2
              have bO7 := HO6.out
              simp at bO7
              have o1 := bO7.cell 1
              have of1 := bO7.frozen 1
              simp at o1
              have lO7 := bO7.lt
              have hn5 : n5 ≤ 1000000 := by have := HTL.out; rw [HTN.out] at this; exact this
              have HSR := hide (fun W (hW : W = W6) => sorted_big T5 n5 c6 true TM.arcs W W6.heap.size (by rw [hW]; exact Nat.le_refl _) HTN.out hn5 (by
                rw [hW]
                obtain ⟨A9, AF9, m9, c9, mf9, cf9, e, _, _, _, _, _, _, hr, _⟩ := HM6.out.at_
                injection e with e
                injection e with e
                injection e with e e2
                injection e2 with e2 e3
                injection e2 with e4 e5 e6
                subst e4 e5
                exact hr))
              have HBO7 := hide bO7
              clear bO7
              go_wp2_with fail
              refine (HSR.out _ rfl).mono ?_
              rintro e w9 ⟨A9, c9, rfl, hown9, hb9⟩
              rw [sameA_red] at hown9 ⊢
              obtain ⟨RL, hRL⟩ : ∃ z, z = compact likeA (srtA TM.arcs) := ⟨_, rfl⟩
              rw [← hRL] at hown9 ⊢
              obtain ⟨n9, hn9⟩ : ∃ z, z = RL.length := ⟨_, rfl⟩
              rw [← hn9] at hown9 ⊢
              obtain ⟨A9', c9', hv9, hnc9, hcm9⟩ := own_value hown9
              obtain ⟨rfl, rfl⟩ : A9 = A9' ∧ c9 = c9' := by injection hv9 with e1 e2 e3; exact ⟨e1, e3⟩
              clear hv9
              have hl9 : n9 ≤ n5 := by rw [hn9, hRL, ← HTN.out]; exact Nat.le_trans (compact_len likeA _) (Nat.le_of_eq (srtA_perm _).length_eq)
              have HRL := hide hRL
              have HN9 := hide hn9
              have bO9 := HBO7.out.below hb9 lO7
              have hb9' : Below O W2 w9 := HB6.out.trans (hb9.mono (by omega))
              have bR := HR2.out.below hb9' (by omega)
              have HBE := hide (HBW.out.trans (hb9'.mono (by omega)))
              have HM9 := hide (HM6.out.below hb9 (Nat.le_refl _))
              have hown9' := own_monoX hown9 (show wr.heap.size ≤ _ by omega)
              have hOwr : O < wr.heap.size := hbz
              have hRwr : w.heap.size + 1 + 1 < wr.heap.size := by omega
              have HOW9 := hide (ownsRow_setCell_below (ownsRow_setCell_below (ownsRow_setCell_below (ownsRow_setCell_below hown9' (a := ⟨O, 1, none⟩) (by exact hOwr) (.slice A9 n9 c9)) (a := ⟨w.heap.size + 1 + 1, 0, none⟩) (by exact hRwr) (.int .i64 g5)) (a := ⟨w.heap.size + 1 + 1, 1, none⟩) (by exact hRwr) (.slice A9 n9 c9)) (a := ⟨w.heap.size + 1 + 1, 2, none⟩) (by exact hRwr) (.slice TF5 nf5 cf6))
              have HM10 := hide ((((HM9.out.set (p := ⟨O, 1, none⟩) (by exact hOwr) (.slice A9 n9 c9)).set (p := ⟨w.heap.size + 1 + 1, 0, none⟩) (by exact hRwr) (.int .i64 g5)).set (p := ⟨w.heap.size + 1 + 1, 1, none⟩) (by exact hRwr) (.slice A9 n9 c9)).set (p := ⟨w.heap.size + 1 + 1, 2, none⟩) (by exact hRwr) (.slice TF5 nf5 cf6))
              have HBE' := hide ((((HBE.out.setCell (p := ⟨O, 1, none⟩) (by dsimp only; omega) (.slice A9 n9 c9)).setCell (p := ⟨w.heap.size + 1 + 1, 0, none⟩) (by dsimp only; omega) (.int .i64 g5)).setCell (p := ⟨w.heap.size + 1 + 1, 1, none⟩) (by dsimp only; omega) (.slice A9 n9 c9)).setCell (p := ⟨w.heap.size + 1 + 1, 2, none⟩) (by dsimp only; omega) (.slice TF5 nf5 cf6))
              have o0 := bO9.cell 0
              have o1 := bO9.cell 1
              have o2 := bO9.cell 2
              have of1 := bO9.frozen 1
              have lO9 := bO9.lt
              have q0 := bR.cell 0
              have q1 := bR.cell 1
              have q2 := bR.cell 2
              have qf := bR.frozen 0
              have qf1 := bR.frozen 1
              have qf2 := bR.frozen 2
              have lR := bR.lt
              simp at o0 o1 o2 q0 q1 q2
              have hRO : w.heap.size + 1 + 1 ≠ O := by omega
              have hOR : O ≠ w.heap.size + 1 + 1 := by omega
              clear hb9 hb9' bO9 bR hown9 hown9' hRL hn9 HBE HSR HBO7 HM9 HM6 HB6 HO6 HX2 HY2 HR2 HRA2 HRF2 HRA2' HRF2' HBK
              go_wp21
              refine bodyPost_ret (v := .agg #[.int .i64 g5, .slice A9 n9 c9, .slice TF5 nf5 cf6]) (by simp [results, Try.results49, go_sem, lR, q0, q1, q2, qf, qf1, qf2, hRO, hOR]) rfl ⟨_, rfl, ?_, HBE'.out⟩
              have e9 : compM a b = ⟨g5, RL, TM.fins⟩ := by unfold compM redM; rw [← HTM.out, HRL.out, HG5.out]; rfl
              rw [e9]
              have hww : w.heap.size ≤ wr.heap.size := by omega
              intro W hs hag
              obtain ⟨B9, BF9, m9, d9, mf9, df9, e, _, k1, _, k3, _, k5, _, hr⟩ := HM10.out W hs (fun b hb hlt => hag b (by omega) hlt)
              injection e with e
              injection e with e
              injection e with e e2
              injection e2 with e2 e3
              injection e3 with e3 e7
              injection e3 with e4 e5 e6
              subst e4 e5 e6
              exact ⟨A9, TF5, n9, c9, nf5, cf6, rfl, hide HN9.out.symm, k1, hnc9, k3, by unfold big; omega, k5, Rd.of_own (own_agree HOW9.out hs (fun b hb => hag b (by omega))) (fun i j hi hj => arcRow_at _ i j (by show i < RL.length; rw [← HN9.out]; exact hi) hj), hr⟩
end Go.Proofs.Ytmgpcnkmmgkjgaa
