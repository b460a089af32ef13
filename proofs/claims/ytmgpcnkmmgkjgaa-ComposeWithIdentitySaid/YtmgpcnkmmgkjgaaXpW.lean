/- compose.explore, walked. Written by gen_ex.py. -/
import Derived.Test.YtmgpcnkmmgkjgaaKlC
import Derived.Test.YtmgpcnkmmgkjgaaTrimA
import Derived.Test.YtmgpcnkmmgkjgaaReach
import Derived.IntWalk
import Derived.Deep.CutRange
import Derived.Deep.LoopGhost
namespace Gm
open Go Go.RowKit
set_option linter.unusedSimpArgs false
set_option linter.unusedVariables false
theorem OwnLL.far {w : World} {base eO eI sz G n : Nat} {vs : Nat → Value} {L : Nat → List Value} {m : Nat → Nat} (h : OwnLL w base eO eI sz G n vs L m) {p : Addr} (hp : G ≠ p.block) (hlt : p.block < base) (u : Value) : OwnLL (w.setCell p u) base eO eI sz G n vs L m :=
  ⟨h.row.of_block (Below.heap_setCell w p u G hp), h.low, fun i hi => ownsRow_setCell_below (h.own i hi) hlt u, h.dis⟩
/-- Two slices of n cells each, made in either order. -/
def TwoG (w wx : World) (Z G1 G2 na nb : Nat) (e : TypeId) : Prop := Z ≤ G1 ∧ Z ≤ G2 ∧ G1 < Z + 2 ∧ G2 < Z + 2 ∧ G1 ≠ G2 ∧ wx.rowIs G1 e na (fun _ => .slice none 0 0) ∧ wx.rowIs G2 e nb (fun _ => .slice none 0 0) ∧ Below Z w wx ∧ Z + 2 ≤ wx.heap.size
theorem twoG_1 {W0 : World} {Z na nb : Nat} {e : TypeId} (hz : W0.heap.size = Z) : TwoG W0 ((W0.alloc (Obj.cells (madeCells #[Value.slice none 0 0] na) e)).alloc (Obj.cells (madeCells #[Value.slice none 0 0] nb) e)).drew Z W0.heap.size (W0.heap.size + 1) na nb e := by
  have r1 := (World.rowIs_made W0 (.slice none 0 0) na e).alloc (Obj.cells (madeCells #[Value.slice none 0 0] nb) e)
  have r2 := World.rowIs_made (W0.alloc (Obj.cells (madeCells #[Value.slice none 0 0] na) e)) (.slice none 0 0) nb e
  exact ⟨by omega, by omega, by omega, by omega, by omega, r1.drew, by simpa using r2.drew, (((Below.refl Z W0).alloc (by omega) _).alloc (by simp; omega) _).drew, by simp; omega⟩
theorem twoG_2 {W0 : World} {Z na nb : Nat} {e : TypeId} (hz : W0.heap.size = Z) : TwoG W0 ((W0.alloc (Obj.cells (madeCells #[Value.slice none 0 0] nb) e)).alloc (Obj.cells (madeCells #[Value.slice none 0 0] na) e)).drew Z (W0.heap.size + 1) W0.heap.size na nb e := by
  have r1 := (World.rowIs_made W0 (.slice none 0 0) nb e).alloc (Obj.cells (madeCells #[Value.slice none 0 0] na) e)
  have r2 := World.rowIs_made (W0.alloc (Obj.cells (madeCells #[Value.slice none 0 0] nb) e)) (.slice none 0 0) na e
  exact ⟨by omega, by omega, by omega, by omega, by omega, by simpa using r2.drew, r1.drew, (((Below.refl Z W0).alloc (by omega) _).alloc (by simp; omega) _).drew, by simp; omega⟩
/-- The rows of arcs by their first states, as they are read. -/
def RowsAt (w : World) (G : Nat) (l : List Arc) (S : Nat) : Prop := ∀ s, s < S → ∃ A n c, w.cell? ⟨G, s, none⟩ = some (.slice A n c) ∧ n = (outs l s).length ∧ n ≤ c ∧ Rd w w.heap.size 5 A n (arcCell (outs l s))
theorem rowsAt_of {w : World} {base G S : Nat} {eO eI : TypeId} {vs : Nat → Value} {l : List Arc} (h : OwnLL w base eO eI 5 G S vs (fun i => arcRow (outs l i)) (fun i => (outs l i).length)) : RowsAt w G l S := fun s hs => by
  have h1 := h.row.cell hs
  have h2 := h.own s hs
  obtain ⟨A, c, hv, hnc, _⟩ := own_value h2
  rw [hv] at h1 h2
  exact ⟨A, _, c, h1, rfl, hnc, Rd.of_own h2 (arcRow_at _)⟩
def pX (c : Fnl) (OA OB : List Arc) (k : Nat) : List Arc := (OA.take k).flatMap (stpX c OB)
def pM (OB : List Arc) (x : Arc) (j : Nat) : List Arc := ((OB.take j).filter fun y => decide (y.i = x.o)).map fun y => ⟨x.t, y.t, x.i, y.o, x.w + y.w⟩
def pY (c : Fnl) (OB : List Arc) (j : Nat) : List Arc := ((OB.take j).filter fun y => decide (y.i = 0)).map fun y => ⟨c.s, y.t, 0, y.o, y.w⟩
theorem pX_eps {c : Fnl} {OA OB : List Arc} {k : Nat} {x : Arc} (hk : k < OA.length) (hx : OA.getD k dA = x) (ho : x.o = 0) : pX c OA OB (k + 1) = pX c OA OB k ++ [⟨x.t, c.w, x.i, 0, x.w⟩] := by
  unfold pX
  rw [take_push hk hx, List.flatMap_append]
  simp [stpX, ho]
theorem pX_mid {c : Fnl} {OA OB : List Arc} {k : Nat} {x : Arc} (hk : k < OA.length) (hx : OA.getD k dA = x) (ho : ¬ x.o = 0) {j : Nat} (hj : OB.length ≤ j) : pX c OA OB (k + 1) = pX c OA OB k ++ pM OB x j := by
  unfold pX pM
  rw [take_push hk hx, List.flatMap_append, List.take_of_length_le hj]
  simp [stpX, ho]
theorem pM_yes {OB : List Arc} {x y : Arc} {j : Nat} (hj : j < OB.length) (hy : OB.getD j dA = y) (h : y.i = x.o) : pM OB x (j + 1) = pM OB x j ++ [⟨x.t, y.t, x.i, y.o, x.w + y.w⟩] := by
  unfold pM
  rw [take_push hj hy, List.filter_append, List.map_append]
  simp [h]
theorem pM_no {OB : List Arc} {x y : Arc} {j : Nat} (hj : j < OB.length) (hy : OB.getD j dA = y) (h : ¬ y.i = x.o) : pM OB x (j + 1) = pM OB x j := by
  unfold pM
  rw [take_push hj hy, List.filter_append, List.map_append]
  simp [h]
theorem pY_yes {c : Fnl} {OB : List Arc} {y : Arc} {j : Nat} (hj : j < OB.length) (hy : OB.getD j dA = y) (h : y.i = 0) : pY c OB (j + 1) = pY c OB j ++ [⟨c.s, y.t, 0, y.o, y.w⟩] := by
  unfold pY
  rw [take_push hj hy, List.filter_append, List.map_append]
  simp [h]
theorem pY_no {c : Fnl} {OB : List Arc} {y : Arc} {j : Nat} (hj : j < OB.length) (hy : OB.getD j dA = y) (h : ¬ y.i = 0) : pY c OB (j + 1) = pY c OB j := by
  unfold pY
  rw [take_push hj hy, List.filter_append, List.map_append]
  simp [h]
theorem pM_len (OB : List Arc) (x : Arc) (j : Nat) : (pM OB x j).length ≤ OB.length := by
  unfold pM
  rw [List.length_map]
  refine Nat.le_trans (List.length_filter_le _ _) ?_
  rw [List.length_take]; omega
theorem pY_len (c : Fnl) (OB : List Arc) (j : Nat) : (pY c OB j).length ≤ OB.length := by
  unfold pY
  rw [List.length_map]
  refine Nat.le_trans (List.length_filter_le _ _) ?_
  rw [List.length_take]; omega
theorem stpX_len (c : Fnl) (OB : List Arc) (x : Arc) : (stpX c OB x).length ≤ OB.length + 1 := by
  unfold stpX
  split
  · simp
  · rw [List.length_map]; have := List.length_filter_le (fun y : Arc => decide (y.i = x.o)) OB; omega
theorem flatMap_len {α β : Type} {f : α → List β} {q : Nat} (h : ∀ x, (f x).length ≤ q) : ∀ l : List α, (l.flatMap f).length ≤ l.length * q
  | [] => by simp
  | x :: l => by
    rw [List.flatMap_cons, List.length_append, List.length_cons, Nat.succ_mul]
    have := h x
    have := flatMap_len h l
    omega
theorem pX_len {c : Fnl} {OA OB : List Arc} {k : Nat} (h1 : OA.length ≤ 2000) (h2 : OB.length ≤ 2000) : (pX c OA OB k).length ≤ 4002000 := by
  unfold pX
  refine Nat.le_trans (flatMap_len (fun x => stpX_len c OB x) _) ?_
  rw [List.length_take]
  exact Nat.le_trans (Nat.mul_le_mul (show min k OA.length ≤ 2000 by omega) (show OB.length + 1 ≤ 2001 by omega)) (by omega)
theorem steps_parts {a b : Mach} {c : Fnl} {k j : Nat} (h1 : (outs a.arcs c.s.toNat).length ≤ k) (h2 : (outs b.arcs c.w.toNat).length ≤ j) : stepsOf a b c = pX c (outs a.arcs c.s.toNat) (outs b.arcs c.w.toNat) k ++ pY c (outs b.arcs c.w.toNat) j := by
  unfold stepsOf pX pY stpY
  rw [List.take_of_length_le h1, List.take_of_length_le h2]
theorem own_step {w : World} {base n : Nat} {e : TypeId} {v : Value} {l k : List Arc} {y : Arc} (h : w.ownsRow base e 5 v (n + 1) (arcRow l ++ arcRow [y])) (hn : n = l.length) (hk : k = l ++ [y]) : w.ownsRow base e 5 v k.length (arcRow k) := by
  subst hk
  rw [arcRow_append, List.length_append, ← hn]
  exact h
/-- The rows of steps that the map holds. -/
def StR (w : World) (base : Nat) (e : TypeId) (a b : Mach) (L : List (Fnl × Value)) (D : List Fnl) : Prop := ∀ c ∈ D, ∃ A n cp, lk L c = some (.slice A n cp) ∧ n = (stepsOf a b c).length ∧ w.ownsRow base e 5 (.slice A n cp) n (arcRow (stepsOf a b c))
theorem StR.nil (w : World) (base : Nat) (e : TypeId) (a b : Mach) (L : List (Fnl × Value)) : StR w base e a b L [] := fun c hc => by cases hc
theorem own_below' {w w' : World} {base sz n : Nat} {e : TypeId} {v : Value} {xs : List Value} (h : w.ownsRow base e sz v n xs) (hb : Below w.heap.size w w') : w'.ownsRow base e sz v n xs :=
  h.kept (row := none) ⟨hb.os, hb.tape, hb.output, hb.size, fun k hk _ => hb.block k hk⟩ (by cases v.ownBlock <;> simp)
section
variable {w w' : World} {base : Nat} {e : TypeId} {a b : Mach} {L : List (Fnl × Value)} {D : List Fnl}
theorem StR.below (h : StR w base e a b L D) (hb : Below w.heap.size w w') : StR w' base e a b L D := fun c hc => by
  obtain ⟨A, n, cp, h1, h2, h3⟩ := h c hc
  exact ⟨A, n, cp, h1, h2, own_below' h3 hb⟩
theorem StR.own (h : StR w base e a b L D) {b2 s2 n2 : Nat} {e2 : TypeId} {v2 : Value} {x2 : List Value} (ho : w.ownsRow b2 e2 s2 v2 n2 x2) (hne : e ≠ e2) (hg : w.grownBy w' v2.ownBlock) : StR w' base e a b L D := fun c hc => by
  obtain ⟨A, n, cp, h1, h2, h3⟩ := h c hc
  exact ⟨A, n, cp, h1, h2, h3.kept hg (own_ne h3 ho hne)⟩
theorem StR.low (h : StR w base e a b L D) {q : Nat} (hg : w.grownBy w' (some q)) (hq : q < base) : StR w' base e a b L D := fun c hc => by
  obtain ⟨A, n, cp, h1, h2, h3⟩ := h c hc
  refine ⟨A, n, cp, h1, h2, h3.kept hg (.inr fun e => ?_)⟩
  have := (h3.lt q e).1
  omega
theorem StR.up (h : StR w base e a b L D) {c : Fnl} (hc : c ∉ D) (v : Value) : StR w base e a b (upL L c v) D := fun d hd => by
  obtain ⟨A, n, cp, h1, h2, h3⟩ := h d hd
  refine ⟨A, n, cp, ?_, h2, h3⟩
  rw [lk_up, if_neg (fun e => hc (by rw [← e]; exact hd)), h1]
theorem StR.put (h : StR w base e a b L D) {c : Fnl} (hc : c ∉ D) {A : Option Addr} {n cp : Nat} (hn : n = (stepsOf a b c).length) (ho : w.ownsRow base e 5 (.slice A n cp) n (arcRow (stepsOf a b c))) : StR w base e a b (upL L c (.slice A n cp)) (D ++ [c]) := fun d hd => by
  rcases List.mem_append.1 hd with hd | hd
  · exact h.up hc _ d hd
  · rw [List.mem_singleton.1 hd]
    exact ⟨A, n, cp, by rw [lk_up, if_pos rfl], hn, ho⟩
end
theorem own_blk_ne' {w : World} {base sz n O : Nat} {e t : TypeId} {v : Value} {xs : List Value} {cs : Array Value} (h : w.ownsRow base e sz v n xs) (hb : Blk w O t cs) (hne : e ≠ t) : v.ownBlock ≠ some O := by
  rcases h.2 with ⟨rfl, _⟩ | ⟨g1, c1, cur1, rfl, _, hh1, _⟩
  · simp [Value.ownBlock]
  · intro ev
    have : g1 = O := by simpa [Value.ownBlock] using ev
    subst this
    unfold Blk at hb
    rw [hh1] at hb
    injection hb with hb
    injection hb with _ ht
    exact hne ht
theorem own_monoB' {w : World} {base base' sz n : Nat} {e : TypeId} {v : Value} {xs : List Value} (h : w.ownsRow base e sz v n xs) (hb : base' ≤ base) : w.ownsRow base' e sz v n xs := by
  refine ⟨h.1, ?_⟩
  rcases h.2 with hn | ⟨g, cap, cur, h1, h2, h3⟩
  · exact .inl hn
  · exact .inr ⟨g, cap, cur, h1, Nat.le_trans hb h2, h3⟩
theorem own_keepN {w w' : World} {base sz n q : Nat} {e : TypeId} {v : Value} {xs : List Value} (h : w.ownsRow base e sz v n xs) (hg : w.grownBy w' (some q)) (hq : q < base) : w'.ownsRow base e sz v n xs :=
  h.kept hg (by
    cases e : v.ownBlock with
    | none => exact .inl rfl
    | some k => exact .inr (fun e2 => by have := (h.lt k e).1; injection e2 with e2; omega))
theorem push_rel {wr w6 w8 W3 : World} {H HR X nT mS : Nat} {CT ST PT : TypeId} {v14 v' vl val : Value} {xs ys : List Value} {cs cx : Array Value} {a b : Mach} {L2 F : List (Fnl × Value)} {D : List Fnl} {s : Fnl} {o1 o2 : Obj}
    (hT : wr.ownsRow (H + 1 + 1 + 1) CT 2 v14 nT xs) (hM : MapIs w6 cplV okC H (upL L2 s val)) (h6 : (wr.alloc o1).grownBy w6 (some H)) (z6 : w6.heap.size = wr.heap.size + 1) (h8 : (w6.alloc o2).grownBy w8 v14.ownBlock) (hat : ∀ w, Blk w X CT cx → w = w8 → v'.ownBlock ≠ some X)
    (hS : StR wr (H + 1 + 1 + 1) ST a b L2 D) (hs : s ∉ D) (hl : wr.ownsRow HR ST 5 vl mS ys) (hP : Blk wr (H + 1 + 1) PT cs) (hF : MapIs wr cplV okC (H + 1) F) (hX : Blk wr X CT cx) (hne : v14.ownBlock ≠ some X) (hB : Below H W3 wr)
    (hH : H + 1 + 1 + 1 < HR) (hz : HR ≤ wr.heap.size) (hX1 : H < X) (hX2 : X < HR) (htt : ST ≠ CT) :
    MapIs w8 cplV okC H (upL L2 s val) ∧ StR w8 (H + 1 + 1 + 1) ST a b (upL L2 s val) D ∧ w8.ownsRow HR ST 5 vl mS ys ∧ Blk w8 (H + 1 + 1) PT cs ∧ MapIs w8 cplV okC (H + 1) F ∧ Blk w8 X CT cx ∧ v'.ownBlock ≠ some X ∧ Below H W3 w8 ∧ HR ≤ w8.heap.size := by
  have hq : ∀ q, v14.ownBlock = some q → H + 1 + 1 + 1 ≤ q := fun q hq => (hT.lt q hq).1
  have ne0 : ∀ q, q < H + 1 + 1 + 1 → some q ≠ v14.ownBlock := fun q hlt e => by have := hq q e.symm; omega
  have hl6 := own_keepN (hl.alloc o1) h6 (by omega)
  have hT6 := own_keepN (hT.alloc o1) h6 (by omega)
  have hs8 := h8.size
  have hz6 : (w6.alloc o2).heap.size = w6.heap.size + 1 := by simp
  have n1 : some (H + 1 + 1) ≠ some H := fun e => by have := Option.some.inj e; omega
  have n2 : some (H + 1) ≠ some H := fun e => by have := Option.some.inj e; omega
  have n3 : some X ≠ some H := fun e => by have := Option.some.inj e; omega
  have s1 : StR (wr.alloc o1) (H + 1 + 1 + 1) ST a b L2 D := hS.below (by exact (Below.refl _ _).alloc (Nat.le_refl _) _)
  have s2 := (s1.low h6 (by omega)).up hs val
  have s3 : StR (w6.alloc o2) (H + 1 + 1 + 1) ST a b (upL L2 s val) D := s2.below (by exact (Below.refl _ _).alloc (Nat.le_refl _) _)
  have b1 : Below H W3 w6 := (hB.alloc (by omega) o1).grown h6 (by simp; omega) (fun q hq => by have := Option.some.inj hq; omega)
  refine ⟨(hM.alloc o2).kept h8 (ne0 H (by omega)), s3.own (hT6.alloc o2) htt h8, (hl6.alloc o2).kept h8 (own_ne (hl6.alloc o2) (hT6.alloc o2) htt), ((hP.alloc o1).grown h6 n1 |>.alloc o2).grown h8 (ne0 _ (by omega)), (((hF.alloc o1).kept h6 n2).alloc o2).kept h8 (ne0 _ (by omega)),
    (((hX.alloc o1).grown h6 n3).alloc o2).grown h8 (fun e => hne e.symm), ?_, (b1.alloc (by omega) o2).grown h8 (by omega) (fun q hq2 => by have := hq q hq2; omega), by omega⟩
  exact hat w8 ((((hX.alloc o1).grown h6 n3).alloc o2).grown h8 (fun e => hne e.symm)) rfl
theorem own_notX {w : World} {base X n : Nat} {e : TypeId} {v' : Value} {T : List Fnl} {s c : Fnl} (h : w.ownsRow base e 2 v' (n + 1) (finRow T ++ finRow [s])) (hn : n = T.length) (hX : Blk w X e #[.int .i64 c.s, .int .i64 c.w]) (hne : s ≠ c) : v'.ownBlock ≠ some X := by
  intro ev
  rcases h.2 with ⟨rfl, h0⟩ | ⟨g1, c1, cur, rfl, _, hh1, hnc, _, hsz, htk⟩
  · simp [Value.ownBlock] at ev
  · have e1 : g1 = X := by simpa [Value.ownBlock] using ev
    subst e1
    unfold Blk at hX
    rw [hh1] at hX
    injection hX with hX
    injection hX with hc _
    subst hc
    have hs2 : 2 = c1 * 2 := by simpa using hsz
    have hn0 : n = 0 := by omega
    subst hn0
    have hT : T = [] := List.length_eq_zero_iff.1 hn.symm
    subst hT
    simp [finRow] at htk
    exact hne (Fnl.ext' htk.1.symm htk.2.symm)
theorem rd_new (w : World) (e : TypeId) (x y : Int) : Rd (w.alloc (.cells #[.int .i64 x, .int .i64 y] e)) (w.heap.size + 1) 2 (some ⟨w.heap.size, 0, none⟩) 1 (finCell [⟨x, y⟩]) := fun _ =>
  ⟨w.heap.size, 0, rfl, Nat.lt_succ_self _, fun i j hi hj => by
    obtain rfl : i = 0 := by omega
    have h := (Blk.new w e #[.int .i64 x, .int .i64 y]).cell (0 + (0 * 2 + j))
    rw [h]
    rcases (by omega : j = 0 ∨ j = 1) with rfl | rfl <;> rfl⟩
theorem own_of_two {w : World} {g : Nat} {e : TypeId} {x y : Int} (h : Blk w g e #[.int .i64 x, .int .i64 y]) : w.ownsRow g e 2 (.slice (some ⟨g, 0, none⟩) 1 1) 1 (finRow [⟨x, y⟩]) :=
  ⟨rfl, .inr ⟨g, 1, #[.int .i64 x, .int .i64 y], rfl, Nat.le_refl _, h, Nat.le_refl _, by simp [maxLen], rfl, rfl⟩⟩
/-- What explore gives: the map of steps and the map of final couples. -/
def ExpP (w' : World) (lo : Nat) (ST : TypeId) (a b : Mach) (Mb Fb : Nat) (ok : Bool) : Prop :=
  lo ≤ Mb ∧ lo ≤ Fb ∧ (ok = true → ∃ L, MapIs w' cplV okC Mb L ∧ (∀ c, (lk L c).isSome = true ↔ c ∈ reachL a b) ∧ StR w' lo ST a b L (reachL a b) ∧ MapIs w' cplV okC Fb (finsE (fun c => (lk L c).isSome) a.fins b.fins)) ∧ (ok = true ↔ total a b ≤ 200000)
end Gm
namespace Go.Proofs.Ytmgpcnkmmgkjgaa
open Go.RowKit Gm
set_option linter.unusedSimpArgs false
set_option linter.unusedVariables false
theorem arcs_info : (Try.prog.info? 22).map (fun i => (i.zero, i.size, i.bytes)) = some (some (.slice none 0 0), 1, 24) := by kernel_rfl
theorem cpl_info : (Try.prog.info? 65).map (fun i => (i.zero, i.size, i.bytes)) = some (some (.agg #[.int .i64 0, .int .i64 0]), 2, 16) := by kernel_rfl
theorem stp_info : (Try.prog.info? 68).map (fun i => (i.zero, i.size, i.bytes)) = some (some (.agg #[.int .i64 0, .int .i64 0, .int .i64 0, .int .i64 0, .int .i64 0]), 5, 40) := by kernel_rfl
theorem has_any (Mb Fb : Nat) (c : Fnl) (L : List (Fnl × Value)) (w : World) (hM : MapIs w cplV okC Mb L) (hc : okC c) :
    Calls Try.prog 59 #[.agg #[.map (some Mb), .map (some Fb)], .agg #[.int .i64 c.s, .int .i64 c.w]] w fun e w' => e = .returned (.bool (lk L c).isSome) ∧ Below w.heap.size w w' := by
  have HM := hide hM
  have HC := hide hc
  have hlt := hM.lt
  clear hM hc
  go_enter Try.func59, Try.ntmps59
  go_wp2_with (at_lookup; refine wpList_look rfl _ _ 56 true rfl kl_cpl Try.underlying56 zero_steps rfl ((HM.out.alloc _).alloc _) c rfl HC.out ?_; rw [if_pos rfl])
  go_ret
  exact ⟨rfl, by go_grown⟩
set_option maxRecDepth 100000 in
set_option maxHeartbeats 16000000 in
theorem explore_any (va vb : Value) (a b : Mach) (w : World) (B : Nat) (hB : B ≤ w.heap.size) (ha : MachAt w B va a) (hb : MachAt w B vb b) (hVa : Valid a) (hVb : Valid b) (hpa : 0 < a.n) (hpb : 0 < b.n) :
    Calls Try.prog 45 #[va, vb] w fun e w' => ∃ (Mb Fb : Nat) (ok : Bool), e = .returned (.tuple #[.agg #[.map (some Mb), .map (some Fb)], .bool ok]) ∧ Below w.heap.size w w' ∧ ExpP w' w.heap.size 68 a b Mb Fb ok := by
  obtain ⟨A, AF, n, c, nf, cf, rfl, HN, HF, hnc, hnfc, hnb, hnfb, hA, hF⟩ := ha
  obtain ⟨A', AF', n', c', nf', cf', rfl, HN', HF', hnc', hnfc', hnb', hnfb', hA', hF'⟩ := hb
  have HVA := hide hVa
  have HVB := hide hVb
  have hla := hVa.len
  have hlb := hVb.len
  have hfa := hVa.finLen
  have hfb := hVb.finLen
  rw [HN.out] at hla
  rw [HN'.out] at hlb
  rw [HF.out] at hfa
  rw [HF'.out] at hfb
  have hn4a := hVa.n4
  have hn4b := hVb.n4
  obtain ⟨na, hna⟩ : ∃ k : Nat, a.n = (k : Int) := ⟨a.n.toNat, by omega⟩
  obtain ⟨nb, hnb0⟩ : ∃ k : Nat, b.n = (k : Int) := ⟨b.n.toNat, by omega⟩
  have HNA := hide hna
  have HNB := hide hnb0
  rw [hna] at hpa hn4a ⊢
  rw [hnb0] at hpb hn4b ⊢
  clear hna hnb0 hVa hVb hnb hnfb hnb' hnfb'
  obtain ⟨ia, ha0, ha1, ha2, ha3⟩ := info_parts arc_info
  obtain ⟨ic, hi0, hi1, hi2, hi3⟩ := info_parts cpl_info
  obtain ⟨is, hs0, hs1, hs2, hs3⟩ := info_parts stp_info
  have hmkA := fun (W : World) => run_make_row' (P := Try.prog) 79 22 (.slice none 0 0) 24 Try.underlying79 arcs_info rfl .i64 .i64 na (by omega) (by omega) W
  have hmkB := fun (W : World) => run_make_row' (P := Try.prog) 79 22 (.slice none 0 0) 24 Try.underlying79 arcs_info rfl .i64 .i64 nb (by omega) (by omega) W
  have HMKA := hide hmkA
  have HMKB := hide hmkB
  clear hmkA hmkB
  have HA := hide hA
  have HA' := hide hA'
  have HRF := hide hF
  have HRF' := hide hF'
  clear hA hA' hF hF'
  go_enter Try.func45, Try.ntmps45
  go_upto_region 2 with fail
  generalize hW0 : World.alloc _ _ = W0
  obtain ⟨Z, hZ⟩ : ∃ z, z = w.heap.size + 3 := ⟨_, rfl⟩
  have bA0 : Blk W0 w.heap.size 25 #[.int .i64 na, .slice A n c, .slice AF nf cf] := by rw [← hW0]; exact ((Blk.at_ rfl).alloc _).alloc _
  have bB0 : Blk W0 (w.heap.size + 1) 25 #[.int .i64 nb, .slice A' n' c', .slice AF' nf' cf'] := by rw [← hW0]; exact (Blk.at_ (by simp)).alloc _
  have bR0 : Blk W0 (w.heap.size + 1 + 1) 59 #[.map none, .map none] := by rw [← hW0]; exact Blk.at_ (by simp)
  have hbw0 : Below w.heap.size w W0 := by rw [← hW0]; go_grown
  have hsz0 : W0.heap.size = Z := by rw [← hW0, hZ]; simp
  have HA0 := hide bA0
  have HB0 := hide bB0
  have HR0 := hide bR0
  have HBW0 := hide hbw0
  have hZl : w.heap.size + 2 < Z := by omega
  have HSZ0 := hide hsz0
  have hz0 : W0.heap.size ≤ Z := by omega
  have hz0' : Z ≤ W0.heap.size := by omega
  clear hW0 hZ bA0 bB0 bR0 hbw0 hsz0
  go_cut [7, 8] from 9 (fun s7 s8 wx => ∃ G1 G2, s7 = .slice (some ⟨G1, 0, none⟩) na na ∧ s8 = .slice (some ⟨G2, 0, none⟩) nb nb ∧ Hid (TwoG W0 wx Z G1 G2 na nb 22))
  case first =>
    have x0 : W0.cell? ⟨w.heap.size, 0, none⟩ = some (.int .i64 (na : Int)) := HA0.out.cell 0
    have y0 : W0.cell? ⟨w.heap.size + 1, 0, none⟩ = some (.int .i64 (nb : Int)) := HB0.out.cell 0
    have lA : w.heap.size < W0.heap.size := by omega
    have lB : w.heap.size + 1 < W0.heap.size := by omega
    have hmkA := HMKA.out
    have hmkB := HMKB.out
    go_region
    all_goals go_wp2_with fail
    all_goals go_meet
    all_goals first | exact ⟨_, _, rfl, rfl, hide (twoG_1 HSZ0.out)⟩ | exact ⟨_, _, rfl, rfl, hide (twoG_2 HSZ0.out)⟩
  case rest =>
  obtain ⟨G1, G2, rfl, rfl, HTG⟩ := hcut
  obtain ⟨g1, g2, g3, g4, g5, gr1, gr2, hbc, gz⟩ := HTG.out
  have HAc := hide ((HA.out.below HBW0.out hB).below (B' := Z) hbc (by omega))
  have HBc := hide ((HA'.out.below HBW0.out hB).below (B' := Z) hbc (by omega))
  have HBZ := hide hbc
  have HG1 := hide gr1
  have HG2 := hide gr2
  have x1 : wc.cell? ⟨w.heap.size, 1, none⟩ = some (.slice A n c) := (HA0.out.below hbc (by omega)).cell 1
  have lc : w.heap.size < wc.heap.size := by omega
  clear gr1 gr2 hbc HTG
  have HAcW := hide (HA.out.below HBW0.out hB)
  have HBcW := hide (HA'.out.below HBW0.out hB)
  go_wp2
  go_loopw [41] (fun iv wr => ∃ (k : Nat) (vs : Nat → Value), k ≤ n ∧ iv = .int .i64 k ∧ Hid (Below Z W0 wr) ∧ Hid (OwnLL wr (Z + 2) 22 45 5 G1 na vs (fun i => arcRow (outs (a.arcs.take k) i)) (fun i => (outs (a.arcs.take k) i).length)) ∧ Hid (wr.rowIs G2 22 nb (fun _ => .slice none 0 0)) ∧ (Z + 2) ≤ wr.heap.size) (fun iv _ => n - (intOf iv).toNat)
  case atStart => exact ⟨0, _, by omega, rfl, HBZ, hide ⟨HG1.out, by omega, fun i _ => World.ownsRow_nil _ _ _ _, fun i j _ _ _ => .inl rfl⟩, HG2, by omega⟩
  case round =>
    obtain ⟨k, vs, hk, rfl, HB1, HLL, HKP, hz⟩ := hrel
    clear x1 lc
    by_cases hkn : k < n
    · obtain ⟨blk, off, x, rfl, hbB, c0, c1, c2, c3, c4, HX⟩ := arcs_at (HAcW.out.below HB1.out (by omega)) hkn
      have hbw' : blk < wr.heap.size := by omega
      have hGl : G1 < wr.heap.size := by omega
      have hin := (HVA.out.inRange) x (getD_mem (by rw [HN.out]; exact hkn) HX.out)
      rw [HNA.out, Int.toNat_natCast] at hin
      obtain ⟨r0, r1, r2, r3⟩ := hin
      have hkey : x.f.toNat < na := by omega
      have cG := HLL.out.row.cell hkey
      have fG := HLL.out.row.frozen x.f.toNat
      obtain ⟨vk, hvk⟩ : ∃ x', x' = vs x.f.toNat := ⟨_, rfl⟩
      have HVK := hide hvk
      rw [← hvk] at cG
      have ownk := HLL.out.own _ hkey
      have hlen := outs_le (a.arcs.take k) x.f.toNat
      rw [List.length_take] at hlen
      rw [← hvk] at ownk
      clear hvk
      have hownlt := ownk.lt
      have ne1 : vk.ownBlock ≠ some wr.heap.size := fun e => by have := (hownlt _ e).2; omega
      have neG : vk.ownBlock ≠ some G1 := fun e => by have := (hownlt _ e).1; omega
      obtain ⟨olen, hol⟩ : ∃ z, z = (outs (a.arcs.take k) x.f.toNat).length := ⟨_, rfl⟩
      have HOL := hide hol
      rw [← hol] at ownk hlen
      have OWK := hide ownk
      have HOWLT := hide hownlt
      clear ownk hol hownlt
      go_wp2
      refine wp_mix (fun w' => w'.cell? ⟨wr.heap.size, 0, none⟩ = some (.int .i64 x.f) ∧ w'.cell? ⟨wr.heap.size, 1, none⟩ = some (.int .i64 x.t) ∧ w'.cell? ⟨wr.heap.size, 2, none⟩ = some (.int .i64 x.i) ∧ w'.cell? ⟨wr.heap.size, 3, none⟩ = some (.int .i64 x.o) ∧ w'.cell? ⟨wr.heap.size, 4, none⟩ = some (.int .i64 x.w) ∧ w'.cell? ⟨G1, x.f.toNat, none⟩ = some vk) 11 [(0, false), (1, false), (2, false), (3, false), (4, false), (5, false), (6, false), (7, false), (8, false), (9, true), (10, true)] (by kernel_rfl) (by kernel_rfl) ?_ ?_
      · go_simp
      simp only [List.drop_succ_cons, List.drop_zero]
      repeat (refine mix_q (v := ?_) (by rfl) (by rfl) ?_ ?_; rotate_left; (focus (intro w' hC; (try dsimp only at hC); go_simp; (first | done | with_reducible rfl))); simp only [Act.put, List.setIfInBounds_toArray, List.set_cons_zero, List.set_cons_succ, List.getElem_toArray, List.getElem_cons_zero, List.getElem_cons_succ])
      refine mix_l (by rfl) (by rfl) (fun K hK => ?_)
      go_simp
      refine hK _ _ (by go_simp) ?_
      clear hK K
      try simp only [Act.put, List.setIfInBounds_toArray, List.set_cons_zero, List.set_cons_succ, List.getElem_toArray, List.getElem_cons_zero, List.getElem_cons_succ]
      refine mix_l (by rfl) (by rfl) (fun K hK => ?_)
      refine wp_append_lies _ (.tmp 52) (.tmp 54) 22 (by rfl) (Z + 2) 45 ia _ 5 40 Try.underlying22 ha0 ha1 ha2 ha3 rfl (by omega) vk _ _ (by rfl) (((OWK.out.alloc _).alloc _).drew)
            ⟨wr.heap.size + 1, 0, none⟩ 1 1 [.int .i64 x.f, .int .i64 x.t, .int .i64 x.i, .int .i64 x.o, .int .i64 x.w] (by rfl) (by rfl) (World.news_of_block (cs := #[.int .i64 x.f, .int .i64 x.t, .int .i64 x.i, .int .i64 x.o, .int .i64 x.w]) (t := 45) (fr := (0, 0)) ((Blk.at_ (by simp)).drew)) (by simp [Value.oneCell'])
            (by omega) (by simp only [maxLen]; omega) (by omega) (by simp; omega) (wr.heap.size + 1 + 1) (by simp) ?_
      intro gg cap w4 hown1 hgrow hat hltg
      have fG1 : w4.frozen? ⟨G1, x.f.toNat, none⟩ = false := far_free hgrow neG (by simp; omega) ((((HLL.out.alloc _).alloc _).drew).row.frozen _)
      have cG1 : w4.cell? ⟨G1, x.f.toNat, none⟩ = some vk := far_cell hgrow neG (by go_simp)
      refine hK _ _ ⟨far_cell hgrow ne1 (by go_simp), far_cell hgrow ne1 (by go_simp), far_cell hgrow ne1 (by go_simp), far_cell hgrow ne1 (by go_simp), far_cell hgrow ne1 (by go_simp), cG1⟩ ?_
      clear hK K
      refine mix_nil ?_; try simp only [Act.put, List.setIfInBounds_toArray, List.set_cons_zero, List.set_cons_succ, List.getElem_toArray, List.getElem_cons_zero, List.getElem_cons_succ]
      go_wp2
      refine NoPanic.normal ?_
      go_wp2
      have hvb : vk.ownBlock = (vs x.f.toNat).ownBlock := by rw [HVK.out]
      have llp := (((HLL.out.alloc _).alloc _).drew).push hkey (hvb ▸ hgrow) hown1 (hat.elim (fun e => .inl (by rw [← hvb, e]; rfl)) (fun e => .inr ⟨gg, rfl, by rw [e]; simp⟩))
      have hk1 : x.f = ((x.f.toNat : Nat) : Int) := by omega
      have e1 := outsRow_push (l := a.arcs.take k) hk1
      have e2 := outsLen_push (l := a.arcs.take k) hk1
      rw [← HOL.out] at e2
      rw [e1, e2, ← take_push (by rw [HN.out]; exact hkn) HX.out] at llp
      clear e1 e2
      have kp := ((((HKP.out.alloc _).alloc _).drew).of_block (hgrow.block G2 (by simp; omega) (fun e => by have := HOWLT.out G2 e.symm; omega))).of_block (w' := w4.setCell ⟨G1, x.f.toNat, none⟩ (.slice (some ⟨gg, 0, none⟩) (olen + 1) cap)) (Below.heap_setCell _ _ _ G2 (by exact fun e => g5 e.symm))
      go_roundw
      case rel => exact ⟨k + 1, _, by omega, by go_num, hide ((((((HB1.out.alloc (by omega) _).alloc (by simp; omega) _).drew).grown hgrow (by simp; omega) (fun k hk => by have := (HOWLT.out _ hk).1; omega)).setCell (by show Z ≤ G1; omega) _)), hide llp, hide kp, by have := hgrow.size; simp [World.setCell] at this ⊢; omega⟩
      case measure => simp [intOf]; omega
    · have hend : a.arcs.take k = a.arcs := List.take_of_length_le (by rw [HN.out]; omega)
      have ll := HLL.out
      rw [hend] at ll
      clear hend HLL
      obtain ⟨wA, rfl⟩ : ∃ W : World, W = wr := ⟨_, rfl⟩
      obtain ⟨ZA, hZA⟩ : ∃ z, z = wA.heap.size := ⟨_, rfl⟩
      obtain ⟨vsA, hvsA⟩ : ∃ v, v = vs := ⟨_, rfl⟩
      rw [← hvsA] at ll
      have HVLT := hide (show ∀ i, i < na → ∀ q, (vsA i).ownBlock = some q → q < ZA from fun i hi q hq => by rw [hZA]; exact ((ll.own i hi).lt q hq).2)
      have HLA := hide ll
      have HG2A := HKP
      have HBZA := HB1
      have hzA : Z + 2 ≤ ZA := by omega
      have hzA2 : ZA ≤ wA.heap.size := by omega
      have y1 : wA.cell? ⟨w.heap.size + 1, 1, none⟩ = some (.slice A' n' c') := (HB0.out.below HB1.out (by omega)).cell 1
      have lcA : w.heap.size + 1 < wA.heap.size := by omega
      clear ll hvsA hZA HKP HB1 hz
      go_wp2
      go_loopw [61] (fun iv wr => ∃ (k : Nat) (vs : Nat → Value), k ≤ n' ∧ iv = .int .i64 k ∧ Hid (Below Z W0 wr) ∧ Hid (OwnLL wr ZA 22 45 5 G2 nb vs (fun i => arcRow (outs (b.arcs.take k) i)) (fun i => (outs (b.arcs.take k) i).length)) ∧ Hid (OwnLL wr (Z + 2) 22 45 5 G1 na vsA (fun i => arcRow (outs a.arcs i)) (fun i => (outs a.arcs i).length)) ∧ ZA ≤ wr.heap.size) (fun iv _ => n' - (intOf iv).toNat)
      case atStart => exact ⟨0, _, by omega, rfl, HBZA, hide ⟨HG2A.out, by omega, fun i _ => World.ownsRow_nil _ _ _ _, fun i j _ _ _ => .inl rfl⟩, HLA, by omega⟩
      case round =>
        obtain ⟨k, vs, hk, rfl, HB1, HLL, HKP, hz⟩ := hrel
        clear y1 lcA
        by_cases hkn : k < n'
        · obtain ⟨blk, off, x, rfl, hbB, c0, c1, c2, c3, c4, HX⟩ := arcs_at (HBcW.out.below HB1.out (by omega)) hkn
          have hbw' : blk < wr.heap.size := by omega
          have hGl : G2 < wr.heap.size := by omega
          have hin := (HVB.out.inRange) x (getD_mem (by rw [HN'.out]; exact hkn) HX.out)
          rw [HNB.out, Int.toNat_natCast] at hin
          obtain ⟨r0, r1, r2, r3⟩ := hin
          have hkey : x.f.toNat < nb := by omega
          have cG := HLL.out.row.cell hkey
          have fG := HLL.out.row.frozen x.f.toNat
          obtain ⟨vk, hvk⟩ : ∃ x', x' = vs x.f.toNat := ⟨_, rfl⟩
          have HVK := hide hvk
          rw [← hvk] at cG
          have ownk := HLL.out.own _ hkey
          have hlen := outs_le (b.arcs.take k) x.f.toNat
          rw [List.length_take] at hlen
          rw [← hvk] at ownk
          clear hvk
          have hownlt := ownk.lt
          have ne1 : vk.ownBlock ≠ some wr.heap.size := fun e => by have := (hownlt _ e).2; omega
          have neG : vk.ownBlock ≠ some G2 := fun e => by have := (hownlt _ e).1; omega
          obtain ⟨olen, hol⟩ : ∃ z, z = (outs (b.arcs.take k) x.f.toNat).length := ⟨_, rfl⟩
          have HOL := hide hol
          rw [← hol] at ownk hlen
          have OWK := hide ownk
          have HOWLT := hide hownlt
          clear ownk hol hownlt
          go_wp2
          refine wp_mix (fun w' => w'.cell? ⟨wr.heap.size, 0, none⟩ = some (.int .i64 x.f) ∧ w'.cell? ⟨wr.heap.size, 1, none⟩ = some (.int .i64 x.t) ∧ w'.cell? ⟨wr.heap.size, 2, none⟩ = some (.int .i64 x.i) ∧ w'.cell? ⟨wr.heap.size, 3, none⟩ = some (.int .i64 x.o) ∧ w'.cell? ⟨wr.heap.size, 4, none⟩ = some (.int .i64 x.w) ∧ w'.cell? ⟨G2, x.f.toNat, none⟩ = some vk) 11 [(0, false), (1, false), (2, false), (3, false), (4, false), (5, false), (6, false), (7, false), (8, false), (9, true), (10, true)] (by kernel_rfl) (by kernel_rfl) ?_ ?_
          · go_simp
          simp only [List.drop_succ_cons, List.drop_zero]
          repeat (refine mix_q (v := ?_) (by rfl) (by rfl) ?_ ?_; rotate_left; (focus (intro w' hC; (try dsimp only at hC); go_simp; (first | done | with_reducible rfl))); simp only [Act.put, List.setIfInBounds_toArray, List.set_cons_zero, List.set_cons_succ, List.getElem_toArray, List.getElem_cons_zero, List.getElem_cons_succ])
          refine mix_l (by rfl) (by rfl) (fun K hK => ?_)
          go_simp
          refine hK _ _ (by go_simp) ?_
          clear hK K
          try simp only [Act.put, List.setIfInBounds_toArray, List.set_cons_zero, List.set_cons_succ, List.getElem_toArray, List.getElem_cons_zero, List.getElem_cons_succ]
          refine mix_l (by rfl) (by rfl) (fun K hK => ?_)
          refine wp_append_lies _ (.tmp 72) (.tmp 74) 22 (by rfl) ZA 45 ia _ 5 40 Try.underlying22 ha0 ha1 ha2 ha3 rfl (by omega) vk _ _ (by rfl) (((OWK.out.alloc _).alloc _).drew)
                ⟨wr.heap.size + 1, 0, none⟩ 1 1 [.int .i64 x.f, .int .i64 x.t, .int .i64 x.i, .int .i64 x.o, .int .i64 x.w] (by rfl) (by rfl) (World.news_of_block (cs := #[.int .i64 x.f, .int .i64 x.t, .int .i64 x.i, .int .i64 x.o, .int .i64 x.w]) (t := 45) (fr := (0, 0)) ((Blk.at_ (by simp)).drew)) (by simp [Value.oneCell'])
                (by omega) (by simp only [maxLen]; omega) (by omega) (by simp; omega) (wr.heap.size + 1 + 1) (by simp) ?_
          intro gg cap w4 hown1 hgrow hat hltg
          have fG1 : w4.frozen? ⟨G2, x.f.toNat, none⟩ = false := far_free hgrow neG (by simp; omega) ((((HLL.out.alloc _).alloc _).drew).row.frozen _)
          have cG1 : w4.cell? ⟨G2, x.f.toNat, none⟩ = some vk := far_cell hgrow neG (by go_simp)
          refine hK _ _ ⟨far_cell hgrow ne1 (by go_simp), far_cell hgrow ne1 (by go_simp), far_cell hgrow ne1 (by go_simp), far_cell hgrow ne1 (by go_simp), far_cell hgrow ne1 (by go_simp), cG1⟩ ?_
          clear hK K
          refine mix_nil ?_; try simp only [Act.put, List.setIfInBounds_toArray, List.set_cons_zero, List.set_cons_succ, List.getElem_toArray, List.getElem_cons_zero, List.getElem_cons_succ]
          go_wp2
          refine NoPanic.normal ?_
          go_wp2
          have hvb : vk.ownBlock = (vs x.f.toNat).ownBlock := by rw [HVK.out]
          have llp := (((HLL.out.alloc _).alloc _).drew).push hkey (hvb ▸ hgrow) hown1 (hat.elim (fun e => .inl (by rw [← hvb, e]; rfl)) (fun e => .inr ⟨gg, rfl, by rw [e]; simp⟩))
          have hk1 : x.f = ((x.f.toNat : Nat) : Int) := by omega
          have e1 := outsRow_push (l := b.arcs.take k) hk1
          have e2 := outsLen_push (l := b.arcs.take k) hk1
          rw [← HOL.out] at e2
          rw [e1, e2, ← take_push (by rw [HN'.out]; exact hkn) HX.out] at llp
          clear e1 e2
          have kp := ((((HKP.out.alloc _).alloc _).drew).kept hgrow (fun e => by have := HOWLT.out G1 e; omega) (fun i hi => by
            cases hb1 : (vsA i).ownBlock with
            | none => exact .inl rfl
            | some q => exact .inr (fun e => by have := HVLT.out i hi q hb1; have := HOWLT.out q e.symm; omega))).far (p := ⟨G2, x.f.toNat, none⟩) (by exact g5) (by show G2 < Z + 2; omega) (.slice (some ⟨gg, 0, none⟩) (olen + 1) cap)
          go_roundw
          case rel => exact ⟨k + 1, _, by omega, by go_num, hide ((((((HB1.out.alloc (by omega) _).alloc (by simp; omega) _).drew).grown hgrow (by simp; omega) (fun k hk => by have := (HOWLT.out _ hk).1; omega)).setCell (by show Z ≤ G2; omega) _)), hide llp, hide kp, by have := hgrow.size; simp [World.setCell] at this ⊢; omega⟩
          case measure => simp [intOf]; omega
        · have hend : b.arcs.take k = b.arcs := List.take_of_length_le (by rw [HN'.out]; omega)
          have ll := HLL.out
          rw [hend] at ll
          clear hend HLL
          obtain ⟨W3, rfl⟩ : ∃ W : World, W = wr := ⟨_, rfl⟩
          have hrA := rowsAt_of HKP.out
          have hrB := rowsAt_of ll
          obtain ⟨H, hH⟩ : ∃ z, z = W3.heap.size := ⟨_, rfl⟩
          have HRA := hide hrA
          have HRB := hide hrB
          have HB3 := hide (show Below w.heap.size w W3 from HBW0.out.trans (HB1.out.mono (by omega)))
          have HA3 := hide (HA0.out.below HB1.out (by omega))
          have HB3' := hide (HB0.out.below HB1.out (by omega))
          have HR3 := hide (HR0.out.below HB1.out (by omega))
          have hZH : Z ≤ H := by omega
          have HZH := hide hH
          clear ll hrA hrB HKP HLA HVLT HB1 HA0 HB0 HR0 HBW0 HSZ0 HAc HBc HBZ HG1 HG2 HAcW HBcW HG2A HBZA HMKA HMKB
          have hmm := @run_makeMap Try.prog
          go_wp2_with (at_mapUpdate; refine wpList_mapup rfl _ _ _ 56 rfl kl_cpl Try.underlying56 rfl ((((MapIs.made W3 cplV okC).alloc _).alloc _).alloc _) ⟨0, 0⟩ rfl (by unfold okC; simp) (.slice none 0 0) rfl ?_; intro w5 hm5 hg5 hz5)
          clear hmm
          go_frame
          have hH' := HZH.out
          rw [← hH'] at hm5 hg5 ⊢
          have bP5 : Blk w5 (H + 1 + 1) 59 #[.map (some H), .map (some (H + 1))] := ((Blk.at_ (by simp; omega)).alloc _).grown hg5 (by simp; omega)
          have mF5 : MapIs w5 cplV okC (H + 1) [] := by
            have m0 := (((MapIs.made (W3.alloc (.map #[] 0)) cplV okC).alloc (Obj.cells #[.map (some H), .map (some (H + 1))] 59)).alloc (Obj.cells #[.int .i64 0, .int .i64 0] 65))
            have m1 := m0.kept hg5 (by simp; omega)
            simp at m1
            rw [← hH'] at m1
            exact m1
          have oT5 : w5.ownsRow (H + 1 + 1 + 1) 65 2 (.slice (some ⟨H + 1 + 1 + 1, 0, none⟩) 1 1) 1 (finRow [⟨0, 0⟩]) := own_of_two ((Blk.at_ (by simp; omega)).grown hg5 (by simp; omega))
          have hb5 : Below H W3 w5 := ((((((Below.refl H W3).alloc (by omega) _).alloc (by simp; omega) _).alloc (by simp; omega) _).alloc (by simp; omega) _).grown hg5 (by simp; omega) (fun k hk => by injection hk with hk; omega))
          have hz5' : H + 1 + 1 + 1 ≤ w5.heap.size := by rw [hz5]; simp; omega
          have HM5 := hide hm5
          have HF5 := hide mF5
          have HP5 := hide bP5
          have HT5 := hide oT5
          have HB5 := hide hb5
          have HSTART := hide (XI.start (a := a) (b := b) (by rw [HNA.out]; exact hpa) (by rw [HNB.out]; exact hpb))
          have hHle : H ≤ W3.heap.size := by omega
          have hHge : W3.heap.size ≤ H := by omega
          clear hm5 hg5 hz5 mF5 bP5 oT5 hb5 hH' HZH hH
          go_loopg [6, 14] (na * nb) (fun gk s6 s14 wr => ∃ (D T : List Fnl) (L : List (Fnl × Value)) (cnt : Nat), s6 = .int .i64 (cnt : Nat) ∧ Hid (cnt = totL a b D) ∧ cnt ≤ 200000 ∧ Hid (wr.ownsRow (H + 1 + 1 + 1) 65 2 s14 T.length (finRow T)) ∧ Hid (MapIs wr cplV okC H L) ∧
            Hid (StR wr (H + 1 + 1 + 1) 68 a b L D) ∧ Hid (XI a b D T) ∧ Hid (∀ c, (lk L c).isSome = true ↔ c ∈ D ++ T) ∧ Hid (Blk wr (H + 1 + 1) 59 #[.map (some H), .map (some (H + 1))]) ∧ Hid (MapIs wr cplV okC (H + 1) []) ∧ Hid (Below H W3 wr) ∧ H + 1 + 1 + 1 ≤ wr.heap.size ∧ Hid (D.length + gk = na * nb))
          case atStart => exact ⟨[], [⟨0, 0⟩], _, 0, rfl, hide rfl, by omega, HT5, HM5, hide (StR.nil _ _ _ _ _ _), HSTART, hide (fun c => by rw [lk_isSome, mem_keys_up]; simp), HP5, HF5, HB5, hz5', hide (by simp)⟩
          case round =>
            clear HM5 HF5 HP5 HT5 HB5 HSTART hz5'
            obtain ⟨D, T, L, cnt, rfl, HCNT, hcnt, HOT, HM, HST, HXI, HKEY, HP, HMF, HB, hz, HGK⟩ := hrel
            rcases List.eq_nil_or_concat T with hnil | ⟨T', cc, hcat⟩
            · subst hnil
              have hot0 : wr.ownsRow (H + 1 + 1 + 1) 65 2 _ 0 (finRow []) := HOT.out
              obtain ⟨AT0, cT0, rfl, _, _⟩ := own_value hot0
              clear hot0
              have HKD := hide (show ∀ c, (lk L c).isSome = true ↔ c ∈ D from fun c => by rw [HKEY.out c, List.append_nil])
              have x2 : wr.cell? ⟨w.heap.size, 2, none⟩ = some (.slice AF nf cf) := (HA3.out.below HB.out (by omega)).cell 2
              have lX : w.heap.size < wr.heap.size := by omega
              have HRFm := hide ((HRF.out.below HB3.out hB).below (B' := H) HB.out (by omega))
              have HRFm' := hide ((HRF'.out.below HB3.out hB).below (B' := H) HB.out (by omega))
              obtain ⟨R, hR⟩ : ∃ R : Fnl → Bool, R = fun c => (lk L c).isSome := ⟨_, rfl⟩
              have HRE := hide hR
              have HFS := hide (fins_sorted HVA.out)
              have HFS' := hide (fins_sorted HVB.out)
              obtain ⟨wq, rfl⟩ : ∃ W : World, W = wr := ⟨_, rfl⟩
              clear hR HOT HKEY
              go_wp2
              clear x2 lX
              go_loopw [228] (fun iv wr => ∃ i : Nat, i ≤ nf ∧ iv = .int .i64 i ∧ Hid (MapIs wr cplV okC (H + 1) (finsE R (a.fins.take i) b.fins)) ∧ Hid (MapIs wr cplV okC H L) ∧ Hid (StR wr (H + 1 + 1 + 1) 68 a b L D) ∧ Hid (Blk wr (H + 1 + 1) 59 #[.map (some H), .map (some (H + 1))]) ∧ Hid (Below (H + 1) wq wr) ∧ H + 1 + 1 + 1 ≤ wr.heap.size) (fun iv _ => nf - (intOf iv).toNat)
              case atStart => exact ⟨0, by omega, rfl, HMF, HM, HST, HP, hide (Below.refl _ _), hz⟩
              case round =>
                as_aux_lemma =>
                clear HMF HM HST HP hz
                obtain ⟨i, hi, rfl, HMF, HM, HST, HP, HBq, hz⟩ := hrel
                by_cases hin : i < nf
                --%F
                · obtain ⟨blk, off, x, rfl, hbB, d0, d1, HX⟩ := fins_at (HRFm.out.below HBq.out (by omega)) hin
                  have lb : blk < wr.heap.size := by omega
                  have hil : i < a.fins.length := by rw [HF.out]; exact hin
                  have hxo := okFin_iff (HVA.out.okF (getDF_mem hil HX.out))
                  obtain ⟨xo0, xo1, xo2, xo3⟩ := hxo
                  rw [HNA.out] at xo1
                  have y2 : wr.cell? ⟨w.heap.size + 1, 2, none⟩ = some (.slice AF' nf' cf') := ((HB3'.out.below HB.out (by omega)).below HBq.out (by omega)).cell 2
                  have lY : w.heap.size + 1 < wr.heap.size := by omega
                  go_wp2
                  clear y2 lY d0 d1
                  generalize hW6 : World.alloc _ _ = W6
                  obtain ⟨X, hX⟩ : ∃ z, z = wr.heap.size := ⟨_, rfl⟩
                  have HBX := hide (show Blk W6 X 51 #[.int .i64 x.s, .int .i64 x.w] by rw [← hW6, hX]; exact Blk.at_ rfl)
                  have HMF6 := hide (show MapIs W6 cplV okC (H + 1) (finsE R (a.fins.take i) b.fins ++ finE R x (b.fins.take 0)) by rw [← hW6, show finsE R (a.fins.take i) b.fins ++ finE R x (b.fins.take 0) = finsE R (a.fins.take i) b.fins by simp [finE]]; exact HMF.out.alloc _)
                  have HM6 := hide (show MapIs W6 cplV okC H L by rw [← hW6]; exact HM.out.alloc _)
                  have HST6 := hide (show StR W6 (H + 1 + 1 + 1) 68 a b L D by rw [← hW6]; exact HST.out.below ((Below.refl _ _).alloc (Nat.le_refl _) _))
                  have HP6 := hide (show Blk W6 (H + 1 + 1) 59 #[.map (some H), .map (some (H + 1))] by rw [← hW6]; exact HP.out.alloc _)
                  have HBq6 := hide (show Below (H + 1) wq W6 by rw [← hW6]; exact HBq.out.alloc (by omega) _)
                  have hz6 : H + 1 + 1 + 1 ≤ W6.heap.size := by rw [← hW6]; simp; omega
                  have hXz6 : X < W6.heap.size := by rw [← hW6, hX]; simp
                  simp only [← hX]
                  have hXH : H + 1 + 1 + 1 ≤ X := by omega
                  clear hW6 hX HMF HM HST HP HBq hz lb hbB
                  go_loopw [235] (fun jv wr => ∃ j : Nat, j ≤ nf' ∧ jv = .int .i64 j ∧ Hid (MapIs wr cplV okC (H + 1) (finsE R (a.fins.take i) b.fins ++ finE R x (b.fins.take j))) ∧ Hid (MapIs wr cplV okC H L) ∧ Hid (StR wr (H + 1 + 1 + 1) 68 a b L D) ∧ Hid (Blk wr (H + 1 + 1) 59 #[.map (some H), .map (some (H + 1))]) ∧ Hid (Below (H + 1) wq wr) ∧ H + 1 + 1 + 1 ≤ wr.heap.size ∧ X < wr.heap.size ∧ Hid (Blk wr X 51 #[.int .i64 x.s, .int .i64 x.w])) (fun jv _ => nf' - (intOf jv).toNat)
                  case atStart => exact ⟨0, by omega, rfl, HMF6, HM6, HST6, HP6, HBq6, hz6, hXz6, HBX⟩
                  case round =>
                    clear HMF6 HM6 HST6 HP6 HBq6 hz6 HBX hXz6
                    obtain ⟨j, hj, rfl, HMF, HM, HST, HP, HBq, hz, hXz, HBX⟩ := hrel
                    by_cases hjn : j < nf'
                    · obtain ⟨blk2, off2, y, rfl, hbB2, d0, d1, HY⟩ := fins_at (HRFm'.out.below HBq.out (by omega)) hjn
                      have lb2 : blk2 < wr.heap.size := by omega
                      have hjl : j < b.fins.length := by rw [HF'.out]; exact hjn
                      have hyo := okFin_iff (HVB.out.okF (getDF_mem hjl HY.out))
                      obtain ⟨yo0, yo1, yo2, yo3⟩ := hyo
                      rw [HNB.out] at yo1
                      have hok : okC ⟨x.s, y.s⟩ := ⟨xo0, by show x.s ≤ 1000; omega, yo0, by show y.s ≤ 1000; omega⟩
                      have HOK := hide hok
                      have x0 : wr.cell? ⟨X, 0, none⟩ = some (.int .i64 x.s) := HBX.out.cell 0
                      have p0' : wr.cell? ⟨H + 1 + 1, 0, none⟩ = some (.map (some H)) := HP.out.cell 0
                      have p1' : wr.cell? ⟨H + 1 + 1, 1, none⟩ = some (.map (some (H + 1))) := HP.out.cell 1
                      have lP := HP.out.lt
                      clear hok
                      go_upto_region 57 with fail
                      generalize hW7 : World.alloc _ _ = W7
                      obtain ⟨Y, hY⟩ : ∃ z, z = wr.heap.size := ⟨_, rfl⟩
                      have bY7 : Blk W7 Y 51 #[.int .i64 y.s, .int .i64 y.w] := by rw [← hW7, hY]; exact (Blk.at_ rfl).alloc _
                      have bC7 : Blk W7 (Y + 1) 65 #[.int .i64 x.s, .int .i64 y.s] := by rw [← hW7, hY]; exact Blk.at_ (by simp)
                      have hz7 : wr.heap.size ≤ W7.heap.size := by rw [← hW7]; simp; omega
                      have hb7 : Below wr.heap.size wr W7 := by rw [← hW7]; exact ((Below.refl _ _).alloc (Nat.le_refl _) _).alloc (by simp) _
                      simp only [← hY]
                      have hXY : X < Y := by omega
                      have hYz : wr.heap.size ≤ Y := by omega
                      have HMF7 := hide (HMF.out.below hb7 HMF.out.lt)
                      have HM7 := hide (HM.out.below hb7 HM.out.lt)
                      have HST7 := hide (HST.out.below hb7)
                      have HP7 := hide (HP.out.below hb7 HP.out.lt)
                      have HBX7 := hide (HBX.out.below hb7 HBX.out.lt)
                      have HBq7 := hide (HBq.out.trans (hb7.mono (by omega)))
                      have HY7 := hide bY7
                      have HC7 := hide bC7
                      clear hW7 hY hb7 bY7 bC7 d0 d1 x0 p0' p1' HMF HM HST HP HBX HBq lP hbB2 lb2
                      have HHAS := hide (fun W (hm : MapIs W cplV okC H L) => has_any H (H + 1) ⟨x.s, y.s⟩ L W hm HOK.out)
                      have p70 : W7.cell? ⟨H + 1 + 1, 0, none⟩ = some (.map (some H)) := HP7.out.cell 0
                      have p71 : W7.cell? ⟨H + 1 + 1, 1, none⟩ = some (.map (some (H + 1))) := HP7.out.cell 1
                      have lP7 := HP7.out.lt
                      have c70 : W7.cell? ⟨Y + 1, 0, none⟩ = some (.int .i64 x.s) := HC7.out.cell 0
                      have c71 : W7.cell? ⟨Y + 1, 1, none⟩ = some (.int .i64 y.s) := HC7.out.cell 1
                      have lC7 := HC7.out.lt
                      go_wp2_with fail
                      refine (HHAS.out _ HM7.out).mono ?_
                      clear p70 p71 lP7 c70 c71 lC7
                      rintro e w8 ⟨rfl, hb8⟩
                      have hz8 := hb8.size
                      have HMF8 := hide (HMF7.out.below hb8 HMF7.out.lt)
                      have HM8 := hide (HM7.out.below hb8 HM7.out.lt)
                      have HST8 := hide (HST7.out.below hb8)
                      have HP8 := hide (HP7.out.below hb8 HP7.out.lt)
                      have HBX8 := hide (HBX7.out.below hb8 HBX7.out.lt)
                      have HBq8 := hide (HBq7.out.trans (hb8.mono (by omega)))
                      have hYb := HY7.out.below hb8 HY7.out.lt
                      have hCb := HC7.out.below hb8 HC7.out.lt
                      clear hb8 HMF7 HM7 HST7 HP7 HBX7 HBq7 HY7 HC7 HHAS
                      obtain ⟨bb, hbb⟩ : ∃ z, z = (lk L ⟨x.s, y.s⟩).isSome := ⟨_, rfl⟩
                      have HBB := hide (show R ⟨x.s, y.s⟩ = bb by rw [HRE.out, hbb])
                      rw [← hbb]
                      clear hbb
                      cases bb with
                      | false =>
                        have HNE := hide (show finsE R (a.fins.take i) b.fins ++ finE R x (b.fins.take (j + 1)) = finsE R (a.fins.take i) b.fins ++ finE R x (b.fins.take j) by rw [finE_no hjl HY.out HBB.out])
                        clear hYb hCb
                        go_wp2
                        go_roundw
                        case rel => exact ⟨j + 1, by omega, by go_num, hide (by rw [HNE.out]; exact HMF8.out), HM8, HST8, HP8, HBq8, by omega, by omega, HBX8⟩
                        case measure => simp [intOf]; omega
                      | true =>
                        have HNE := hide (show finsE R (a.fins.take i) b.fins ++ finE R x (b.fins.take (j + 1)) = upL (finsE R (a.fins.take i) b.fins ++ finE R x (b.fins.take j)) ⟨x.s, y.s⟩ (.int .i64 (x.w + y.w)) by rw [finE_yes hjl HY.out HBB.out, upL_new (fin_fresh HFS.out HFS'.out hil HX.out hjl HY.out), List.append_assoc])
                        have p1' : w8.cell? ⟨H + 1 + 1, 1, none⟩ = some (.map (some (H + 1))) := HP8.out.cell 1
                        have lP := HP8.out.lt
                        have x1' : w8.cell? ⟨X, 1, none⟩ = some (.int .i64 x.w) := HBX8.out.cell 1
                        have lX := HBX8.out.lt
                        have y1' : w8.cell? ⟨Y, 1, none⟩ = some (.int .i64 y.w) := hYb.cell 1
                        have lYb := hYb.lt
                        have c0' : w8.cell? ⟨Y + 1, 0, none⟩ = some (.int .i64 x.s) := hCb.cell 0
                        have c1' : w8.cell? ⟨Y + 1, 1, none⟩ = some (.int .i64 y.s) := hCb.cell 1
                        have lCb := hCb.lt
                        have wsum : IntKind.i64.wrap (x.w + y.w) = x.w + y.w := IntWalk.i64_in _ (by omega)
                        clear hYb hCb
                        go_wp2_with (at_mapUpdate; go_loud (refine wpList_mapup rfl _ _ _ 57 rfl kl_cpl Try.underlying57 rfl HMF8.out ⟨x.s, y.s⟩ rfl HOK.out (.int .i64 (x.w + y.w)) rfl ?_); intro w9 hm9 hg9 hz9)
                        have HM9 := hide hm9
                        have HG9 := hide hg9
                        have lz9 : w8.heap.size ≤ w9.heap.size := by omega
                        clear hm9 hg9 hz9 wsum p1' lP x1' y1' lYb c0' c1' lCb
                        go_roundw
                        case rel => exact ⟨j + 1, by omega, by go_num, hide (by rw [HNE.out]; exact HM9.out), hide (HM8.out.kept HG9.out (by simp)), hide (HST8.out.low HG9.out (by omega)), hide (HP8.out.grown HG9.out (by simp)), hide (HBq8.out.grown HG9.out (by omega) (fun q hq => by have := Option.some.inj hq; omega)), by omega, by omega, hide (HBX8.out.grown HG9.out (fun e => by have := Option.some.inj e; omega))⟩
                        case measure => simp [intOf]; omega
                    · have HNX := hide (finsE_push (R := R) (ys := b.fins) hil HX.out (show b.fins.length ≤ j by rw [HF'.out]; omega))
                      go_wp2
                      go_roundw
                      case rel => exact ⟨i + 1, by omega, by go_num, hide (by rw [HNX.out]; exact HMF.out), HM, HST, HP, HBq, hz⟩
                      case measure => simp [intOf]; omega
                --%G
                · have hend : a.fins.take i = a.fins := List.take_of_length_le (by rw [HF.out]; omega)
                  rw [hend] at HMF
                  have HTOT := hide (XI.total (rng_valid HVA.out) (rng_valid HVB.out) HXI.out)
                  have HALL := hide (fun c => XI.all (rng_valid HVA.out) (rng_valid HVB.out) HXI.out (c := c))
                  have bR := (HR3.out.below HB.out (by omega)).below HBq.out (by omega)
                  have rc0 : wr.cell? ⟨w.heap.size + 1 + 1, 0, none⟩ = some (.map none) := bR.cell 0
                  have rc1 : wr.cell? ⟨w.heap.size + 1 + 1, 1, none⟩ = some (.map none) := bR.cell 1
                  have rf0 := bR.frozen 0
                  have rf1 := bR.frozen 1
                  have lR7 := bR.lt
                  have pc0 : wr.cell? ⟨H + 1 + 1, 0, none⟩ = some (.map (some H)) := HP.out.cell 0
                  have pc1 : wr.cell? ⟨H + 1 + 1, 1, none⟩ = some (.map (some (H + 1))) := HP.out.cell 1
                  have lP7 := HP.out.lt
                  clear bR hend
                  go_wp21
                  refine bodyPost_ret (v := .tuple #[.agg #[.map (some H), .map (some (H + 1))], .bool true]) (by simp [results, Try.results45, go_sem, pc0, pc1, rc0, rc1, rf0, rf1, lP7, lR7]) rfl ⟨H, H + 1, true, rfl, ?_, by omega, by omega, fun _ => ⟨L, ?_, ?_, ?_, ?_⟩, ?_⟩
                  · exact ((HB3.out.trans ((HB.out.trans (HBq.out.mono (by omega))).mono (by omega))).setCell (by simp <;> omega) _).setCell (by simp <;> omega) _
                  · exact (HM.out.set_ (by simp <;> omega) _).set_ (by simp <;> omega) _
                  · intro c; rw [HKD.out c, HALL.out c]
                  · exact fun c hc => by
                      obtain ⟨A1, n1, c1, e1, e2, e3⟩ := HST.out c ((HALL.out c).2 hc)
                      exact ⟨A1, n1, c1, e1, e2, own_monoB' (ownsRow_setCell_below (ownsRow_setCell_below e3 (by simp <;> omega) _) (by simp <;> omega) _) (by omega)⟩
                  · have h1 := HRE.out
                    have h2 := HMF.out
                    rw [h1] at h2
                    exact (h2.set_ (by simp <;> omega) _).set_ (by simp <;> omega) _
                  · have h1 := HTOT.out
                    have h2 := HCNT.out
                    exact ⟨fun _ => by omega, fun _ => rfl⟩
            · rw [List.concat_eq_append] at hcat
              subst hcat
              obtain ⟨cp, cq⟩ := cc
              have hown := HOT.out
              rw [finRow_append, List.length_append] at hown
              have hin := (mem_reachL.1 (HXI.out.rch ⟨cp, cq⟩ (by simp))).1
              obtain ⟨p0, p1, q0, q1⟩ := hin
              rw [HNA.out] at p1
              rw [HNB.out] at q1
              dsimp only at p0 p1 q0 q1
              obtain ⟨g, cap, rfl, hg1, hg2⟩ := hown.form (by simp)
              have hown : wr.ownsRow (H + 1 + 1 + 1) 65 2 (.slice (some ⟨g, 0, none⟩) (T'.length + 1) cap) (T'.length + 1) (finRow T' ++ [.int .i64 cp, .int .i64 cq]) := hown
              obtain ⟨A1, c1, hv1, hc1, hc2⟩ := own_value hown
              obtain ⟨rfl, rfl⟩ : A1 = some ⟨g, 0, none⟩ ∧ c1 = cap := by injection hv1 with e1 e2 e3; exact ⟨e1.symm, e3.symm⟩
              clear hv1
              have cT0 : wr.cell? ⟨g, T'.length * 2, none⟩ = some (.int .i64 cp) := by
                rw [hown.cellAt _ (by omega), List.getElem?_append_right (by rw [finRow_length]; exact Nat.le_refl _), finRow_length]; simp
              have cT1 : wr.cell? ⟨g, T'.length * 2 + 1, none⟩ = some (.int .i64 cq) := by
                rw [hown.cellAt _ (by omega), List.getElem?_append_right (by rw [finRow_length]; omega), finRow_length]; simp
              have hpop := ownsRow_pop (finRow_length T') hown
              have HPOP := hide hpop
              obtain ⟨n1, hn1⟩ : ∃ z, z = T'.length := ⟨_, rfl⟩
              rw [show ([⟨cp, cq⟩] : List Fnl).length = 1 from rfl]
              rw [← hn1] at hc1 cT0 cT1 HPOP ⊢
              have hn1b : n1 ≤ 160000 := by
                have h1 := HXI.out.len
                rw [HNA.out, HNB.out, Int.toNat_natCast, Int.toNat_natCast, List.length_append] at h1
                have h2 : na * nb ≤ 400 * 400 := Nat.mul_le_mul (by omega) (by omega)
                simp at h1
                omega
              have HN1 := hide hn1
              obtain ⟨OA, hOA⟩ : ∃ z, z = outs a.arcs cp.toNat := ⟨_, rfl⟩
              obtain ⟨OB, hOB⟩ : ∃ z, z = outs b.arcs cq.toNat := ⟨_, rfl⟩
              obtain ⟨AL, mL, cL, kL, hmL, hcL, hrL⟩ := HRA.out cp.toNat (by omega)
              obtain ⟨AR, mR, cR, kR, hmR, hcR, hrR⟩ := HRB.out cq.toNat (by omega)
              have kL' := keep_cell HB.out kL (by omega)
              have kR' := keep_cell HB.out kR (by omega)
              have lG1 : G1 < wr.heap.size := by omega
              have lG2 : G2 < wr.heap.size := by omega
              have hmLb := outs_le a.arcs cp.toNat
              have hmRb := outs_le b.arcs cq.toNat
              rw [HN.out, ← hmL] at hmLb
              rw [HN'.out, ← hmR] at hmRb
              rw [← hOA] at hmL hrL
              rw [← hOB] at hmR hrR
              have hmL4 : mL ≤ 2000 := by omega
              have hmR4 : mR ≤ 2000 := by omega
              have HOA := hide hOA
              have HOB := hide hOB
              have HML := hide hmL
              have HMR := hide hmR
              obtain ⟨wm, rfl⟩ : ∃ W : World, W = wr := ⟨_, rfl⟩
              have HRL := hide (hrL.below HB.out (by omega))
              have HRR := hide (hrR.below HB.out (by omega))
              have hHm : W3.heap.size ≤ wm.heap.size := by omega
              clear hown hpop hn1 kL kR hmL hmR hrL hrR HOT hOA hOB hmLb hmRb
              go_wp2
              clear cT0 cT1
              generalize hW4 : World.alloc _ _ = W4
              have bX : Blk W4 wm.heap.size 65 #[.int .i64 cp, .int .i64 cq] := by rw [← hW4]; exact Blk.at_ rfl
              have hz4 : W4.heap.size = wm.heap.size + 1 := by rw [← hW4]; simp
              have HB4 := hide (show Below wm.heap.size wm W4 by rw [← hW4]; go_grown)
              obtain ⟨HR, hHR⟩ : ∃ z, z = W4.heap.size := ⟨_, rfl⟩
              have hXR : wm.heap.size < HR := by omega
              have hRz : HR ≤ W4.heap.size := by omega
              have hRz' : W4.heap.size ≤ HR := by omega
              have HBX := hide bX
              have kR4 := keep_cell HB4.out kR' (by omega)
              have HKR := hide kR4
              replace HRL := hide (HRL.out.below HB4.out hHm)
              replace HRR := hide (HRR.out.below HB4.out hHm)
              clear hW4 hz4 hHR bX kL' kR' kR4
              go_loopw [16, 106] (fun v16 iv wr => ∃ k : Nat, k ≤ mL ∧ iv = .int .i64 k ∧ Hid (wr.ownsRow HR 68 5 v16 (pX ⟨cp, cq⟩ OA OB k).length (arcRow (pX ⟨cp, cq⟩ OA OB k))) ∧ Hid (Below HR W4 wr) ∧ HR ≤ wr.heap.size) (fun _ iv _ => mL - (intOf iv).toNat)
              case atStart => exact ⟨0, by omega, rfl, hide (World.ownsRow_nil _ _ _ _), hide (Below.refl _ _), hRz⟩
              case round =>
                obtain ⟨k, hk, rfl, HOW, HBR, hzr⟩ := hrel
                by_cases hkn : k < mL
                · obtain ⟨blk, off, x, rfl, hbB, c0, c1', c2, c3, c4, HX⟩ := arcs_at (HRL.out.below HBR.out (by omega)) hkn
                  have hbw' : blk < wr.heap.size := by omega
                  have kx0 : wr.cell? ⟨wm.heap.size, 0, none⟩ = some (.int .i64 cp) := (HBX.out.below HBR.out hXR).cell 0
                  have kx1 : wr.cell? ⟨wm.heap.size, 1, none⟩ = some (.int .i64 cq) := (HBX.out.below HBR.out hXR).cell 1
                  have lX : wm.heap.size < wr.heap.size := by omega
                  obtain ⟨ln, hln⟩ : ∃ z, z = (pX ⟨cp, cq⟩ OA OB k).length := ⟨_, rfl⟩
                  have hlnb : ln ≤ 4002000 := by rw [hln]; exact pX_len (by rw [← HML.out]; exact hmL4) (by rw [← HMR.out]; exact hmR4)
                  rw [← hln] at HOW
                  have HLN := hide hln
                  have hkl : k < OA.length := by rw [← HML.out]; exact hkn
                  clear hln
                  by_cases ho : x.o = 0
                  · have txo : (x.o == 0) = true := by simp [ho]
                    have HXO := hide ho
                    have HNX := hide (pX_eps (c := ⟨cp, cq⟩) (OB := OB) hkl HX.out ho)
                    clear ho
                    go_wp2_with (at_builtin; refine wpList_append_own _ rfl (.tmp 113) (.tmp 124) 66 rfl HR 68 is _ 5 40 Try.underlying66 hs0 hs1 hs2 hs3 rfl (by omega) u16 ln _ rfl ((HOW.out.alloc _).alloc _) ⟨wr.heap.size + 1, 0, none⟩ 1 1 (arcRow [⟨x.t, cq, x.i, 0, x.w⟩]) rfl (by rfl) (World.news_of_block (cs := (arcRow [⟨x.t, cq, x.i, 0, x.w⟩]).toArray) (t := 68) (fr := (0, 0)) (Blk.at_ (by simp))) (arcRow_one _) (by simp only [maxLen]; omega) (by omega) (by simp; omega) ?_; intro v' w6 hown2 hg2 _)
                    go_roundw
                    case rel => exact ⟨k + 1, by omega, by go_num, hide (own_step hown2 HLN.out HNX.out), hide ((((HBR.out.alloc hzr _).alloc (by simp; omega) _).grown hg2 (by simp; omega) (fun q hq => (HOW.out.lt q hq).1))), by have := hg2.size; simp at this; omega⟩
                    case measure => simp [intOf]; omega
                  · have txo : (x.o == 0) = false := by simp [ho]
                    have HXO := hide ho
                    have kg2 := keep_cell HBR.out HKR.out (by omega)
                    have lG2' : G2 < wr.heap.size := by omega
                    clear ho
                    go_wp2
                    clear c0 c1' c2 c3 c4 kx0 kx1 kg2 txo
                    generalize hW6 : World.alloc _ _ = W6
                    have bXB : Blk W6 wr.heap.size 45 #[.int .i64 x.f, .int .i64 x.t, .int .i64 x.i, .int .i64 x.o, .int .i64 x.w] := by rw [← hW6]; exact Blk.at_ rfl
                    have HXB := hide bXB
                    obtain ⟨XB, hXB⟩ : ∃ z, z = wr.heap.size := ⟨_, rfl⟩
                    have hz6 : HR ≤ W6.heap.size := by rw [← hW6]; simp; omega
                    have HB6 := hide (show Below HR W4 W6 by rw [← hW6]; exact HBR.out.alloc hzr _)
                    have HOW6 := hide (show W6.ownsRow HR 68 5 u16 ln (arcRow (pX ⟨cp, cq⟩ OA OB k)) by rw [← hW6]; exact HOW.out.alloc _)
                    rw [← hXB] at HXB ⊢
                    have hXBR : HR ≤ XB := by omega
                    clear hW6 bXB hXB lG2' lX HBR HOW hbw' hzr
                    go_loopw [16, 132] (fun v16 iv wr => ∃ j : Nat, j ≤ mR ∧ iv = .int .i64 j ∧ Hid (wr.ownsRow HR 68 5 v16 (pX ⟨cp, cq⟩ OA OB k ++ pM OB x j).length (arcRow (pX ⟨cp, cq⟩ OA OB k ++ pM OB x j))) ∧ Hid (Below HR W4 wr) ∧ HR ≤ wr.heap.size ∧ Hid (Blk wr XB 45 #[.int .i64 x.f, .int .i64 x.t, .int .i64 x.i, .int .i64 x.o, .int .i64 x.w])) (fun _ iv _ => mR - (intOf iv).toNat)
                    case atStart => exact ⟨0, by omega, rfl, hide (by rw [show pX ⟨cp, cq⟩ OA OB k ++ pM OB x 0 = pX ⟨cp, cq⟩ OA OB k by simp [pM], ← HLN.out]; exact HOW6.out), HB6, hz6, HXB⟩
                    case round =>
                      obtain ⟨j, hj, rfl, HOWj, HBj, hzj, HXj⟩ := hrel
                      clear HB6 hz6 HXB HOW6
                      by_cases hjn : j < mR
                      · obtain ⟨blk2, off2, y, rfl, hbB2, d0, d1, d2, d3, d4, HY⟩ := arcs_at (HRR.out.below HBj.out (by omega)) hjn
                        have lb2 : blk2 < wr.heap.size := by omega
                        have kx1 : wr.cell? ⟨XB, 1, none⟩ = some (.int .i64 x.t) := HXj.out.cell 1
                        have kx2 : wr.cell? ⟨XB, 2, none⟩ = some (.int .i64 x.i) := HXj.out.cell 2
                        have kx3 : wr.cell? ⟨XB, 3, none⟩ = some (.int .i64 x.o) := HXj.out.cell 3
                        have kx4 : wr.cell? ⟨XB, 4, none⟩ = some (.int .i64 x.w) := HXj.out.cell 4
                        have lXB := HXj.out.lt
                        obtain ⟨lj, hlj⟩ : ∃ z, z = (pX ⟨cp, cq⟩ OA OB k ++ pM OB x j).length := ⟨_, rfl⟩
                        have hljb : lj ≤ 4004000 := by
                          rw [hlj, List.length_append]
                          have := pM_len OB x j
                          have := HLN.out
                          have := HMR.out
                          omega
                        rw [← hlj] at HOWj
                        have HLJ := hide hlj
                        have hjl : j < OB.length := by rw [← HMR.out]; exact hjn
                        have wx := (okArc_iff (HVA.out.okA (show x ∈ a.arcs from (mem_outs.1 (by rw [← HOA.out]; exact getD_mem hkl HX.out)).1))).2.2.2.2.2.2.2.2
                        have wy := (okArc_iff (HVB.out.okA (show y ∈ b.arcs from (mem_outs.1 (by rw [← HOB.out]; exact getD_mem hjl HY.out)).1))).2.2.2.2.2.2.2.2
                        obtain ⟨wx0, wx1⟩ := wx
                        obtain ⟨wy0, wy1⟩ := wy
                        clear hlj
                        by_cases hi : y.i = x.o
                        · have tyi : (y.i == x.o) = true := by simp [hi]
                          have HNY := hide (show pX ⟨cp, cq⟩ OA OB k ++ pM OB x (j + 1) = (pX ⟨cp, cq⟩ OA OB k ++ pM OB x j) ++ [⟨x.t, y.t, x.i, y.o, x.w + y.w⟩] by rw [pM_yes hjl HY.out hi, List.append_assoc])
                          have HI := hide hi
                          clear hi
                          go_wp2_with (at_builtin; refine wpList_append_own _ rfl (.tmp 141) (.tmp 157) 66 rfl HR 68 is _ 5 40 Try.underlying66 hs0 hs1 hs2 hs3 rfl (by omega) u16 lj _ rfl ((HOWj.out.alloc _).alloc _) ⟨wr.heap.size + 1, 0, none⟩ 1 1 (arcRow [⟨x.t, y.t, x.i, y.o, x.w + y.w⟩]) rfl (by rfl) (World.news_of_block (cs := (arcRow [⟨x.t, y.t, x.i, y.o, x.w + y.w⟩]).toArray) (t := 68) (fr := (0, 0)) (Blk.at_ (by simp))) (arcRow_one _) (by simp only [maxLen]; omega) (by omega) (by simp; omega) ?_; intro v' w6 hown2 hg2 _)
                          go_roundw
                          case rel => exact ⟨j + 1, by omega, by go_num, hide (own_step hown2 HLJ.out HNY.out), hide (((HBj.out.alloc hzj _).alloc (by simp; omega) _).grown hg2 (by simp; omega) (fun q hq => (HOWj.out.lt q hq).1)), by have := hg2.size; simp at this; omega, hide (((HXj.out.alloc _).alloc _).grown hg2 (fun e => own_blk_ne' HOWj.out HXj.out (by decide) e.symm))⟩
                          case measure => simp [intOf]; omega
                        · have tyi : (y.i == x.o) = false := by simp [hi]
                          have HNY := hide (show pM OB x (j + 1) = pM OB x j from pM_no hjl HY.out hi)
                          have HI := hide hi
                          clear hi
                          go_wp2
                          go_roundw
                          case rel => exact ⟨j + 1, by omega, by go_num, hide (by rw [HNY.out, ← HLJ.out]; exact HOWj.out.alloc _), hide (HBj.out.alloc hzj _), by simp; omega, hide (HXj.out.alloc _)⟩
                          case measure => simp [intOf]; omega
                      · have HNX := hide (pX_mid (c := ⟨cp, cq⟩) hkl HX.out HXO.out (show OB.length ≤ j by rw [← HMR.out]; omega))
                        go_wp2
                        go_roundw
                        case rel => exact ⟨k + 1, by omega, by go_num, hide (by rw [HNX.out]; exact HOWj.out), HBj, hzj⟩
                        case measure => simp [intOf]; omega
                · have hOk : OA.length ≤ k := by rw [← HML.out]; omega
                  have HOk := hide hOk
                  obtain ⟨ln, hln⟩ : ∃ z, z = (pX ⟨cp, cq⟩ OA OB k).length := ⟨_, rfl⟩
                  have hlnb : ln ≤ 4002000 := by rw [hln]; exact pX_len (by rw [← HML.out]; exact hmL4) (by rw [← HMR.out]; exact hmR4)
                  rw [← hln] at HOW
                  have HLN := hide hln
                  have kx1 : wr.cell? ⟨wm.heap.size, 1, none⟩ = some (.int .i64 cq) := (HBX.out.below HBR.out hXR).cell 1
                  have lX : wm.heap.size < wr.heap.size := by omega
                  have kg2 := keep_cell HBR.out HKR.out (by omega)
                  have lG2' : G2 < wr.heap.size := by omega
                  obtain ⟨wq, rfl⟩ : ∃ W : World, W = wr := ⟨_, rfl⟩
                  clear hln hOk
                  go_wp2
                  clear kx1 lX kg2 lG2'
                  go_loopw [16, 167] (fun v16 iv wr => ∃ j : Nat, j ≤ mR ∧ iv = .int .i64 j ∧ Hid (wr.ownsRow HR 68 5 v16 (pX ⟨cp, cq⟩ OA OB k ++ pY ⟨cp, cq⟩ OB j).length (arcRow (pX ⟨cp, cq⟩ OA OB k ++ pY ⟨cp, cq⟩ OB j))) ∧ Hid (Below HR W4 wr) ∧ HR ≤ wr.heap.size) (fun _ iv _ => mR - (intOf iv).toNat)
                  case atStart => exact ⟨0, by omega, rfl, hide (by rw [show pX ⟨cp, cq⟩ OA OB k ++ pY ⟨cp, cq⟩ OB 0 = pX ⟨cp, cq⟩ OA OB k by simp [pY], ← HLN.out]; exact HOW.out), HBR, hzr⟩
                  case round =>
                    obtain ⟨j, hj, rfl, HOWj, HBj, hzj⟩ := hrel
                    clear HBR hzr HOW
                    by_cases hjn : j < mR
                    · obtain ⟨blk2, off2, y, rfl, hbB2, d0, d1, d2, d3, d4, HY⟩ := arcs_at (HRR.out.below HBj.out (by omega)) hjn
                      have lb2 : blk2 < wr.heap.size := by omega
                      have kx0 : wr.cell? ⟨wm.heap.size, 0, none⟩ = some (.int .i64 cp) := (HBX.out.below HBj.out hXR).cell 0
                      have lX : wm.heap.size < wr.heap.size := by omega
                      obtain ⟨lj, hlj⟩ : ∃ z, z = (pX ⟨cp, cq⟩ OA OB k ++ pY ⟨cp, cq⟩ OB j).length := ⟨_, rfl⟩
                      have hljb : lj ≤ 4004000 := by
                        rw [hlj, List.length_append]
                        have := pY_len ⟨cp, cq⟩ OB j
                        have := HLN.out
                        have := HMR.out
                        omega
                      rw [← hlj] at HOWj
                      have HLJ := hide hlj
                      have hjl : j < OB.length := by rw [← HMR.out]; exact hjn
                      clear hlj
                      by_cases hi : y.i = 0
                      · have tyi : (y.i == 0) = true := by simp [hi]
                        have HNY := hide (show pX ⟨cp, cq⟩ OA OB k ++ pY ⟨cp, cq⟩ OB (j + 1) = (pX ⟨cp, cq⟩ OA OB k ++ pY ⟨cp, cq⟩ OB j) ++ [⟨cp, y.t, 0, y.o, y.w⟩] by rw [pY_yes hjl HY.out hi, List.append_assoc])
                        have HI := hide hi
                        clear hi
                        go_wp2_with (at_builtin; refine wpList_append_own _ rfl (.tmp 174) (.tmp 185) 66 rfl HR 68 is _ 5 40 Try.underlying66 hs0 hs1 hs2 hs3 rfl (by omega) u16 lj _ rfl ((HOWj.out.alloc _).alloc _) ⟨wr.heap.size + 1, 0, none⟩ 1 1 (arcRow [⟨cp, y.t, 0, y.o, y.w⟩]) rfl (by rfl) (World.news_of_block (cs := (arcRow [⟨cp, y.t, 0, y.o, y.w⟩]).toArray) (t := 68) (fr := (0, 0)) (Blk.at_ (by simp))) (arcRow_one _) (by simp only [maxLen]; omega) (by omega) (by simp; omega) ?_; intro v' w6 hown2 hg2 _)
                        go_roundw
                        case rel => exact ⟨j + 1, by omega, by go_num, hide (own_step hown2 HLJ.out HNY.out), hide (((HBj.out.alloc hzj _).alloc (by simp; omega) _).grown hg2 (by simp; omega) (fun q hq => (HOWj.out.lt q hq).1)), by have := hg2.size; simp at this; omega⟩
                        case measure => simp [intOf]; omega
                      · have tyi : (y.i == 0) = false := by simp [hi]
                        have HNY := hide (show pY ⟨cp, cq⟩ OB (j + 1) = pY ⟨cp, cq⟩ OB j from pY_no hjl HY.out hi)
                        have HI := hide hi
                        clear hi
                        go_wp2
                        go_roundw
                        case rel => exact ⟨j + 1, by omega, by go_num, hide (by rw [HNY.out, ← HLJ.out]; exact HOWj.out.alloc _), hide (HBj.out.alloc hzj _), by simp; omega⟩
                        case measure => simp [intOf]; omega
                    · have hLS : stepsOf a b ⟨cp, cq⟩ = pX ⟨cp, cq⟩ OA OB k ++ pY ⟨cp, cq⟩ OB j := by
                        have h1 := HOk.out
                        have h2 : OB.length ≤ j := by rw [← HMR.out]; omega
                        rw [HOA.out] at h1
                        rw [HOB.out] at h2
                        have := steps_parts (a := a) (b := b) (c := ⟨cp, cq⟩) h1 h2
                        rw [← HOA.out, ← HOB.out] at this
                        exact this
                      rw [← hLS] at HOWj
                      obtain ⟨Al, cl, rfl, hlc, _⟩ := own_value HOWj.out
                      obtain ⟨mS, hmS⟩ : ∃ z, z = (stepsOf a b ⟨cp, cq⟩).length := ⟨_, rfl⟩
                      have hmSb : mS ≤ 4004000 := by
                        rw [hmS, hLS, List.length_append]
                        have := pY_len ⟨cp, cq⟩ OB j
                        have := HLN.out
                        have := HMR.out
                        omega
                      rw [← hmS] at HOWj hlc ⊢
                      have HMS := hide hmS
                      have hXJ := HXI.out.pop
                      have HXJ := hide hXJ
                      have hBm : Below wm.heap.size wm wr := HB4.out.trans (HBj.out.mono (by omega))
                      have HPOP' := hide (own_below' HPOP.out hBm)
                      have HM' := hide (HM.out.below hBm HM.out.lt)
                      have HST' := hide (HST.out.below hBm)
                      have HP' := hide (HP.out.below hBm HP.out.lt)
                      have HMF' := hide (HMF.out.below hBm HMF.out.lt)
                      have HBX' := hide (HBX.out.below HBj.out hXR)
                      have HBt := hide (HB.out.trans (hBm.mono (by omega)))
                      have hgX : g < wm.heap.size := by omega
                      have hzt : HR ≤ wr.heap.size := by omega
                      have hHR : H + 1 + 1 + 1 < HR := by omega
                      obtain ⟨wp, rfl⟩ : ∃ W : World, W = wr := ⟨_, rfl⟩
                      clear hLS hmS hXJ hBm HXI HPOP HM HST HP HMF HBX HB HBj HB4 HRL HRR HKR HOA HOB HML HMR HLN HOk
                      go_wp2
                      have keyst := fun (L2 : List (Fnl × Value)) (K : List Fnl) (h : ∀ d, (lk L2 d).isSome = true ↔ d ∈ K) (d : Fnl) => h d
                      clear keyst
                      go_loopw [14, 190] (fun v14 iv wr => ∃ (j nT : Nat) (T2 : List Fnl) (L2 : List (Fnl × Value)), j ≤ mS ∧ iv = .int .i64 j ∧ Hid (nT = T2.length) ∧ nT ≤ 160000 ∧ Hid (wr.ownsRow (H + 1 + 1 + 1) 65 2 v14 nT (finRow T2)) ∧ Hid (MapIs wr cplV okC H L2) ∧ Hid (StR wr (H + 1 + 1 + 1) 68 a b L2 D) ∧
                        Hid (wr.ownsRow HR 68 5 (.slice Al mS cl) mS (arcRow (stepsOf a b ⟨cp, cq⟩))) ∧ Hid (XJ a b D ⟨cp, cq⟩ T2 j) ∧ Hid (∀ d, (lk L2 d).isSome = true ↔ d ∈ D ++ ⟨cp, cq⟩ :: T2) ∧ Hid (Blk wr (H + 1 + 1) 59 #[.map (some H), .map (some (H + 1))]) ∧ Hid (MapIs wr cplV okC (H + 1) []) ∧
                        Hid (Blk wr wm.heap.size 65 #[.int .i64 cp, .int .i64 cq]) ∧ v14.ownBlock ≠ some wm.heap.size ∧ Hid (Below H W3 wr) ∧ HR ≤ wr.heap.size) (fun _ iv _ => mS - (intOf iv).toNat)
                      case atStart => exact ⟨0, n1, T', L, by omega, rfl, HN1, hn1b, HPOP', HM', HST', HOWj, HXJ, hide (fun d => by rw [HKEY.out d]; simp only [List.mem_append, List.mem_cons, List.mem_singleton, List.not_mem_nil, or_false]; constructor <;> (rintro (h | h | h) <;> first | exact .inl h | exact .inr (.inr h) | exact .inr (.inl h))), HP', HMF', HBX', by simp [Value.ownBlock]; omega, HBt, hzt⟩
                      case round =>
                        as_aux_lemma =>
                        obtain ⟨j, nT, T2, L2, hj, rfl, HNT, hnT, HOT, HM2, HST2, HOL, HXJ2, HKEY2, HP2, HMF2, HBX2, hneX, HB2, hz2⟩ := hrel
                        clear HPOP' HM' HST' HOWj HXJ HKEY HP' HMF' HBX' HBt hzt HN1 hn1b hgX
                        by_cases hjn : j < mS
                        · obtain ⟨blk3, off3, st, rfl, hbB3, c0, c1', c2, c3, c4, HS⟩ := arcs_at (Rd.of_own HOL.out (f := arcCell (stepsOf a b ⟨cp, cq⟩)) (by rw [HMS.out]; exact arcRow_at _)) hjn
                          have hjl : j < (stepsOf a b ⟨cp, cq⟩).length := by rw [← HMS.out]; exact hjn
                          have hmem : st ∈ stepsOf a b ⟨cp, cq⟩ := getD_mem hjl HS.out
                          have hinC := (mem_reachL.1 (HXJ2.out.rch ⟨cp, cq⟩ (by simp))).1
                          obtain ⟨s0, s1, s2, s3⟩ := step_in (rng_valid HVA.out) (rng_valid HVB.out) hinC hmem
                          rw [HNA.out] at s1
                          rw [HNB.out] at s3
                          have hok : okC (toC st) := by unfold okC; unfold toC at *; dsimp only at *; omega
                          have HOK := hide hok
                          have kP0 : wr.cell? ⟨H + 1 + 1, 0, none⟩ = some (.map (some H)) := HP2.out.cell 0
                          have lP := HP2.out.lt
                          have lH : H < wr.heap.size := by omega
                          clear hinC hmem hok s0 s1 s2 s3
                          by_cases hin : toC st ∈ D ++ ⟨cp, cq⟩ :: T2
                          · obtain ⟨vv, hvv⟩ := Option.isSome_iff_exists.1 ((HKEY2.out (toC st)).2 hin)
                            have HVV := hide hvv
                            have HXK := hide (HXJ2.out.skip hjl HS.out hin)
                            clear hvv hin
                            go_wp2_with (at_lookup; refine wpList_look_yes rfl _ _ 56 rfl kl_cpl Try.underlying56 zero_steps rfl (HM2.out.alloc _) (toC st) rfl HOK.out vv HVV.out ?_)
                            go_roundw
                            case rel => exact ⟨j + 1, nT, T2, L2, by omega, by go_num, HNT, hnT, hide (HOT.out.alloc _), hide (HM2.out.alloc _), hide (HST2.out.below (by go_grown)), hide (HOL.out.alloc _), HXK, HKEY2, hide (HP2.out.alloc _), hide (HMF2.out.alloc _), hide (HBX2.out.alloc _), hneX, hide (HB2.out.alloc (by omega) _), by simp; omega⟩
                            case measure => simp [intOf]; omega
                          · have hno : lk L2 (toC st) = none := by
                              cases e : lk L2 (toC st) with
                              | none => rfl
                              | some v => exact absurd ((HKEY2.out (toC st)).1 (by rw [e]; rfl)) hin
                            have HNO := hide hno
                            have HXK := hide (HXJ2.out.push (rng_valid HVA.out) (rng_valid HVB.out) hjl HS.out hin)
                            have hnT2 : nT + 1 ≤ 160000 := by
                              have h1 := len_sub HXK.out.nd (fun x hx => mem_allC.2 (mem_reachL.1 (HXK.out.rch x hx)).1)
                              rw [allC_len, HNA.out, HNB.out, Int.toNat_natCast, Int.toNat_natCast, List.length_append] at h1
                              have h2 : na * nb ≤ 400 * 400 := Nat.mul_le_mul (by omega) (by omega)
                              have h3 := HNT.out
                              simp at h1
                              omega
                            have HKN := hide (show ∀ d, (lk (upL L2 (toC st) (.slice none 0 0)) d).isSome = true ↔ d ∈ D ++ ⟨cp, cq⟩ :: (T2 ++ [toC st]) from fun d => by
                              rw [lk_isSome, mem_keys_up, ← lk_isSome, HKEY2.out d]
                              simp only [List.mem_append, List.mem_cons, List.mem_singleton, List.not_mem_nil, or_false]
                              constructor
                              · rintro (h | h | h | h)
                                · exact .inr (.inr (.inr h))
                                · exact .inl h
                                · exact .inr (.inl h)
                                · exact .inr (.inr (.inl h))
                              · rintro (h | h | h | h)
                                · exact .inr (.inl h)
                                · exact .inr (.inr (.inl h))
                                · exact .inr (.inr (.inr h))
                                · exact .inl h)
                            have HND := hide (show toC st ∉ D from fun h => hin (by simp [h]))
                            have HNC := hide (show toC st ≠ ⟨cp, cq⟩ from fun h => hin (by simp [h]))
                            clear hno hin
                            go_wp2_with (first | (at_lookup; refine wpList_look_no rfl _ _ 56 rfl kl_cpl Try.underlying56 zero_steps rfl (HM2.out.alloc _) (toC st) rfl HOK.out HNO.out ?_) | (at_mapUpdate; go_loud (refine wpList_mapup rfl _ _ _ 56 rfl kl_cpl Try.underlying56 rfl (HM2.out.alloc _) (toC st) rfl HOK.out (.slice none 0 0) rfl ?_; intro w6 hm6 hg6 hz6; simp at hz6; have bS6 : Blk w6 wr.heap.size 68 #[.int .i64 st.f, .int .i64 st.t, .int .i64 st.i, .int .i64 st.o, .int .i64 st.w] := Blk.grown (Blk.at_ rfl) hg6 (fun e => Nat.ne_of_gt lH (Option.some.inj e)); have ks0 : w6.cell? ⟨wr.heap.size, 0, none⟩ = some (.int .i64 st.f) := bS6.cell 0; have ks1 : w6.cell? ⟨wr.heap.size, 1, none⟩ = some (.int .i64 st.t) := bS6.cell 1; have lw6 : wr.heap.size < w6.heap.size := (by omega); have HM6 := hide hm6; have HG6 := hide hg6; have HZ6 := hide hz6; clear hm6 hg6 hz6 bS6)) | (at_builtin; go_loud (refine wpList_append_own _ rfl (.tmp 208) (.tmp 211) 62 rfl (H + 1 + 1 + 1) 65 ic _ 2 16 Try.underlying62 hi0 hi1 hi2 hi3 rfl (by omega) u14 nT _ rfl ((own_keepN (HOT.out.alloc _) HG6.out (by omega)).alloc _) ⟨w6.heap.size, 0, none⟩ 1 1 (finRow [toC st]) rfl (by rfl) (World.news_of_block (cs := (finRow [toC st]).toArray) (t := 65) (fr := (0, 0)) (Blk.at_ rfl)) (finRow_one _) (by simp only [maxLen] <;> omega) (by omega) (by simp <;> omega) ?_); intro v' w8 hown8 hg8 hat8))
                            have HN8 := hide hown8
                            have HG8 := hide hg8
                            clear hown8 hg8 hat8
                            go_roundw
                            case rel =>
                              obtain ⟨q1, q2, q3, q4, q5, q6, q7, q8, q9⟩ := push_rel HOT.out HM6.out HG6.out HZ6.out HG8.out (fun W hX hW => by subst hW; exact own_notX HN8.out HNT.out hX HNC.out) HST2.out HND.out HOL.out HP2.out HMF2.out HBX2.out hneX HB2.out hHR hz2 (by omega) hXR (by decide)
                              refine ⟨j + 1, nT + 1, T2 ++ [toC st], upL L2 (toC st) (.slice none 0 0), by omega, by go_num, ?_, hnT2, ?_, hide q1, hide q2, hide q3, HXK, HKN, hide q4, hide q5, hide q6, q7, hide q8, q9⟩
                              · exact hide (by rw [List.length_append, ← HNT.out]; rfl)
                              · exact hide (by rw [finRow_append]; exact HN8.out)
                            case measure => simp [intOf]; omega
                        · have kP0 : wr.cell? ⟨H + 1 + 1, 0, none⟩ = some (.map (some H)) := HP2.out.cell 0
                          have kP1 : wr.cell? ⟨H + 1 + 1, 1, none⟩ = some (.map (some (H + 1))) := HP2.out.cell 1
                          have lP := HP2.out.lt
                          have kx0 : wr.cell? ⟨wm.heap.size, 0, none⟩ = some (.int .i64 cp) := HBX2.out.cell 0
                          have kx1 : wr.cell? ⟨wm.heap.size, 1, none⟩ = some (.int .i64 cq) := HBX2.out.cell 1
                          have lX := HBX2.out.lt
                          have hcD : (⟨cp, cq⟩ : Fnl) ∉ D := fun h => ((List.nodup_append.1 HXJ2.out.nd).2.2 _ h ⟨cp, cq⟩ (by simp)) rfl
                          have HCD := hide hcD
                          have hok : okC ⟨cp, cq⟩ := ⟨p0, by show cp ≤ 1000; omega, q0, by show cq ≤ 1000; omega⟩
                          have HOK := hide hok
                          have hdn := HXJ2.out.done (by rw [← HMS.out]; omega)
                          have HXD := hide hdn
                          have hgk1 : 1 ≤ gk := by
                            have h1 := hdn.len
                            have h2 := HGK.out
                            rw [HNA.out, HNB.out, Int.toNat_natCast, Int.toNat_natCast, List.length_append] at h1
                            simp at h1
                            omega
                          have HKN := hide (show ∀ d, (lk (upL L2 ⟨cp, cq⟩ (.slice Al mS cl)) d).isSome = true ↔ d ∈ (D ++ [⟨cp, cq⟩]) ++ T2 from fun d => by
                            rw [lk_isSome, mem_keys_up, ← lk_isSome, HKEY2.out d]
                            simp only [List.mem_append, List.mem_cons, List.mem_singleton, List.not_mem_nil, or_false]
                            constructor
                            · rintro (h | h | h | h)
                              · exact .inl (.inr h)
                              · exact .inl (.inl h)
                              · exact .inl (.inr h)
                              · exact .inr h
                            · rintro ((h | h) | h)
                              · exact .inr (.inl h)
                              · exact .inl h
                              · exact .inr (.inr (.inr h)))
                          have HCN := hide (show cnt + mS = totL a b (D ++ [⟨cp, cq⟩]) by rw [totL_snoc, ← HCNT.out, ← HMS.out])
                          clear hcD hok hdn
                          by_cases hov : cnt + mS ≤ 200000
                          · go_wp2_with (at_mapUpdate; go_loud (refine wpList_mapup rfl _ _ _ 56 rfl kl_cpl Try.underlying56 rfl HM2.out ⟨cp, cq⟩ rfl HOK.out (.slice Al mS cl) rfl ?_); intro w7 hm7 hg7 hz7)
                            have HM7 := hide hm7
                            have HG7 := hide hg7
                            have lz7 : wr.heap.size ≤ w7.heap.size := by omega
                            clear hm7 hg7 hz7
                            go_wp2
                            go_roundg (gk - 1)
                            case measure => omega
                            case rel => exact ⟨D ++ [⟨cp, cq⟩], T2, _, cnt + mS, by go_num, HCN, hov, hide (by rw [← HNT.out]; exact own_keepN HOT.out HG7.out (by omega)), HM7, hide ((HST2.out.low HG7.out (by omega)).put HCD.out HMS.out (own_monoB' (own_keepN HOL.out HG7.out (by omega)) (by omega))), HXD, HKN, hide (HP2.out.grown HG7.out (by simp; omega)), hide (HMF2.out.kept HG7.out (by simp)), hide (HB2.out.grown HG7.out (by omega) (fun q hq => by injection hq with hq; omega)), by omega, hide (by have := HGK.out; simp; omega)⟩
                          · have HRW := hide (HR3.out.below HB2.out (by omega))
                            go_upto_region 47 with (at_mapUpdate; go_loud (refine wpList_mapup rfl _ _ _ 56 rfl kl_cpl Try.underlying56 rfl HM2.out ⟨cp, cq⟩ rfl HOK.out (.slice Al mS cl) rfl ?_); intro w7 hm7 hg7 hz7; have bP7 := HP2.out.grown hg7 (fun e => Nat.ne_of_gt (show H < H + 1 + 1 by omega) (Option.some.inj e)); have bR7 := HRW.out.grown hg7 (fun e => Nat.ne_of_lt (show w.heap.size + 1 + 1 < H by omega) (Option.some.inj e)); have pc0 : w7.cell? ⟨H + 1 + 1, 0, none⟩ = some (.map (some H)) := bP7.cell 0; have pc1 : w7.cell? ⟨H + 1 + 1, 1, none⟩ = some (.map (some (H + 1))) := bP7.cell 1; have lP7 := bP7.lt; have rc0 : w7.cell? ⟨w.heap.size + 1 + 1, 0, none⟩ = some (.map none) := bR7.cell 0; have rc1 : w7.cell? ⟨w.heap.size + 1 + 1, 1, none⟩ = some (.map none) := bR7.cell 1; have rf0 := bR7.frozen 0; have rf1 := bR7.frozen 1; have lR7 := bR7.lt; have HG7 := hide hg7; have HZ7 := hide hz7; clear hm7 hg7 hz7 bP7 bR7)
                            clear HOT HM2 HST2 HOL HXJ2 HKEY2 HMF2 HBX2 hneX HP2 HRW kP0 kP1 lP kx0 kx1 lX HOK HCD
                            go_upto_region 49 with fail
                            go_wp21
                            exact bodyPost_ret (v := .tuple #[.agg #[.map (some H), .map (some (H + 1))], .bool false]) (by simp [results, Try.results45, go_sem, pc0, pc1, rc0, rc1, rf0, rf1, lP7, lR7]) rfl ⟨H, H + 1, false, rfl, (((HB3.out.trans (HB2.out.mono (by omega))).grown HG7.out (by omega) (fun q hq => by have := Option.some.inj hq; omega)).setCell (by simp <;> omega) _).setCell (by simp <;> omega) _, by omega, by omega, fun e => (by cases e), ⟨fun e => (by cases e), fun h => (by have h1 := HXD.out.le; have h2 := HCN.out; omega)⟩⟩
end Go.Proofs.Ytmgpcnkmmgkjgaa
