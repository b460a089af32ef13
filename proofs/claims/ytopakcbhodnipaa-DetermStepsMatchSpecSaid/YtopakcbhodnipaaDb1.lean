/- The texts Shelf, Reg, PlG, PlT, TrimA, Part, PlR, Trd, PlD, HpA, SrP, SdP, SdW, SdX, DqZ, EaP, FwW, SiW, NlL, GrL, RoW, SmP, DtP, DeP, MiP, TbW, MnV, MxP, CtT of this proof. No conditions. -/
import Derived.Test.YtopakcbhodnipaaCb11
import Derived.Test.YtopakcbhodnipaaCb25
import Derived.Test.YtopakcbhodnipaaCb26
import Derived.Test.YtopakcbhodnipaaCb27
import Derived.Test.YtopakcbhodnipaaCb28
import Derived.Shelf.Small.Bits
import Derived.Shelf.Strconv.Itoa0
import Derived.Shelf.Sort.Plain
import Derived.Shelf.Slices.Reverse
import Derived.Ground.Names2Prog
import Derived.Shelf.Slices.Clone
import Derived.Shelf.Slices.CompactI
import Derived.Shelf.Slices.SearchI
import Derived.Shelf.Slices.Cells
import Derived.Shelf.Slices.In.SortNone
import Derived.Shelf.Slices.Empties
import Derived.Ground.SlgnProg
import Derived.Ground.SlsfProg
import Derived.Shelf.SlicesE.Clone
import Derived.Shelf.SlSortCmp.WholeK
import Derived.StillTail
import Derived.Deep.Quiet
import Derived.Deep.QuietTactic
import Derived.BigQuiet
import Derived.OrdersHeld
import Derived.Deep.RegionHeld3
import Derived.BigRegion
import Derived.Deep.CutRange
import Derived.IntWalk
import Derived.Deep.Cut
import Derived.LoopTactic
import Derived.OneCell
import Derived.Laws.OwnMore
import Derived.Maps.AppendAt
/- Text Shelf. -/
namespace Go.Proofs
open Go.Shelf
def Try.laysNm225_ren : Go.Shelf.Ren := ⟨fun | 25 => 70 | 31 => 93 | 32 => 94 | 37 => 120 | n => n, fun | 22 => 22 | 3 => 3 | 4 => 4 | 40 => 108 | 0 => 0 | n => n, fun | n => n⟩
theorem Try.laysNm225 : Go.Proofs.Lays2.n25 Try.prog Try.laysNm225_ren := {
 mixed := by kernel_rfl
 f25 := Try.func70.trans (congrArg some (by kernel_rfl))
 f31 := Try.func93.trans (congrArg some (by kernel_rfl))
 f32 := Try.func94.trans (congrArg some (by kernel_rfl))
 f37 := Try.func120.trans (congrArg some (by kernel_rfl))
 t0 := Try.underlying0
 a0 := Try.isAgg0
 z0 := Try.sizeOf0
 v0 := Try.zeroValue0
 t3 := Try.underlying3
 a3 := Try.isAgg3
 z3 := Try.sizeOf3
 v3 := Try.zeroValue3
 t4 := Try.underlying4
 a4 := Try.isAgg4
 z4 := Try.sizeOf4
 v4 := Try.zeroValue4
 t22 := Try.underlying22
 a22 := Try.isAgg22
 z22 := Try.sizeOf22
 v22 := Try.zeroValue22
 t40 := Try.underlying108
 a40 := Try.isAgg108
 z40 := Try.sizeOf108
 v40 := Try.zeroValue108 }
open Go.RowKit Go.Lib in
theorem Try.slices_BinarySearch_int (b off n c : Nat) (zs : List Int) (x : Int) (w : World) (hz : n ≤ zs.length) (hbig : n < 4611686018427387904) (hc : ∀ j, j < zs.length → w.cell? ⟨b, off + j, none⟩ = some (.int .i64 (zs.getD j 0))) (hs : (zs.take n).Pairwise (· ≤ ·)) :
 Calls Try.prog 70 #[.slice (some ⟨b, off, none⟩) n c, .int .i64 x] w fun e w' => e = .returned (.tuple #[.int .i64 ((zs.take n).countP (· < x) : Nat), .bool ((zs.take n).contains x)]) ∧ ∃ q, w' = w.drewN q := Any.slices_BinarySearch_int Try.laysNm225 b off n c zs x w hz hbig hc hs
end Go.Proofs
/- Text Reg. -/
namespace Gm
open Go
section
variable {P : Program} {ops : Array Oper} {md : Region.Mode} {C : World → Prop}
end
section
variable {P : Program} {ops : Array Oper} {md : Region.Mode} {Q : Exit → Act → World → Prop} {C : World → Prop}
theorem mix_skip {C : World → Prop} {L : Act → World → Prop} {i : Nat} {o : Oper} {r : List (Nat × Bool)} {a : Act} {w : World} (ho : ops[i]? = some o) (hw : Region.wanted o (yielded ops a.tmps) = false)
 (h : mixW P ops Q C L r (a.put o.dst undef) w) : mixW P ops Q C L ((i, false) :: r) a w :=
 ⟨o, ho, undef, .inr ⟨hw, rfl⟩, h⟩
end
end Gm
/- Text PlG. -/
namespace Gm
theorem aval_rng {back : Bool} {l : List Arc} {S : Nat} (h : inRange l S) {a : Arc} (ha : a ∈ l) : 0 ≤ aval back a ∧ aval back a < (S : Int) := by
 have := h a ha
 unfold aval; split <;> omega
theorem akey_rng {back : Bool} {l : List Arc} {S : Nat} (h : inRange l S) {a : Arc} (ha : a ∈ l) : 0 ≤ akey back a ∧ akey back a < (S : Int) := by
 have := h a ha
 unfold akey; split <;> omega
end Gm
/- Text PlT. -/
namespace Gm
theorem partArcs_snoc (K : Nat → Bool) (l : List Arc) (a : Arc) : partArcs K (l ++ [a]) = partArcs K l ++ (if (K a.f.toNat && K a.t.toNat) = true then [partArc K a] else []) := by
 unfold partArcs
 rw [List.filter_append, List.map_append]
 congr 1
 by_cases h : (K a.f.toNat && K a.t.toNat) = true <;> simp [h]
theorem partFins_snoc (K : Nat → Bool) (l : List Fnl) (a : Fnl) : partFins K (l ++ [a]) = partFins K l ++ (if K a.s.toNat = true then [partFin K a] else []) := by
 unfold partFins
 rw [List.filter_append, List.map_append]
 congr 1
 by_cases h : K a.s.toNat = true <;> simp [h]
theorem partArcs_len (K : Nat → Bool) (l : List Arc) : (partArcs K l).length ≤ l.length := by
 unfold partArcs; rw [List.length_map]; exact List.length_filter_le _ _
theorem partFins_len (K : Nat → Bool) (l : List Fnl) : (partFins K l).length ≤ l.length := by
 unfold partFins; rw [List.length_map]; exact List.length_filter_le _ _
theorem part_congr {m : Mach} {K K' : Nat → Bool} (ha : inRange m.arcs m.n.toNat) (hf : ∀ x ∈ m.fins, 0 ≤ x.s ∧ x.s < (m.n.toNat : Int)) (h : ∀ i, i < m.n.toNat → K i = K' i) : partM m K = partM m K' := by
 have hc : ∀ i, i ≤ m.n.toNat → cntK K i = cntK K' i := fun i hi => cntK_congr i (fun j hj => h j (by omega))
 unfold partM
 congr 1
 · rw [hc _ (Nat.le_refl _)]
 ·
  unfold partArcs
  have e1 : (m.arcs.filter fun a => K a.f.toNat && K a.t.toNat) = (m.arcs.filter fun a => K' a.f.toNat && K' a.t.toNat) := by
   refine List.filter_congr fun a hm => ?_
   have := ha a hm
   rw [h a.f.toNat (by omega), h a.t.toNat (by omega)]
  rw [e1]
  refine List.map_congr_left fun a hm => ?_
  have := ha a (List.mem_filter.1 hm).1
  unfold partArc
  rw [hc a.f.toNat (by omega), hc a.t.toNat (by omega)]
 ·
  unfold partFins
  have e1 : (m.fins.filter fun a => K a.s.toNat) = (m.fins.filter fun a => K' a.s.toNat) := by
   refine List.filter_congr fun a hm => ?_
   have := hf a hm
   rw [h a.s.toNat (by omega)]
  rw [e1]
  refine List.map_congr_left fun a hm => ?_
  have := hf a (List.mem_filter.1 hm).1
  unfold partFin
  rw [hc a.s.toNat (by omega)]
/-! A valid machine's numbers. -/
theorem finStates_snoc (l : List Fnl) (a : Fnl) : finStates (l ++ [a]) = finStates l ++ [a.s] := by simp [finStates]
theorem takeF_push {l : List Fnl} {k : Nat} {a : Fnl} (hk : k < l.length) (ha : l.getD k dF = a) : l.take (k + 1) = l.take k ++ [a] := by
 have e : l.getD k dF = l[k] := by simp [hk]
 rw [List.take_succ_eq_append_getElem hk, ← e, ha]
end Gm
/- Text TrimA. -/
namespace Gm
open Go
theorem cntK_f {K : Nat → Bool} {j : Nat} (h : K j = false) : cntK K (j + 1) = cntK K j := by simp [cntK, h]
theorem cntK_t {K : Nat → Bool} {j : Nat} (h : K j = true) : cntK K (j + 1) = cntK K j + 1 := by simp [cntK, h]
end Gm
namespace Go.Proofs.Ytopakcbhodnipaa
open Go.RowKit Gm
set_option linter.unusedSimpArgs false
end Go.Proofs.Ytopakcbhodnipaa
/- Text Part. -/
namespace Go.Proofs.Ytopakcbhodnipaa
open Go.RowKit Gm
set_option linter.unusedSimpArgs false
theorem own_set3 {w : World} {base sz n : Nat} {e : TypeId} {v : Value} {xs : List Value} (h : w.ownsRow base e sz v n xs) {p1 p2 p3 : Addr} (h1 : p1.block < base) (h2 : p2.block < base) (h3 : p3.block < base) (u1 u2 u3 : Value) :
 (((w.setCell p1 u1).setCell p2 u2).setCell p3 u3).ownsRow base e sz v n xs :=
 ownsRow_setCell_below (ownsRow_setCell_below (ownsRow_setCell_below h h1 u1) h2 u2) h3 u3
theorem cnt_step {K : Nat → Bool} {j i : Nat} : (if i = j then Value.int .i64 (cntK K j : Int) else .int .i64 (if i < j then (cntK K i : Int) else 0)) = .int .i64 (if i < j + 1 then (cntK K i : Int) else 0) := by
 by_cases e : i = j
 · subst e; simp
 ·
  rw [if_neg e]; congr 1
  by_cases h : i < j
  · rw [if_pos h, if_pos (by omega)]
  · rw [if_neg h, if_neg (by omega)]
noncomputable def partOf (m : Mach) (K : Nat → Bool) : Mach := if m.n = 0 ∨ K 0 = false then emptyM else partM m K
set_option maxRecDepth 100000 in
set_option maxHeartbeats 4000000 in
theorem part_any (
 v : Value) (m : Mach) (w : World) (B S gK : Nat) (K : Nat → Bool) (hB : B ≤ w.heap.size) (h : MachAt w B v m) (hS : m.n = (S : Int)) (hS4 : S ≤ 100000) (hl : m.arcs.length ≤ 1000000) (hfl : m.fins.length ≤ 1000000)
 (hrng : inRange m.arcs S) (hfr : ∀ x ∈ m.fins, 0 ≤ x.s ∧ x.s < (S : Int)) (rK : w.rowIs gK 4 S (fun i => .bool (K i))) :
 Calls Try.prog 84 #[v, .slice (some ⟨gK, 0, none⟩) S S] w fun e w' => ∃ v1, e = .returned v1 ∧ MachNew w.heap.size w' v1 (partOf m K) ∧ Below w.heap.size w w' := by
 obtain ⟨A, AF, n, c, nf, cf, rfl, HN, HF, hnc, hnfc, hnb, hnfb, hA, hF⟩ := h
 rw [HN.out] at hl
 rw [HF.out] at hfl
 have HS := hide hS
 have HRNG := hide hrng
 have HFR := hide hfr
 rw [hS]
 clear hS hrng hfr hnb hnfb
 obtain ⟨ia, ha0, ha1, ha2, ha3⟩ := info_parts arc_info
 obtain ⟨iF, hF0, hF1, hF2, hF3⟩ := info_parts fin_info
 have hgK := rK.lt
 go_enter Try.func84, Try.ntmps84
 cases hz : ((S : Int) == 0)
 case true =>
  have hS0 : S = 0 := by simpa using hz
  have hres : partOf m K = emptyM := by unfold partOf; rw [if_pos (.inl (by rw [HS.out, hS0]; rfl))]
  have HRES := hide hres
  clear hres
  go_wp2
  rw [HRES.out]
  exact bodyPost_ret (v := .agg #[.int .i64 0, .slice none 0 0, .slice none 0 0]) (by simp [results, Try.results84, go_sem]) rfl ⟨_, rfl, MachNew.empty _ _, by go_grown⟩
 case false =>
  have hS1 : 0 < S := by
   have : S ≠ 0 := by simpa using hz
   omega
  have t0 := rK.cell hS1
  cases hK0 : K 0
  case false =>
   rw [hK0] at t0
   have hres : partOf m K = emptyM := by unfold partOf; rw [if_pos (.inr hK0)]
   have HRES := hide hres
   clear hres hK0
   go_wp2
   rw [HRES.out]
   exact bodyPost_ret (v := .agg #[.int .i64 0, .slice none 0 0, .slice none 0 0]) (by simp [results, Try.results84, go_sem]) rfl ⟨_, rfl, MachNew.empty _ _, by go_grown⟩
  case true =>
   rw [hK0] at t0
   have hres : partOf m K = partM m K := by
    unfold partOf
    rw [if_neg]
    intro h
    rcases h with h | h
    · rw [HS.out] at h; omega
    · rw [hK0] at h; cases h
   have HRES := hide hres
   clear hres hK0
   have hmk := fun (W : World) => run_make_row' (P := Try.prog) 22 3 (.int .i64 0) 8 Try.underlying22 int_info rfl .i64 .i64 S (by omega) (by omega) W
   go_wp2
   clear hmk t0 hz
   generalize hW : World.alloc _ _ = W4
   generalize e2 : w.heap.size + 1 + 1 = gN
   generalize e3 : gN + 1 = gO
   have rN0 : W4.rowIs (gN) 3 S (fun j => .int .i64 (if j < 0 then (cntK K j : Int) else 0)) := by
    rw [← hW]
    have e : ((w.alloc (Obj.cells #[.int .i64 (S : Int), .slice A n c, .slice AF nf cf] 28)).alloc (Obj.cells #[.int .i64 0, .slice none 0 0, .slice none 0 0] 28)).heap.size = gN := by simp; omega
    rw [← e]
    exact ((World.rowIs_made _ (.int .i64 0) S 3).congr (fun i _ => by rw [if_neg (by omega)])).alloc _
   have bX : Blk W4 w.heap.size 28 #[.int .i64 (S : Int), .slice A n c, .slice AF nf cf] := by rw [← hW]; exact (((Blk.at_ rfl).alloc _).alloc _).alloc _
   have bR : Blk W4 (w.heap.size + 1) 28 #[.int .i64 0, .slice none 0 0, .slice none 0 0] := by rw [← hW]; exact ((Blk.at_ (by simp)).alloc _).alloc _
   have bO0 : Blk W4 (gO) 28 #[.int .i64 (cntK K 0 : Int), .slice none 0 0, .slice none 0 0] := by rw [← hW]; exact Blk.at_ (by simp; omega)
   have hb4 : Below w.heap.size w W4 := by rw [← hW]; go_grown
   clear hW
   go_loopw [27] (fun i wr => ∃ k : Nat, k ≤ S ∧ i = .int .i64 k ∧ wr.rowIs (gN) 3 S (fun j => .int .i64 (if j < k then (cntK K j : Int) else 0)) ∧
    Blk wr (gO) 28 #[.int .i64 (cntK K k : Int), .slice none 0 0, .slice none 0 0] ∧ Below w.heap.size w wr ∧
    Blk wr w.heap.size 28 #[.int .i64 (S : Int), .slice A n c, .slice AF nf cf] ∧ Blk wr (w.heap.size + 1) 28 #[.int .i64 0, .slice none 0 0, .slice none 0 0]) (fun i _ => S - (intOf i).toNat)
   case atStart => exact ⟨0, by omega, rfl, rN0, bO0, hb4, bX, bR⟩
   case round =>
    clear rN0 bO0 hb4 bX bR
    obtain ⟨j, hj, rfl, rN, bO, hb5, bX, bR⟩ := hrel
    by_cases hjS : j < S
    ·
     have nf' := rN.frozen j
     have o0 := bO.cell 0
     have of := bO.frozen 0
     have t0 := keep_cell hb5 (rK.cell hjS) hgK
     have ol := bO.lt
     have nl := rN.lt
     simp at o0
     have hcl := cntK_le K j
     have hne : gN ≠ gO := by omega
     have n0 := rN.cell hjS
     cases h1 : K j
     ·
      rw [h1] at t0
      go_wp2
      go_roundw
      case rel => exact ⟨j + 1, by omega, by go_num, (rN.set j (.int .i64 (cntK K j : Int))).congr (fun i _ => cnt_step), by rw [cntK_f h1]; exact bO.far (by simp <;> omega) _, hb5.setCell (by simp <;> omega) _, bX.far (by simp <;> omega) _, bR.far (by simp <;> omega) _⟩
      case measure => simp [intOf]; omega
     ·
      rw [h1] at t0
      go_wp2
      go_roundw
      case rel => exact ⟨j + 1, by omega, by go_num, ((rN.set j (.int .i64 (cntK K j : Int))).setOther (by simp <;> omega) _).congr (fun i _ => cnt_step), by rw [cntK_t h1]; exact (bO.far (by simp <;> omega) _).set_ 0 _, (hb5.setCell (by simp <;> omega) _).setCell (by simp <;> omega) _, (bX.far (by simp <;> omega) _).far (by simp <;> omega) _, (bR.far (by simp <;> omega) _).far (by simp <;> omega) _⟩
      case measure => simp [intOf]; omega
    ·
     obtain rfl : j = S := by omega
     have rN := rN.congr (g := fun i => .int .i64 (cntK K i : Int)) (fun i hi => by rw [if_pos hi])
     have ol := bO.lt
     have xl := bX.lt
     have x1 := bX.cell 1
     simp at x1
     go_wp2
     clear x1
     go_loopw [47] (fun i wr => ∃ (q : Nat) (va : Value), q ≤ n ∧ i = .int .i64 q ∧ wr.rowIs (gN) 3 j (fun i => .int .i64 (cntK K i : Int)) ∧ Blk wr (gO) 28 #[.int .i64 (cntK K j : Int), va, .slice none 0 0] ∧
      wr.ownsRow (w.heap.size + 4) 61 5 va (partArcs K (m.arcs.take q)).length (arcRow (partArcs K (m.arcs.take q))) ∧ Below w.heap.size w wr ∧ w.heap.size + 4 ≤ wr.heap.size ∧
      Blk wr w.heap.size 28 #[.int .i64 (j : Int), .slice A n c, .slice AF nf cf] ∧ Blk wr (w.heap.size + 1) 28 #[.int .i64 0, .slice none 0 0, .slice none 0 0]) (fun i _ => n - (intOf i).toNat)
     case atStart => exact ⟨0, _, by omega, rfl, rN, bO, World.ownsRow_nil _ _ _ _, hb5, by omega, bX, bR⟩
     case round =>
      clear rN bO hb5 ol bX bR xl
      obtain ⟨q, va, hq, rfl, rN, bO, hown, hb5, hz5, bX, bR⟩ := hrel
      have o1 := bO.cell 1
      have of1 := bO.frozen 1
      simp at o1
      have ol := bO.lt
      have xl := bX.lt
      have x2 := bX.cell 2
      simp at x2
      by_cases hqn : q < n
      ·
       obtain ⟨b, off, a, rfl, hbB, c0, c1, c2, c3, c4, HA⟩ := arcs_at (hA.below hb5 hB) hqn
       have hbw' : b < wr.heap.size := by have := hb5.size; omega
       have hin := HRNG.out a (getD_mem (by rw [HN.out]; exact hqn) HA.out)
       obtain ⟨r0, r1, r2, r3⟩ := hin
       have nF := rN.cell (show a.f.toNat < j by omega)
       have nT := rN.cell (show a.t.toNat < j by omega)
       have nl := rN.lt
       have gF := keep_cell hb5 (rK.cell (show a.f.toNat < j by omega)) hgK
       have gT := keep_cell hb5 (rK.cell (show a.t.toNat < j by omega)) hgK
       have HTP := hide (take_push (by rw [HN.out]; exact hqn) HA.out)
       have hpl := partArcs_len K (m.arcs.take q)
       rw [List.length_take] at hpl
       have hgw : gK < wr.heap.size := by have := hb5.size; omega
       cases hkf : K a.f.toNat
       ·
        rw [hkf] at gF
        go_wp2
        go_roundw
        case rel => exact ⟨q + 1, va, by omega, by go_num, rN.alloc _, bO.alloc _, by rw [HTP.out, partArcs_snoc, hkf]; simpa using hown.alloc _, hb5.alloc (by omega) _, by simp; omega, bX.alloc _, bR.alloc _⟩
        case measure => simp [intOf]; omega
       ·
        rw [hkf] at gF
        cases hkt : K a.t.toNat
        ·
         rw [hkt] at gT
         have hq1 : gN ≠ wr.heap.size := by omega
         have hq2 : gN ≠ wr.heap.size + 1 := by omega
         have hq3 : gO ≠ wr.heap.size := by omega
         have hq4 : gO ≠ wr.heap.size + 1 := by omega
         go_wp2
         go_roundw
         case rel => exact ⟨q + 1, va, by omega, by go_num, rN.alloc _, bO.alloc _, by rw [HTP.out, partArcs_snoc, hkf, hkt]; simpa using hown.alloc _, hb5.alloc (by omega) _, by simp; omega, bX.alloc _, bR.alloc _⟩
         case measure => simp [intOf]; omega
        ·
         rw [hkt] at gT
         go_wp2
         refine wp_mix (fun w' => w'.cell? ⟨wr.heap.size, 0, none⟩ = some (.int .i64 a.f) ∧ w'.cell? ⟨wr.heap.size, 1, none⟩ = some (.int .i64 a.t) ∧ w'.cell? ⟨wr.heap.size, 2, none⟩ = some (.int .i64 a.i) ∧ w'.cell? ⟨wr.heap.size, 3, none⟩ = some (.int .i64 a.o) ∧ w'.cell? ⟨wr.heap.size, 4, none⟩ = some (.int .i64 a.w) ∧
          w'.cell? ⟨gN, a.f.toNat, none⟩ = some (.int .i64 (cntK K a.f.toNat : Int)) ∧ w'.cell? ⟨gN, a.t.toNat, none⟩ = some (.int .i64 (cntK K a.t.toNat : Int)) ∧ w'.cell? ⟨gO, 1, none⟩ = some va) 20 [(0, false), (1, false), (2, false), (3, false), (4, false), (5, false), (6, false), (7, false), (8, false), (9, false), (10, false), (11, false), (12, false), (13, false), (14, false), (15, false), (16, false), (17, false), (18, false), (19, true)] (by kernel_rfl) (by kernel_rfl) ?_ ?_
         · go_simp
         simp only [List.drop_succ_cons, List.drop_zero]
         repeat (refine mix_q (v := ?_) (by rfl) (by rfl) ?_ ?_; rotate_left; (focus (intro w' hC; (try dsimp only at hC); go_simp; (first | done | with_reducible rfl))); simp only [Act.put, List.setIfInBounds_toArray, List.set_cons_zero, List.set_cons_succ])
         refine mix_l (by rfl) (by rfl) (fun K hK => ?_)
         go_simp
         refine hK _ _ (by go_simp) ?_
         clear hK K
         refine mix_nil ?_; try simp only [Act.put, List.setIfInBounds_toArray, List.set_cons_zero, List.set_cons_succ]
         have hne1 : va.ownBlock ≠ some (gO) := fun e => by have := (hown.lt _ e).1; omega
         have hne2 : va.ownBlock ≠ some (gN) := fun e => by have := (hown.lt _ e).1; omega
         have hne3 : va.ownBlock ≠ some (w.heap.size + 1) := fun e => by have := (hown.lt _ e).1; omega
         have hne4 : va.ownBlock ≠ some w.heap.size := fun e => by have := (hown.lt _ e).1; omega
         go_wp2_with (at_builtin; refine wpList_append_own _ rfl (.tmp 64) (.tmp 82) 25 rfl (w.heap.size + 4) 61 ia _ 5 40 Try.underlying25 ha0 ha1 ha2 ha3 rfl (by omega) va _ _ rfl ((hown.alloc _).alloc _).drew ⟨wr.heap.size + 1, 0, none⟩ 1 1 (arcRow [partArc K a]) rfl (by rfl) (World.news_of_block (cs := (arcRow [partArc K a]).toArray) (t := 61) (fr := (0, 0)) ((Blk.at_ (by simp)).drew)) (arcRow_one _) (by simp only [maxLen]; omega) (by omega) (by simp; omega) ?_; intro v' w6 hown2 hg2 _; obtain ⟨Av, cv, rfl, _, _⟩ := own_value hown2; have o1' := far_cell hg2 hne1 (o := 1) (v := va) (by go_simp); have of1' := far_free hg2 hne1 (o := 1) (x := false) (by simp; omega) (by go_simp))
         refine NoPanic.normal ?_
         go_wp2
         have hs6 := hg2.size
         simp at hs6
         go_roundw
         case rel => exact ⟨q + 1, _, by omega, by go_num,
          (((rN.alloc _).alloc _).of_block (hg2.block _ (by simp; omega) (fun e => hne2 e.symm))).setOther (by simp <;> omega) _,
          ((((bO.alloc _).alloc _).drew).grown hg2 (fun e => hne1 e.symm)).set_ 1 _,
          ownsRow_setCell_below (by
           rw [HTP.out, partArcs_snoc, hkf, hkt]
           rw [Bool.and_true, if_pos rfl, List.length_append, arcRow_append]
           exact hown2) (by simp <;> omega) _,
          ((((hb5.alloc (by omega) _).alloc (by simp; omega) _).drew).grown hg2 (by simp; omega) (fun k hk => by have := (hown.lt _ hk).1; omega)).setCell (by simp <;> omega) _, by simp; omega,
          ((((bX.alloc _).alloc _).drew).grown hg2 (fun e => hne4 e.symm)).far (by simp <;> omega) _, ((((bR.alloc _).alloc _).drew).grown hg2 (fun e => hne3 e.symm)).far (by simp <;> omega) _⟩
         case measure => simp [intOf]; omega
      ·
       obtain rfl : q = n := by omega
       have hend : m.arcs.take q = m.arcs := List.take_of_length_le (by rw [HN.out]; omega)
       rw [hend] at hown
       clear hend o1 of1 hqn
       obtain ⟨wp, rfl⟩ : ∃ wp : World, wp = wr := ⟨_, rfl⟩
       have hpl := partArcs_len K m.arcs
       rw [HN.out] at hpl
       go_wp2
       clear x2 ol xl
       go_loopw [89] (fun i wr => ∃ (p : Nat) (vf : Value), p ≤ nf ∧ i = .int .i64 p ∧ wr.rowIs gN 3 j (fun i => .int .i64 (cntK K i : Int)) ∧ Blk wr gO 28 #[.int .i64 (cntK K j : Int), va, vf] ∧
        wr.ownsRow (w.heap.size + 4) 61 5 va (partArcs K m.arcs).length (arcRow (partArcs K m.arcs)) ∧ wr.ownsRow (w.heap.size + 4) 63 2 vf (partFins K (m.fins.take p)).length (finRow (partFins K (m.fins.take p))) ∧
        Below w.heap.size w wr ∧ w.heap.size + 4 ≤ wr.heap.size ∧ Blk wr (w.heap.size + 1) 28 #[.int .i64 0, .slice none 0 0, .slice none 0 0]) (fun i _ => nf - (intOf i).toNat)
       case atStart => exact ⟨0, _, by omega, rfl, rN, bO, hown, World.ownsRow_nil _ _ _ _, hb5, by omega, bR⟩
       case round =>
        clear rN bO hb5 hown bX bR
        obtain ⟨p, vf, hp, rfl, rN, bO, hownA, hown, hb5, hz5, bR⟩ := hrel
        have o2 := bO.cell 2
        have of2 := bO.frozen 2
        simp at o2
        have ol := bO.lt
        by_cases hpn : p < nf
        ·
         obtain ⟨b, off, x, rfl, hbB, c0, c1, HA⟩ := fins_at (hF.below hb5 hB) hpn
         have hbw' : b < wr.heap.size := by have := hb5.size; omega
         have hin := HFR.out x (getDF_mem (by rw [HF.out]; exact hpn) HA.out)
         obtain ⟨r0, r1⟩ := hin
         have nF := rN.cell (show x.s.toNat < j by omega)
         have nl := rN.lt
         have gF := keep_cell hb5 (rK.cell (show x.s.toNat < j by omega)) hgK
         have hgw : gK < wr.heap.size := by have := hb5.size; omega
         have HTP := hide (takeF_push (by rw [HF.out]; exact hpn) HA.out)
         have hfl2 := partFins_len K (m.fins.take p)
         rw [List.length_take] at hfl2
         cases hkf : K x.s.toNat
         ·
          rw [hkf] at gF
          go_wp2
          go_roundw
          case rel => exact ⟨p + 1, vf, by omega, by go_num, rN.alloc _, bO.alloc _, hownA.alloc _, by rw [HTP.out, partFins_snoc, hkf]; simpa using hown.alloc _, hb5.alloc (by omega) _, by simp; omega, bR.alloc _⟩
          case measure => simp [intOf]; omega
         ·
          rw [hkf] at gF
          go_wp2
          refine wp_mix (fun w' => w'.cell? ⟨wr.heap.size, 0, none⟩ = some (.int .i64 x.s) ∧ w'.cell? ⟨wr.heap.size, 1, none⟩ = some (.int .i64 x.w) ∧ w'.cell? ⟨gN, x.s.toNat, none⟩ = some (.int .i64 (cntK K x.s.toNat : Int)) ∧ w'.cell? ⟨gO, 2, none⟩ = some vf) 11 [(0, false), (1, false), (2, false), (3, false), (4, false), (5, false), (6, false), (7, false), (8, false), (9, false), (10, true)] (by kernel_rfl) (by kernel_rfl) ?_ ?_
          · go_simp
          simp only [List.drop_succ_cons, List.drop_zero]
          repeat (refine mix_q (v := ?_) (by rfl) (by rfl) ?_ ?_; rotate_left; (focus (intro w' hC; (try dsimp only at hC); go_simp; (first | done | with_reducible rfl))); simp only [Act.put, List.setIfInBounds_toArray, List.set_cons_zero, List.set_cons_succ])
          refine mix_l (by rfl) (by rfl) (fun K hK => ?_)
          go_simp
          refine hK _ _ (by go_simp) ?_
          clear hK K
          refine mix_nil ?_; try simp only [Act.put, List.setIfInBounds_toArray, List.set_cons_zero, List.set_cons_succ]
          have hne1 : vf.ownBlock ≠ some gO := fun e => by have := (hown.lt _ e).1; omega
          have hne2 : vf.ownBlock ≠ some gN := fun e => by have := (hown.lt _ e).1; omega
          have hne3 : vf.ownBlock ≠ some (w.heap.size + 1) := fun e => by have := (hown.lt _ e).1; omega
          go_wp2_with (at_builtin; refine wpList_append_own _ rfl (.tmp 99) (.tmp 108) 26 rfl (w.heap.size + 4) 63 iF _ 2 16 Try.underlying26 hF0 hF1 hF2 hF3 rfl (by omega) vf _ _ rfl ((hown.alloc _).alloc _).drew ⟨wr.heap.size + 1, 0, none⟩ 1 1 (finRow [partFin K x]) rfl (by rfl) (World.news_of_block (cs := (finRow [partFin K x]).toArray) (t := 63) (fr := (0, 0)) ((Blk.at_ (by simp)).drew)) (finRow_one _) (by simp only [maxLen]; omega) (by omega) (by simp; omega) ?_; intro v' w6 hown2 hg2 _; obtain ⟨Av, cv, rfl, _, _⟩ := own_value hown2; have o1' := far_cell hg2 hne1 (o := 2) (v := vf) (by go_simp); have of1' := far_free hg2 hne1 (o := 2) (x := false) (by simp; omega) (by go_simp))
          refine NoPanic.normal ?_
          go_wp2
          have hs6 := hg2.size
          simp at hs6
          go_roundw
          case rel => exact ⟨p + 1, _, by omega, by go_num,
           (((rN.alloc _).alloc _).of_block (hg2.block _ (by simp; omega) (fun e => hne2 e.symm))).setOther (by simp <;> omega) _,
           ((((bO.alloc _).alloc _).drew).grown hg2 (fun e => hne1 e.symm)).set_ 2 _,
           ownsRow_setCell_below ((((hownA.alloc _).alloc _).drew).kept hg2 (own_ne hownA hown (by decide))) (by simp <;> omega) _,
           ownsRow_setCell_below (by
            rw [HTP.out, partFins_snoc, hkf]
            rw [if_pos rfl, List.length_append, finRow_append]
            exact hown2) (by simp <;> omega) _,
           ((((hb5.alloc (by omega) _).alloc (by simp; omega) _).drew).grown hg2 (by simp; omega) (fun k hk => by have := (hown.lt _ hk).1; omega)).setCell (by simp <;> omega) _, by simp; omega,
           ((((bR.alloc _).alloc _).drew).grown hg2 (fun e => hne3 e.symm)).far (by simp <;> omega) _⟩
          case measure => simp [intOf]; omega
        ·
         obtain rfl : p = nf := by omega
         have hend : m.fins.take p = m.fins := List.take_of_length_le (by rw [HF.out]; omega)
         rw [hend] at hown
         clear hend o2 of2 hpn
         have hfl2 := partFins_len K m.fins
         rw [HF.out] at hfl2
         have o0 := bO.cell 0
         have o1 := bO.cell 1
         have o2 := bO.cell 2
         simp at o0 o1 o2
         have q0 := bR.cell 0
         have q1 := bR.cell 1
         have q2 := bR.cell 2
         have qf := bR.frozen 0
         have qf1 := bR.frozen 1
         have qf2 := bR.frozen 2
         simp at q0 q1 q2
         have hs3 := bR.lt
         obtain ⟨Aa, ca, rfl, ha5, ha6⟩ := own_value hownA
         obtain ⟨Af, cf2, rfl, hf5, hf6⟩ := own_value hown
         have hl1 : w.heap.size + 1 < w.heap.size + 4 := by omega
         have HOA := hide hownA
         have HOF := hide hown
         have hjj : m.n.toNat = j := by rw [HS.out]; rfl
         have HJJ := hide hjj
         clear hownA hown hjj
         go_wp2
         rw [HRES.out]
         exact bodyPost_ret (v := .agg #[.int .i64 (cntK K j : Int), .slice Aa (partArcs K m.arcs).length ca, .slice Af (partFins K m.fins).length cf2]) (by simp [results, Try.results84, go_sem, q0, q1, q2, qf, qf1, qf2, hs3]) rfl
          ⟨_, rfl, (by
           have hcnt : ((cntK K j : Nat) : Int) = (partM m K).n := by unfold partM; rw [HJJ.out]
           rw [hcnt]
           exact MachNew.of_own (m := partM m K) (own_set3 HOA.out hl1 hl1 hl1 _ _ _) (own_set3 HOF.out hl1 hl1 hl1 _ _ _) (by omega) (by omega) ha5 hf5 (by show (partArcs K m.arcs).length ≤ big; simp only [big]; omega) (by show (partFins K m.fins).length ≤ big; simp only [big]; omega)), (by go_grown : Below w.heap.size w _)⟩
end Go.Proofs.Ytopakcbhodnipaa
/- Text PlR. -/
namespace Gm
def closedR (back : Bool) (l : List Arc) (T : Nat → Bool) : Prop := ∀ a ∈ l, T (akey back a).toNat = true → T (aval back a).toNat = true
structure RInv (back : Bool) (l : List Arc) (I : List Int) (S r : Nat) (T : Nat → Bool) : Prop where
 sound : ∀ s, s < S → T s = true → RS back l I (s : Int)
 base : ∀ x ∈ I, T x.toNat = true
 prog : closedR back l T ∨ r + 1 ≤ cntK T S
structure NInv (back : Bool) (l : List Arc) (I : List Int) (S : Nat) (T0 : Nat → Bool) (q : Nat) (T : Nat → Bool) : Prop where
 sound : ∀ s, s < S → T s = true → RS back l I (s : Int)
 mono : ∀ s, T0 s = true → T s = true
 did : ∀ a ∈ l.take q, T0 (akey back a).toNat = true → T (aval back a).toNat = true
 same : closedR back l T0 → ∀ s, T s = T0 s
theorem cntK_mono {T T' : Nat → Bool} (h : ∀ s, T s = true → T' s = true) : ∀ S, cntK T S ≤ cntK T' S
 | 0 => Nat.le_refl _
 | S + 1 => by
  have := cntK_mono h S
  simp only [cntK]
  by_cases e : T S = true
  · rw [if_pos e, if_pos (h S e)]; omega
  · rw [if_neg e]; omega
theorem cntK_lt {T T' : Nat → Bool} (h : ∀ s, T s = true → T' s = true) {x : Nat} (h1 : T x = false) (h2 : T' x = true) : ∀ S, x < S → cntK T S + 1 ≤ cntK T' S
 | 0, hx => by omega
 | S + 1, hx => by
  have hm := cntK_mono h S
  simp only [cntK]
  by_cases e : x = S
  · subst e; rw [if_pos h2, h1]; simp; omega
  ·
   have := cntK_lt h h1 h2 S (by omega)
   by_cases e : T S = true
   · rw [if_pos e, if_pos (h S e)]; omega
   · rw [if_neg e]; omega
theorem NInv.start {back : Bool} {l : List Arc} {I : List Int} {S r : Nat} {T : Nat → Bool} (h : RInv back l I S r T) : NInv back l I S T 0 T :=
 ⟨h.sound, fun _ h => h, fun _ h => by simp at h, fun _ _ => rfl⟩
theorem NInv.step {back : Bool} {l : List Arc} {I : List Int} {S q : Nat} {T0 T : Nat → Bool} {a : Arc} (hl : inRange l S) (h : NInv back l I S T0 q T) (ht : l.take (q + 1) = l.take q ++ [a]) (ha : a ∈ l)
 (hk : T (akey back a).toNat = true) : NInv back l I S T0 (q + 1) (upd T (aval back a).toNat) := by
 have hka := akey_rng (back := back) hl ha
 have hva := aval_rng (back := back) hl ha
 have hsk : RS back l I (akey back a) := by
  have := h.sound (akey back a).toNat (by omega) hk
  rwa [show (((akey back a).toNat : Nat) : Int) = akey back a by omega] at this
 refine ⟨fun s hs hse => ?_, fun s hs => upd_of (h.mono s hs), fun b hb hbk => ?_, fun hc s => ?_⟩
 ·
  unfold upd at hse
  split at hse
  ·
   rename_i e
   rw [e, show (((aval back a).toNat : Nat) : Int) = aval back a by omega]
   exact .step hsk ha rfl rfl
  · exact h.sound s hs hse
 ·
  rw [ht] at hb
  rcases List.mem_append.1 hb with hb | hb
  · exact upd_of (h.did b hb hbk)
  · rw [List.mem_singleton.1 hb]; exact upd_self _ _
 ·
  unfold upd
  split
  ·
   rename_i e
   rw [e]
   rw [h.same hc] at hk
   exact (hc a ha hk).symm
  · exact h.same hc s
theorem NInv.skip {back : Bool} {l : List Arc} {I : List Int} {S q : Nat} {T0 T : Nat → Bool} {a : Arc} (h : NInv back l I S T0 q T) (ht : l.take (q + 1) = l.take q ++ [a])
 (hk : T (akey back a).toNat = false) : NInv back l I S T0 (q + 1) T := by
 refine ⟨h.sound, h.mono, fun b hb hbk => ?_, h.same⟩
 rw [ht] at hb
 rcases List.mem_append.1 hb with hb | hb
 · exact h.did b hb hbk
 ·
  rw [List.mem_singleton.1 hb] at hbk
  rw [h.mono _ hbk] at hk; cases hk
theorem RInv.next {back : Bool} {l : List Arc} {I : List Int} {S r q : Nat} {T0 T : Nat → Bool} (hl : inRange l S) (h : RInv back l I S r T0) (hn : NInv back l I S T0 q T) (hq : l.take q = l) : RInv back l I S (r + 1) T := by
 refine ⟨hn.sound, fun x hx => hn.mono _ (h.base x hx), ?_⟩
 by_cases hc : closedR back l T0
 ·
  left
  intro a ha hk
  rw [hn.same hc] at hk ⊢
  exact hc a ha hk
 ·
  right
  have hp := h.prog.resolve_left hc
  have : ∃ a, a ∈ l ∧ T0 (akey back a).toNat = true ∧ T0 (aval back a).toNat = false := by
   apply Classical.byContradiction
   intro hne
   refine hc fun a ha hk => ?_
   cases e : T0 (aval back a).toNat
   · exact absurd ⟨a, ha, hk, e⟩ hne
   · rfl
  obtain ⟨a, ha, h1, h2⟩ := this
  have hva := aval_rng (back := back) hl ha
  have := cntK_lt hn.mono h2 (hn.did a (by rw [hq]; exact ha) h1) S (by omega)
  omega
theorem RInv.done {back : Bool} {l : List Arc} {I : List Int} {S : Nat} {T : Nat → Bool} (hl : inRange l S) (hI : ∀ x ∈ I, 0 ≤ x ∧ x < (S : Int)) (h : RInv back l I S S T) : ∀ s, s < S → (T s = true ↔ RS back l I (s : Int)) := by
 have hc : closedR back l T := h.prog.resolve_right (by have := cntK_le T S; omega)
 have key : ∀ t, RS back l I t → 0 ≤ t ∧ t < (S : Int) ∧ T t.toNat = true := by
  intro t ht
  induction ht with
  | base hs => exact ⟨(hI _ hs).1, (hI _ hs).2, h.base _ hs⟩
  | @step s t a hs ha hk hv ih =>
   have hr := aval_rng (back := back) hl ha
   have := hc a ha (by rw [hk]; exact ih.2.2)
   rw [hv] at hr this
   exact ⟨hr.1, hr.2, this⟩
 intro s hs
 refine ⟨h.sound s hs, fun hr => ?_⟩
 have := (key _ hr).2.2
 simpa using this
theorem RInv.start {back : Bool} {l : List Arc} {I : List Int} {S : Nat} {T : Nat → Bool} (hl : inRange l S) (h : ∀ s, s < S → (T s = true ↔ (s : Int) ∈ I)) (hI : ∀ x ∈ I, 0 ≤ x ∧ x < (S : Int)) : RInv back l I S 0 T := by
 refine ⟨fun s hs ht => .base ((h s hs).1 ht), fun x hx => ?_, ?_⟩
 ·
  have := hI x hx
  exact (h x.toNat (by omega)).2 (by rw [show ((x.toNat : Nat) : Int) = x by omega]; exact hx)
 ·
  rcases Nat.lt_or_ge 0 (cntK T S) with h0 | h0
  · exact .inr h0
  ·
   left
   intro a ha hk
   have hka := akey_rng (back := back) hl ha
   have := cntK_lt (T := fun _ => false) (T' := T) (fun s h => by cases h) (x := (akey back a).toNat) rfl hk S (by omega)
   omega
end Gm
/- Text Trd. -/
namespace Go.Proofs.Ytopakcbhodnipaa
open Go.RowKit Gm
set_option linter.unusedSimpArgs false
theorem rstart0 {l : List Arc} {S : Nat} (hl : inRange l S) : RInv false l [0] S 0 (upd (fun _ => false) 0) := by
 rcases Nat.lt_or_ge 0 S with h0 | h0
 ·
  refine RInv.start hl (fun s _ => ?_) (by simp; omega)
  unfold upd
  constructor
  ·
   intro h; split at h
   · rename_i e; subst e; simp
   · cases h
  · intro h; simp at h; rw [if_pos h]
 ·
  refine ⟨fun s hs => by omega, by simp [upd], .inl fun a ha => ?_⟩
  have := hl a ha
  omega
theorem nF_step {l : List Arc} {I : List Int} {S q : Nat} {T0 T : Nat → Bool} {a : Arc} (hl : inRange l S) (h : Hid (NInv false l I S T0 q T)) (ht : Hid (l.take (q + 1) = l.take q ++ [a])) (ha : a ∈ l) (hk : T a.f.toNat = true) : Hid (NInv false l I S T0 (q + 1) (upd T a.t.toNat)) :=
 hide (NInv.step hl h.out ht.out ha hk)
theorem nF_skip {l : List Arc} {I : List Int} {S q : Nat} {T0 T : Nat → Bool} {a : Arc} (h : Hid (NInv false l I S T0 q T)) (ht : Hid (l.take (q + 1) = l.take q ++ [a])) (hk : T a.f.toNat = false) : Hid (NInv false l I S T0 (q + 1) T) :=
 hide (NInv.skip h.out ht.out hk)
theorem nB_step {l : List Arc} {I : List Int} {S q : Nat} {T0 T : Nat → Bool} {a : Arc} (hl : inRange l S) (h : Hid (NInv true l I S T0 q T)) (ht : Hid (l.take (q + 1) = l.take q ++ [a])) (ha : a ∈ l) (hk : T a.t.toNat = true) : Hid (NInv true l I S T0 (q + 1) (upd T a.f.toNat)) :=
 hide (NInv.step hl h.out ht.out ha hk)
theorem nB_skip {l : List Arc} {I : List Int} {S q : Nat} {T0 T : Nat → Bool} {a : Arc} (h : Hid (NInv true l I S T0 q T)) (ht : Hid (l.take (q + 1) = l.take q ++ [a])) (hk : T a.t.toNat = false) : Hid (NInv true l I S T0 (q + 1) T) :=
 hide (NInv.skip h.out ht.out hk)
theorem and_step {T E : Nat → Bool} {j : Nat} {x : Bool} (h : (T j && E j) = x) (i : Nat) : (if i = j then Value.bool x else .bool (if i < j then T i && E i else T i)) = .bool (if i < j + 1 then T i && E i else T i) := by
 by_cases e : i = j
 · subst e; rw [if_pos rfl, if_pos (by omega), h]
 ·
  rw [if_neg e]
  by_cases e2 : i < j
  · rw [if_pos e2, if_pos (by omega)]
  · rw [if_neg e2, if_neg (by omega)]
theorem two_made (w : World) (X R : Array Value) (S : Nat) (W : World) (hW : W = ((((w.alloc (Obj.cells X 28)).alloc (Obj.cells R 28)).alloc (Obj.cells (madeCells #[.bool false] S) 4)).alloc (Obj.cells (madeCells #[.bool false] S) 4)).drew) :
 W.rowIs (w.heap.size + 1 + 1) 4 S (fun _ => .bool false) ∧ W.rowIs (w.heap.size + 1 + 1 + 1) 4 S (fun _ => .bool false) ∧ Blk W w.heap.size 28 X ∧ Blk W (w.heap.size + 1) 28 R := by
 subst hW
 refine ⟨?_, ?_, ?_, ?_⟩
 ·
  have e : ((w.alloc (Obj.cells X 28)).alloc (Obj.cells R 28)).heap.size = w.heap.size + 1 + 1 := by simp
  rw [← e]
  exact (World.rowIs_made _ (.bool false) S 4).alloc _
 ·
  have e : (((w.alloc (Obj.cells X 28)).alloc (Obj.cells R 28)).alloc (Obj.cells (madeCells #[.bool false] S) 4)).heap.size = w.heap.size + 1 + 1 + 1 := by simp
  rw [← e]
  exact World.rowIs_made _ (.bool false) S 4
 · exact (((Blk.at_ rfl).alloc _).alloc _).alloc _
 · exact ((Blk.at_ (by simp)).alloc _).alloc _
structure Sz (m : Mach) : Prop where
 n0 : 0 ≤ m.n
 n4 : m.n ≤ 100000
 len : m.arcs.length ≤ 1000000
 finLen : m.fins.length ≤ 1000000
 inRange : inRange m.arcs m.n.toNat
 finRange : ∀ x ∈ m.fins, 0 ≤ x.s ∧ x.s < (m.n.toNat : Int)
set_option maxRecDepth 100000 in
set_option maxHeartbeats 4000000 in
theorem trimmed_gen (v : Value) (m : Mach) (w : World) (B : Nat) (hB : B ≤ w.heap.size) (h : MachAt w B v m) (val : Sz m) :
 Calls Try.prog 49 #[v] w fun e w' => ∃ v1, e = .returned v1 ∧ MachNew w.heap.size w' v1 (trimOf m) ∧ Below w.heap.size w w' := by
 have H0 := hide h
 obtain ⟨A, AF, n, c, nf, cf, rfl, HN, HF, hnc, hnfc, hnb, hnfb, hA, hF⟩ := h
 have hfl := val.finLen
 rw [HF.out] at hfl
 have hl := val.len
 rw [HN.out] at hl
 obtain ⟨S, hS⟩ : ∃ S : Nat, m.n = (S : Int) := ⟨m.n.toNat, by have := val.n0; omega⟩
 have hS4 : S ≤ 100000 := by have := val.n4; omega
 have VAL := hide val
 have HS := hide hS
 have hrng := val.inRange
 have hfr := val.finRange
 rw [hS] at hrng hfr H0
 rw [hS]
 have HRNG := hide hrng
 have HFR := hide hfr
 clear hS hrng hfr hnb hnfb val
 have hmk := fun (W : World) => run_make_row' (P := Try.prog) 24 4 (.bool false) 1 Try.underlying24 bool_info rfl .i64 .i64 S (by omega) (by omega) W
 go_enter Try.func49, Try.ntmps49
 go_upto_region 1 with fail
 go_cut [3, 4] from 3 to 15 (fun s3 s4 wx => ∃ gT gB, s3 = .slice (some ⟨gT, 0, none⟩) S S ∧ s4 = .slice (some ⟨gB, 0, none⟩) S S ∧ gT ≠ gB ∧ w.heap.size + 1 < gT ∧ w.heap.size + 1 < gB ∧ wx.rowIs gT 4 S (fun _ => .bool false) ∧ wx.rowIs gB 4 S (fun _ => .bool false) ∧
  Blk wx w.heap.size 28 #[.int .i64 (S : Int), .slice A n c, .slice AF nf cf] ∧ Blk wx (w.heap.size + 1) 28 #[.int .i64 0, .slice none 0 0, .slice none 0 0] ∧ Below w.heap.size w wx)
 case first =>
  go_wp2
  go_region
  all_goals clear hmk
  all_goals go_wp2
  all_goals go_meet
  · exact ⟨_, _, rfl, rfl, by simp, by simp, by simp, (two_made w _ _ S _ rfl).1, (two_made w _ _ S _ rfl).2.1, (two_made w _ _ S _ rfl).2.2.1, (two_made w _ _ S _ rfl).2.2.2, by go_grown⟩
  · exact ⟨_, _, rfl, rfl, by simp, by simp, by simp, (two_made w _ _ S _ rfl).2.1, (two_made w _ _ S _ rfl).1, (two_made w _ _ S _ rfl).2.2.1, (two_made w _ _ S _ rfl).2.2.2, by go_grown⟩
 case rest =>
  obtain ⟨gT, gB, rfl, rfl, hne, hgT, hgB, rT, rB, bX, bR, hb⟩ := hcut
  clear hmk
  have x0 := bX.cell 0
  simp at x0
  have xl := bX.lt
  go_upto_if 18 with fail
  go_cut [] from 19 to 20 (fun wx => wx.rowIs gT 4 S (fun i => .bool (upd (fun _ => false) 0 i)) ∧ wx.rowIs gB 4 S (fun _ => .bool false) ∧
   Blk wx w.heap.size 28 #[.int .i64 (S : Int), .slice A n c, .slice AF nf cf] ∧ Blk wx (w.heap.size + 1) 28 #[.int .i64 0, .slice none 0 0, .slice none 0 0] ∧ Below w.heap.size w wx)
  case first =>
   rcases Nat.lt_or_ge 0 S with h0 | h0
   ·
    have t0 := rT.cell h0
    have tf := rT.frozen 0
    have tl := rT.lt
    have hz : decide (0 < S) = true := by simp [h0]
    go_wp2
    go_meet
    exact ⟨(rT.set 0 (.bool true)).congr (fun i _ => by unfold upd; split <;> simp), rB.setOther (by simp; omega) _, bX.far (by simp; omega) _, bR.far (by simp; omega) _, hb.setCell (by simp; omega) _⟩
   ·
    have hz : decide (0 < S) = false := by simp; omega
    go_wp2
    go_meet
    exact ⟨rT.congr (fun i hi => by omega), rB, bX, bR, hb⟩
  case rest =>
   clear x0 xl rT rB bX bR hb
   obtain ⟨rT, rB, bX, bR, hb⟩ := hcut
   have x2 := bX.cell 2
   simp at x2
   have xl := bX.lt
   go_wp2
   clear x2 xl
   go_loopw [24] (fun i wr => ∃ (k : Nat) (E : Nat → Bool), k ≤ nf ∧ i = .int .i64 k ∧ wr.rowIs gT 4 S (fun i => .bool (upd (fun _ => false) 0 i)) ∧ wr.rowIs gB 4 S (fun i => .bool (E i)) ∧ (∀ s, E s = true ↔ (s : Int) ∈ finStates (m.fins.take k)) ∧
    Blk wr w.heap.size 28 #[.int .i64 (S : Int), .slice A n c, .slice AF nf cf] ∧ Blk wr (w.heap.size + 1) 28 #[.int .i64 0, .slice none 0 0, .slice none 0 0] ∧ Below w.heap.size w wr) (fun i _ => nf - (intOf i).toNat)
   case atStart => exact ⟨0, fun _ => false, by omega, rfl, rT, rB, by simp [finStates], bX, bR, hb⟩
   case round =>
    clear rT rB bX bR hb
    obtain ⟨k, E, hk, rfl, rT, rB, hE, bX, bR, hb⟩ := hrel
    have hEE := hide hE
    clear hE
    by_cases hkn : k < nf
    ·
     obtain ⟨b, off, x, rfl, hbB, c0, c1, HA⟩ := fins_at (hF.below hb hB) hkn
     have hbw' : b < wr.heap.size := by have := hb.size; omega
     obtain ⟨r0, r1⟩ := HFR.out x (getDF_mem (by rw [HF.out]; exact hkn) HA.out)
     simp at r1
     have t0 := rB.cell (show x.s.toNat < S by omega)
     have tf := rB.frozen x.s.toNat
     have tl := rB.lt
     have HTP := hide (takeF_push (by rw [HF.out]; exact hkn) HA.out)
     go_wp2
     go_roundw
     case rel => exact ⟨k + 1, upd E x.s.toNat, by omega, by go_num, (rT.setOther (by simp; omega) _).alloc _, ((rB.set x.s.toNat (.bool true)).congr (fun i _ => by unfold upd; split <;> rfl)).alloc _,
      fun s => by
       rw [HTP.out, finStates_snoc, List.mem_append, ← hEE.out s]
       unfold upd
       constructor
       ·
        intro h
        split at h
        · right; simp; omega
        · exact .inl h
       ·
        intro h
        split
        · rfl
        ·
         rcases h with h | h
         · exact h
         · simp at h; omega,
      (bX.far (by simp; omega) _).alloc _, (bR.far (by simp; omega) _).alloc _, (hb.setCell (by simp; omega) _).alloc (by simpa using hb.size) _⟩
     case measure => simp [intOf]; omega
    ·
     obtain rfl : k = nf := by omega
     have hend : m.fins.take k = m.fins := List.take_of_length_le (by rw [HF.out]; omega)
     have hIr : ∀ x ∈ finStates m.fins, 0 ≤ x ∧ x < (S : Int) := by
      intro x hx
      obtain ⟨y, hy, rfl⟩ := List.mem_map.1 hx
      simpa using HFR.out y hy
     have hrng : inRange m.arcs S := by simpa using HRNG.out
     have RE := hide (RInv.start (back := true) (l := m.arcs) (I := finStates m.fins) (S := S) (T := E) hrng (fun s _ => by rw [hEE.out s, hend]) hIr)
     have HIR := hide hIr
     have HRN := hide hrng
     have RT := hide (rstart0 hrng)
     clear hend hIr hrng hEE
     have x0 := bX.cell 0
     simp at x0
     have xl := bX.lt
     go_wp2
     clear x0 xl
     go_loopw [35] (fun i wr => ∃ (r : Nat) (T E : Nat → Bool), r ≤ S ∧ i = .int .i64 r ∧ wr.rowIs gT 4 S (fun i => .bool (T i)) ∧ wr.rowIs gB 4 S (fun i => .bool (E i)) ∧ Hid (RInv false m.arcs [0] S r T) ∧ Hid (RInv true m.arcs (finStates m.fins) S r E) ∧
      Blk wr w.heap.size 28 #[.int .i64 (S : Int), .slice A n c, .slice AF k cf] ∧ Blk wr (w.heap.size + 1) 28 #[.int .i64 0, .slice none 0 0, .slice none 0 0] ∧ Below w.heap.size w wr) (fun i _ => S - (intOf i).toNat)
     case atStart => exact ⟨0, _, E, by omega, rfl, rT, rB, RT, RE, bX, bR, hb⟩
     case round =>
      clear rT rB bX bR hb RT RE
      obtain ⟨r, T, E, hr, rfl, rT, rB, RT, RE, bX, bR, hb⟩ := hrel
      by_cases hrS : r < S
      ·
       have x1 := bX.cell 1
       simp at x1
       have xl := bX.lt
       go_wp2
       clear x1 xl
       go_loopw [40] (fun i wr => ∃ (q : Nat) (T' E' : Nat → Bool), q ≤ n ∧ i = .int .i64 q ∧ wr.rowIs gT 4 S (fun i => .bool (T' i)) ∧ wr.rowIs gB 4 S (fun i => .bool (E' i)) ∧ Hid (NInv false m.arcs [0] S T q T') ∧ Hid (NInv true m.arcs (finStates m.fins) S E q E') ∧
        Blk wr w.heap.size 28 #[.int .i64 (S : Int), .slice A n c, .slice AF k cf] ∧ Blk wr (w.heap.size + 1) 28 #[.int .i64 0, .slice none 0 0, .slice none 0 0] ∧ Below w.heap.size w wr) (fun i _ => n - (intOf i).toNat)
       case atStart => exact ⟨0, T, E, by omega, rfl, rT, rB, hide (NInv.start RT.out), hide (NInv.start RE.out), bX, bR, hb⟩
       case round =>
        clear rT rB bX bR hb
        obtain ⟨q, T', E', hq, rfl, rT, rB, NT, NE, bX, bR, hb⟩ := hrel
        by_cases hqn : q < n
        ·
         obtain ⟨b, off, a, rfl, hbB, c0, c1, c2, c3, c4, HA⟩ := arcs_at (hA.below hb hB) hqn
         have hbw' : b < wr.heap.size := by have := hb.size; omega
         have ham := getD_mem (by rw [HN.out]; exact hqn) HA.out
         obtain ⟨r0, r1, r2, r3⟩ := HRN.out a ham
         have HTP := hide (take_push (by rw [HN.out]; exact hqn) HA.out)
         have t1 := rT.cell (show a.f.toNat < S by omega)
         have t2 := rT.cell (show a.t.toNat < S by omega)
         have e1 := rB.cell (show a.t.toNat < S by omega)
         have e2 := rB.cell (show a.f.toNat < S by omega)
         have tf := rT.frozen a.t.toNat
         have ef := rB.frozen a.f.toNat
         have tl := rT.lt
         have el := rB.lt
         have hAM := hide ham
         clear ham
         cases h1 : T' a.f.toNat
         ·
          rw [h1] at t1
          cases h2 : E' a.t.toNat
          ·
           rw [h2] at e1
           go_wp2
           go_roundw
           case rel => exact ⟨q + 1, T', E', by omega, by go_num, rT.alloc _, rB.alloc _, nF_skip NT HTP h1, nB_skip NE HTP h2, bX.alloc _, bR.alloc _, hb.alloc hb.size _⟩
           case measure => simp [intOf]; omega
          ·
           rw [h2] at e1
           go_wp2
           go_roundw
           case rel => exact ⟨q + 1, T', upd E' a.f.toNat, by omega, by go_num, (rT.setOther (by simp; omega) _).alloc _, ((rB.set a.f.toNat (.bool true)).congr (fun i _ => upd_val _ _ _)).alloc _, nF_skip NT HTP h1, nB_step HRN.out NE HTP hAM.out h2,
            (bX.far (by simp; omega) _).alloc _, (bR.far (by simp; omega) _).alloc _, (hb.setCell (by simp; omega) _).alloc (by simpa using hb.size) _⟩
           case measure => simp [intOf]; omega
         ·
          rw [h1] at t1
          cases h2 : E' a.t.toNat
          ·
           rw [h2] at e1
           go_wp2
           go_roundw
           case rel => exact ⟨q + 1, upd T' a.t.toNat, E', by omega, by go_num, ((rT.set a.t.toNat (.bool true)).congr (fun i _ => upd_val _ _ _)).alloc _, (rB.setOther (by simp; omega) _).alloc _, nF_step HRN.out NT HTP hAM.out h1, nB_skip NE HTP h2,
            (bX.far (by simp; omega) _).alloc _, (bR.far (by simp; omega) _).alloc _, (hb.setCell (by simp; omega) _).alloc (by simpa using hb.size) _⟩
           case measure => simp [intOf]; omega
          ·
           rw [h2] at e1
           go_wp2
           go_roundw
           case rel => exact ⟨q + 1, upd T' a.t.toNat, upd E' a.f.toNat, by omega, by go_num, (((rT.set a.t.toNat (.bool true)).congr (fun i _ => upd_val _ _ _)).setOther (by simp; omega) _).alloc _,
            (((rB.setOther (by simp; omega) _).set a.f.toNat (.bool true)).congr (fun i _ => upd_val _ _ _)).alloc _, nF_step HRN.out NT HTP hAM.out h1, nB_step HRN.out NE HTP hAM.out h2,
            ((bX.far (by simp; omega) _).far (by simp; omega) _).alloc _, ((bR.far (by simp; omega) _).far (by simp; omega) _).alloc _, ((hb.setCell (by simp; omega) _).setCell (by simp; omega) _).alloc (by simpa using hb.size) _⟩
           case measure => simp [intOf]; omega
        ·
         obtain rfl : q = n := by omega
         have hend : Hid (m.arcs.take q = m.arcs) := hide (List.take_of_length_le (by rw [HN.out]; omega))
         go_wp2
         go_roundw
         case rel => exact ⟨r + 1, T', E', by omega, by go_num, rT, rB, hide (RInv.next HRN.out RT.out NT.out hend.out), hide (RInv.next HRN.out RE.out NE.out hend.out), bX, bR, hb⟩
         case measure => simp [intOf]; omega
      ·
       obtain rfl : r = S := by omega
       go_wp2
       go_loopw [66] (fun i wr => ∃ j : Nat, j ≤ r ∧ i = .int .i64 j ∧ wr.rowIs gT 4 r (fun i => .bool (if i < j then T i && E i else T i)) ∧ wr.rowIs gB 4 r (fun i => .bool (E i)) ∧
        Blk wr w.heap.size 28 #[.int .i64 (r : Int), .slice A n c, .slice AF k cf] ∧ Blk wr (w.heap.size + 1) 28 #[.int .i64 0, .slice none 0 0, .slice none 0 0] ∧ Below w.heap.size w wr) (fun i _ => r - (intOf i).toNat)
       case atStart => exact ⟨0, by omega, rfl, rT.congr (fun i _ => by rw [if_neg (by omega)]), rB, bX, bR, hb⟩
       case round =>
        clear rT rB bX bR hb
        obtain ⟨j, hj, rfl, rT, rB, bX, bR, hb⟩ := hrel
        by_cases hjS : j < r
        ·
         have t1 := rT.cell hjS
         have e1 := rB.cell hjS
         have tf := rT.frozen j
         have tl := rT.lt
         have el := rB.lt
         rw [if_neg (by omega)] at t1
         cases h1 : T j
         ·
          rw [h1] at t1
          have hx : (T j && E j) = false := by rw [h1]; rfl
          have HX := hide hx
          clear hx
          go_wp2
          go_roundw
          case rel => exact ⟨j + 1, by omega, by go_num, (rT.set j (.bool false)).congr (fun i _ => and_step HX.out i), rB.setOther (by simp; omega) _, bX.far (by simp; omega) _, bR.far (by simp; omega) _, hb.setCell (by simp; omega) _⟩
          case measure => simp [intOf]; omega
         ·
          rw [h1] at t1
          have hx : (T j && E j) = E j := by rw [h1]; rfl
          have HX := hide hx
          clear hx
          go_wp2
          go_roundw
          case rel => exact ⟨j + 1, by omega, by go_num, (rT.set j (.bool (E j))).congr (fun i _ => and_step HX.out i), rB.setOther (by simp; omega) _, bX.far (by simp; omega) _, bR.far (by simp; omega) _, hb.setCell (by simp; omega) _⟩
          case measure => simp [intOf]; omega
        ·
         obtain rfl : j = r := by omega
         obtain ⟨K, hKd⟩ : ∃ K : Nat → Bool, K = fun s => T s && E s := ⟨_, rfl⟩
         have hK : ∀ s, s < j → K s = keepK m s := fun s hs => by
          have hT := RT.out.done HRN.out (by simp; omega) s hs
          have hE := RE.out.done HRN.out HIR.out s hs
          rw [hKd, Bool.eq_iff_iff, keepK_iff, Bool.and_eq_true, hT, hE]
         have hres : partOf m K = trimOf m := by
          unfold partOf trimOf
          by_cases hn : m.n = 0
          · rw [if_pos (.inl hn), if_pos (.inl hn)]
          ·
           have hj0 : 0 < j := by have := HS.out; omega
           rw [hK 0 hj0]
           split
           · rfl
           · exact part_congr VAL.out.inRange VAL.out.finRange (fun i hi => hK i (by rw [HS.out] at hi; simpa using hi))
         have HRES := hide hres
         have rT := rT.congr (g := fun i => .bool (K i)) (fun i hi => by rw [if_pos hi, hKd])
         clear hres hK hKd
         have x0 := bX.cell 0
         have x1 := bX.cell 1
         have x2 := bX.cell 2
         simp at x0 x1 x2
         have xl := bX.lt
         go_wp2_with fail
         refine (part_any _ m _ B j gT K (by have := hb.size; omega) (H0.out.below hb hB) HS.out hS4 (by rw [HN.out]; exact hl) (by rw [HF.out]; exact hfl) HRN.out (by simpa using HFR.out) rT).mono ?_
         rintro e w2 ⟨v1, rfl, hM, hb2⟩
         have HM := hide hM
         obtain ⟨Av, AFv, nv, cv, nfv, cfv, rfl, _⟩ := hM.at_
         have bR2 := bR.below hb2 bR.lt
         have hbw := hb.trans (hb2.mono hb.size)
         have hrl := bR.lt
         clear hM hb2 x0 x1 x2 xl rT rB bX bR
         have q0 := bR2.cell 0
         have q1 := bR2.cell 1
         have q2 := bR2.cell 2
         have qf := bR2.frozen 0
         have qf1 := bR2.frozen 1
         have qf2 := bR2.frozen 2
         simp at q0 q1 q2
         have hs3 := bR2.lt
         go_wp2
         exact bodyPost_ret (v := .agg #[.int .i64 (partOf m K).n, .slice Av nv cv, .slice AFv nfv cfv]) (by simp [results, Try.results49, go_sem, q0, q1, q2, qf, qf1, qf2, hs3]) rfl
          ⟨_, rfl, HRES.out ▸ (((HM.out.set (by simp; omega) _).set (by simp; omega) _).set (by simp; omega) _).mono (by have := hb.size; omega), (by go_grown : Below w.heap.size w _)⟩
end Go.Proofs.Ytopakcbhodnipaa
/- Text PlD. -/
namespace Gm
theorem cntK_onto {K : Nat → Bool} : ∀ (S i : Nat), i < cntK K S → ∃ s, s < S ∧ K s = true ∧ cntK K s = i
 | 0, i, h => by simp [cntK] at h
 | S + 1, i, h => by
  rcases Nat.lt_or_ge i (cntK K S) with h1 | h1
  ·
   obtain ⟨s, hs, h2, h3⟩ := cntK_onto S i h1
   exact ⟨s, by omega, h2, h3⟩
  ·
   simp only [cntK] at h
   cases hk : K S
   · rw [hk] at h; simp at h; omega
   · rw [hk] at h; simp at h; exact ⟨S, by omega, hk, by omega⟩
/-! the order of arcs -/
section
variable {m : Mach} (h : Valid m)
include h
end
end Gm
/- Text HpA. -/
namespace Gm
open Go Go.RowKit
theorem own_drew {w : World} {base n s : Nat} {e : TypeId} {v : Value} {xs : List Value} (h : w.ownsRow base e s v n xs) : w.drew.ownsRow base e s v n xs := h
end Gm
namespace Go.Proofs.Ytopakcbhodnipaa
open Go.RowKit Gm
set_option linter.unusedSimpArgs false
set_option linter.unusedVariables false
end Go.Proofs.Ytopakcbhodnipaa
/- Text SrP. -/
namespace Gm
set_option linter.unusedSimpArgs false
set_option linter.unusedVariables false
def likeA (a b : Arc) : Bool := decide (a.f = b.f) && decide (a.i = b.i) && decide (a.o = b.o) && decide (a.t = b.t)
end Gm
/- Text SdP. -/
namespace Gm
set_option linter.unusedSimpArgs false
set_option linter.unusedVariables false
def swA (l : List Arc) (k : Nat) : List Arc := (l.set (k + 1) (l.getD k dA)).set k (l.getD (k + 1) dA)
theorem swA_perm : ∀ (l : List Arc) (k : Nat), k + 1 < l.length → (swA l k).Perm l
 | [], k, h => by simp at h
 | [a], k, h => by simp at h
 | a :: b :: l, 0, _ => by
  unfold swA
  simp only [Nat.zero_add, List.set_cons_succ, List.set_cons_zero, List.getD_cons_zero, List.getD_cons_succ]
  exact .swap ..
 | a :: b :: l, k + 1, h => by
  have ih := swA_perm (b :: l) k (by simpa using h)
  unfold swA at ih ⊢
  simp only [List.set_cons_succ, List.getD_cons_succ] at ih ⊢
  exact .cons _ ih
theorem swA_getD (l : List Arc) (k m : Nat) (h : k + 1 < l.length) : (swA l k).getD m dA = if m = k then l.getD (k + 1) dA else if m = k + 1 then l.getD k dA else l.getD m dA := by
 unfold swA
 rw [List.getD_eq_getElem?_getD, List.getElem?_set]
 by_cases e1 : k = m
 ·
  subst e1
  rw [if_pos rfl, if_pos (by simp; omega), if_pos rfl]; rfl
 ·
  rw [if_neg e1, if_neg (fun e => e1 e.symm), List.getElem?_set]
  by_cases e2 : k + 1 = m
  ·
   subst e2
   rw [if_pos rfl, if_pos h, if_pos rfl]; rfl
  · rw [if_neg e2, if_neg (fun e => e2 e.symm), List.getD_eq_getElem?_getD]
theorem arcLess_le {a b c : Arc} (h1 : arcLess a b = true) (h2 : arcLess c b = false) : arcLess a c = true := by
 rcases arcLess_total b c with h | h | h
 · exact arcLess_trans h1 h
 · rw [← h]; exact h1
 · rw [h2] at h; cases h
def SortTo (l : List Arc) (i : Nat) : Prop := ∀ p q, p < q → q < i → arcLess (l.getD q dA) (l.getD p dA) = false
def Ins (l : List Arc) (i j : Nat) : Prop :=
 (∀ p q, p < q → q ≤ i → p ≠ j → q ≠ j → arcLess (l.getD q dA) (l.getD p dA) = false) ∧ ∀ q, j < q → q ≤ i → arcLess (l.getD q dA) (l.getD j dA) = false
theorem ins_start {l : List Arc} {i : Nat} (h : SortTo l i) : Ins l i i := ⟨fun p q h1 h2 h3 h4 => h p q h1 (by omega), fun q h1 h2 => by omega⟩
theorem ins_step {l : List Arc} {i k : Nat} (hi : i < l.length) (hk : k + 1 ≤ i) (h : Ins l i (k + 1)) (hl : arcLess (l.getD (k + 1) dA) (l.getD k dA) = true) : Ins (swA l k) i k := by
 have hg := fun m => swA_getD l k m (by omega)
 obtain ⟨h1, h2⟩ := h
 constructor
 ·
  intro p q hpq hq hp hq'
  rw [hg, hg, if_neg hp, if_neg hq']
  by_cases e1 : q = k + 1
  ·
   rw [if_pos e1, if_neg (by omega)]
   exact h1 p k (by omega) (by omega) (by omega) (by omega)
  ·
   rw [if_neg e1]
   by_cases e2 : p = k + 1
   ·
    rw [if_pos e2]
    exact h1 k q (by omega) hq (by omega) e1
   ·
    rw [if_neg e2]
    exact h1 p q hpq hq e2 e1
 ·
  intro q hq1 hq2
  rw [hg, hg, if_neg (by omega), if_pos rfl]
  by_cases e1 : q = k + 1
  · rw [if_pos e1]; exact arcLess_asymm hl
  · rw [if_neg e1]; exact h2 q (by omega) hq2
theorem ins_end {l : List Arc} {i j : Nat} (hj : j ≤ i) (h : Ins l i j) (hl : j = 0 ∨ ∃ k, j = k + 1 ∧ arcLess (l.getD j dA) (l.getD k dA) = false) : SortTo l (i + 1) := by
 obtain ⟨h1, h2⟩ := h
 intro p q hpq hq
 by_cases e1 : p = j
 · subst e1; exact h2 q hpq (by omega)
 ·
  by_cases e2 : q = j
  ·
   subst e2
   rcases hl with hl | ⟨k, hk, hl⟩
   · omega
   ·
    by_cases e3 : p = k
    · subst e3; exact hl
    ·
     cases hc : arcLess (l.getD q dA) (l.getD p dA)
     · rfl
     ·
      have := arcLess_le hc (h1 p k (by omega) (by omega) e1 (by omega))
      rw [hl] at this; cases this
  · exact h1 p q hpq (by omega) e1 e2
theorem sort_start (l : List Arc) : SortTo l 1 := fun p q h1 h2 => by omega
theorem sort_end {l k : List Arc} {i : Nat} (h : SortTo l i) (hi : l.length ≤ i) (hp : l.Perm k) : l = srtA k := by
 refine srtA_eq ?_ hp
 unfold SortedA
 rw [List.pairwise_iff_getElem]
 intro p q hp hq hpq
 have := h p q hpq (by omega)
 simpa [List.getD, hp, hq] using this
def sameA (red : Bool) (a b : Arc) : Bool := if red then likeA a b else eqA a b
theorem sameA_eq (red : Bool) (p a : Arc) : sameA red p a = (likeA a p && (red || decide (a.w = p.w))) := by
 have hl : likeA a p = likeA p a := by
  unfold likeA
  rw [decide_eq_decide.2 (show a.f = p.f ↔ p.f = a.f from eq_comm), decide_eq_decide.2 (show a.i = p.i ↔ p.i = a.i from eq_comm), decide_eq_decide.2 (show a.o = p.o ↔ p.o = a.o from eq_comm), decide_eq_decide.2 (show a.t = p.t ↔ p.t = a.t from eq_comm)]
 cases red
 ·
  unfold sameA eqA
  rw [if_neg (by simp), Bool.false_or, hl]
  unfold likeA
  obtain ⟨pf, pt, pi, po, pw⟩ := p
  obtain ⟨af, at_, ai, ao, aw⟩ := a
  rw [Bool.eq_iff_iff]
  simp
  constructor
  · rintro ⟨rfl, rfl, rfl, rfl, rfl⟩; simp
  · rintro ⟨⟨⟨⟨rfl, rfl⟩, rfl⟩, rfl⟩, rfl⟩; simp
 ·
  unfold sameA
  rw [if_pos rfl, Bool.true_or, Bool.and_true, hl]
end Gm
/- Text SdW. -/
namespace Gm
open Go Go.RowKit
set_option linter.unusedSimpArgs false
set_option linter.unusedVariables false
theorem own_monoS {w : World} {base base' sz n : Nat} {e : TypeId} {v : Value} {xs : List Value} (h : w.ownsRow base e sz v n xs) (hb : base' ≤ base) : w.ownsRow base' e sz v n xs := by
 refine ⟨h.1, ?_⟩
 rcases h.2 with hn | ⟨g, cap, cur, h1, h2, h3⟩
 · exact .inl hn
 · exact .inr ⟨g, cap, cur, h1, Nat.le_trans hb h2, h3⟩
theorem own_swA {w : World} {base n : Nat} {e : TypeId} {l : List Arc} {g cap k j : Nat} (h : w.ownsRow base e 5 (.slice (some ⟨g, 0, none⟩) n cap) n (arcRow l)) (hn : l.length = n) (hj : j = k + 1) (hk : j < n) {x y : Arc} (hx : l.getD j dA = x) (hy : l.getD k dA = y) :
 ((((((((((w.setCell ⟨g, j * 5, none⟩ (.int .i64 y.f)).setCell ⟨g, j * 5 + 1, none⟩ (.int .i64 y.t)).setCell ⟨g, j * 5 + 2, none⟩ (.int .i64 y.i)).setCell ⟨g, j * 5 + 3, none⟩ (.int .i64 y.o)).setCell ⟨g, j * 5 + 4, none⟩ (.int .i64 y.w)).setCell ⟨g, k * 5, none⟩ (.int .i64 x.f)).setCell ⟨g, k * 5 + 1, none⟩ (.int .i64 x.t)).setCell ⟨g, k * 5 + 2, none⟩ (.int .i64 x.i)).setCell ⟨g, k * 5 + 3, none⟩ (.int .i64 x.o)).setCell ⟨g, k * 5 + 4, none⟩ (.int .i64 x.w)).ownsRow base e 5 (.slice (some ⟨g, 0, none⟩) n cap) n (arcRow (swA l k)) := by
 subst hj
 have hn0 : 0 < n := by omega
 have h1 := own_setN (own_setN (own_setN (own_setN (own_setN h rfl hn0 ((k + 1) * 5) (.int .i64 y.f)) rfl hn0 ((k + 1) * 5 + 1) (.int .i64 y.t)) rfl hn0 ((k + 1) * 5 + 2) (.int .i64 y.i)) rfl hn0 ((k + 1) * 5 + 3) (.int .i64 y.o)) rfl hn0 ((k + 1) * 5 + 4) (.int .i64 y.w)
 rw [arcRow_set l (k + 1) y (by omega)] at h1
 have h2 := own_setN (own_setN (own_setN (own_setN (own_setN h1 rfl hn0 (k * 5) (.int .i64 x.f)) rfl hn0 (k * 5 + 1) (.int .i64 x.t)) rfl hn0 (k * 5 + 2) (.int .i64 x.i)) rfl hn0 (k * 5 + 3) (.int .i64 x.o)) rfl hn0 (k * 5 + 4) (.int .i64 x.w)
 rw [arcRow_set (l.set (k + 1) y) k x (by rw [List.length_set]; omega)] at h2
 unfold swA
 rw [hx, hy]
 exact h2
end Gm
namespace Go.Proofs.Ytopakcbhodnipaa
open Go.RowKit Gm Go.Sort Go.Shelf
set_option linter.unusedSimpArgs false
set_option linter.unusedVariables false
set_option maxRecDepth 100000 in
set_option maxHeartbeats 16000000 in
theorem sorted_any (
 A : Option Addr) (n c : Nat) (red : Bool) (L : List Arc) (w : World) (B : Nat) (hB : B ≤ w.heap.size) (hl : L.length = n) (hn : n ≤ 6402) (h : Rd w B 5 A n (arcCell L)) :
 Calls Try.prog 69 #[.slice A n c, .bool red] w fun e w' => ∃ A' c', e = .returned (.slice A' (compact (sameA red) (srtA L)).length c') ∧ w'.ownsRow w.heap.size 61 5 (.slice A' (compact (sameA red) (srtA L)).length c') (compact (sameA red) (srtA L)).length (arcRow (compact (sameA red) (srtA L))) ∧ Below w.heap.size w w' := by
 have hA : A = none → n = 0 := by
  intro e
  rcases Nat.eq_zero_or_pos n with h0 | h0
  · exact h0
  ·
   obtain ⟨b, off, h1, _⟩ := h h0
   rw [e] at h1; cases h1
 have HL := hide hl
 obtain ⟨ia, ha0, ha1, ha2, ha3⟩ := info_parts arc_info
 have h' : Rd (w.alloc (Obj.cells #[] 61)) B 5 A n (arcCell L) := h.below (show Below w.heap.size w _ by go_grown) hB
 have HLESS := hide (fun a b W => less_any a b W)
 clear h hl
 obtain ⟨S, hS⟩ : ∃ S, S = srtA L := ⟨_, rfl⟩
 rw [← hS]
 have HSS := hide hS
 clear hS
 go_enter Try.func69, Try.ntmps69
 go_wp2_with (at_builtin; refine wpList_append_any _ rfl (.tmp 13) (.tmp 14) 25 rfl w.heap.size 61 ia _ 5 40 Try.underlying25 ha0 ha1 ha2 ha3 rfl (by omega) (.slice (some ⟨w.heap.size, 0, none⟩) 0 0) 0 [] rfl (World.ownsRow_made _ _ 0 (Nat.le_refl _) (by simp [maxLen]) (by simp)) B A n c (arcRow L) (arcCell L) rfl h' hA (by rw [arcRow_length, HL.out]) (fun i j hi hj => arcRow_at _ i j (by rw [HL.out]; exact hi) hj) (arcRow_one _) (by simp only [maxLen]; omega) (by omega) (by simp) ?_; intro v1 w1 hown hg _; obtain ⟨A0, c0, rfl, hkc0, _⟩ := own_value hown)
 simp only [Nat.zero_add, List.nil_append] at hown hkc0 ⊢
 have hb1 : Below w.heap.size w w1 := ((Below.refl w.heap.size w).alloc (Nat.le_refl _) _).grown hg (by simp) (by simp [Value.ownBlock])
 obtain ⟨H, hH⟩ : ∃ H, H = w.heap.size := ⟨_, rfl⟩
 rw [← hH] at hown hb1 ⊢
 have hwz : H ≤ w1.heap.size := by rw [hH]; exact hb1.size
 have hHw : H ≤ w.heap.size := by omega
 have HHW := hide hH
 have HB1 := hide hb1
 have HO1 := hide hown
 clear hown hb1 hg h' hA hH hB
 go_loopw [6] (fun iv wr => ∃ (i : Nat) (l : List Arc), 1 ≤ i ∧ i ≤ n + 1 ∧ iv = .int .i64 i ∧ Hid (Below H w wr) ∧ Hid (wr.ownsRow H 61 5 (.slice A0 n c0) n (arcRow l)) ∧ Hid (l.Perm L) ∧ Hid (SortTo l i)) (fun iv _ => n + 1 - (intOf iv).toNat)
 case atStart => exact ⟨1, L, Nat.le_refl _, by omega, rfl, HB1, HO1, hide (List.Perm.refl _), hide (sort_start _)⟩
 case round =>
  clear HB1 HO1 hwz
  obtain ⟨i, l, hi1, hin, rfl, HB2, HO2, HP, HS⟩ := hrel
  have HLL := hide (show l.length = n by rw [HP.out.length_eq, HL.out])
  by_cases hlt : i < n
  ·
   have ti : decide ((i : Int) < (n : Int)) = true := decide_eq_true (by omega)
   obtain ⟨g, cap, ev, hHg, hgw, _, _⟩ := own_formN HO2.out (by omega)
   injection ev with e1 e2 e3
   subst e1 e3
   clear e2 hgw
   have HIS := hide (ins_start HS.out)
   go_wp2
   go_loopw [7] (fun jv wr => ∃ (j : Nat) (l : List Arc), j ≤ i ∧ jv = .int .i64 j ∧ Hid (Below H w wr) ∧ Hid (wr.ownsRow H 61 5 (.slice (some ⟨g, 0, none⟩) n c0) n (arcRow l)) ∧ Hid (l.Perm L) ∧ Hid (Ins l i j)) (fun jv _ => (intOf jv).toNat)
   case atStart => exact ⟨i, l, Nat.le_refl _, rfl, HB2, HO2, HP, HIS⟩
   case round =>
    clear HB2 HO2 HP HS HIS HLL l
    obtain ⟨j, l, hj, rfl, HB2, HO2, HP, HS⟩ := hrel
    have HLL := hide (show l.length = n by rw [HP.out.length_eq, HL.out])
    have hH := HB2.out.size
    rcases Nat.eq_zero_or_pos j with hj0 | hj0
    ·
     subst hj0
     have tj : decide (((0 : Nat) : Int) > 0) = false := by decide
     have HSN := hide (ins_end (Nat.zero_le _) HS.out (.inl rfl))
     go_upto_region 6 with fail
     refine wp_mix (fun _ => True) 12 [(0, false), (1, false), (2, false), (3, false), (4, false), (5, false), (6, false), (7, false), (8, false), (9, false), (10, false), (11, false)] (by kernel_rfl) (by kernel_rfl) trivial ?_
     simp only [List.drop_succ_cons, List.drop_zero]
     repeat (first | (refine mix_q (v := ?_) (by rfl) (by rfl) ?_ ?_; rotate_left; (focus (intro w' hC; (try dsimp only at hC); go_simp; (first | done | with_reducible rfl))); simp only [Act.put, List.setIfInBounds_toArray, List.set_cons_zero, List.set_cons_succ, List.getElem_toArray, List.getElem_cons_zero, List.getElem_cons_succ]) | (refine mix_skip (by rfl) (by rfl) ?_; simp only [Act.put, List.setIfInBounds_toArray, List.set_cons_zero, List.set_cons_succ, List.getElem_toArray, List.getElem_cons_zero, List.getElem_cons_succ]))
     refine mix_nil ?_; try simp only [Act.put, List.setIfInBounds_toArray, List.set_cons_zero, List.set_cons_succ, List.getElem_toArray, List.getElem_cons_zero, List.getElem_cons_succ]
     go_wp2
     refine NoPanic.normal ?_
     go_wp2
     go_roundw
     case rel => exact ⟨i + 1, l, by omega, by omega, by go_num, hide HB2.out.drew, hide (own_drew HO2.out), HP, HSN⟩
     case measure => simp [intOf]; omega
    ·
     obtain ⟨k, hjk⟩ : ∃ k, j = k + 1 := ⟨j - 1, by omega⟩
     have hjn : j < n := by omega
     have hkn : k < n := by omega
     obtain ⟨x, hx⟩ : ∃ x, x = l.getD j dA := ⟨_, rfl⟩
     obtain ⟨y, hy⟩ : ∃ x, x = l.getD k dA := ⟨_, rfl⟩
     obtain ⟨b0, b1, b2, b3, b4⟩ := arc_own_at HO2.out HLL.out hjn hx.symm
     obtain ⟨a0, a1, a2, a3, a4⟩ := arc_own_at HO2.out HLL.out hkn hy.symm
     have tj : decide ((j : Int) > 0) = true := decide_eq_true (by omega)
     have ej : (j : Int) - 1 = (k : Int) := by omega
     have ji0 : (0 : Int) ≤ (j : Int) := by omega
     have ji1 : (j : Int) < (n : Int) := by omega
     have ki0 : (0 : Int) ≤ (k : Int) := by omega
     have ki1 : (k : Int) < (n : Int) := by omega
     have wk : IntKind.i64.wrap (k : Int) = (k : Int) := IntWalk.i64_in _ (by omega)
     have HX := hide hx
     have HY := hide hy
     have HJK := hide hjk
     have HJN := hide hjn
     clear hx hy hjk
     go_upto_region 6 with fail
     refine wp_mix (fun w' => w'.cell? ⟨g, j * 5, none⟩ = some (.int .i64 x.f) ∧ w'.cell? ⟨g, j * 5 + 1, none⟩ = some (.int .i64 x.t) ∧ w'.cell? ⟨g, j * 5 + 2, none⟩ = some (.int .i64 x.i) ∧ w'.cell? ⟨g, j * 5 + 3, none⟩ = some (.int .i64 x.o) ∧ w'.cell? ⟨g, j * 5 + 4, none⟩ = some (.int .i64 x.w) ∧ w'.cell? ⟨g, k * 5, none⟩ = some (.int .i64 y.f) ∧ w'.cell? ⟨g, k * 5 + 1, none⟩ = some (.int .i64 y.t) ∧ w'.cell? ⟨g, k * 5 + 2, none⟩ = some (.int .i64 y.i) ∧ w'.cell? ⟨g, k * 5 + 3, none⟩ = some (.int .i64 y.o) ∧ w'.cell? ⟨g, k * 5 + 4, none⟩ = some (.int .i64 y.w)) 12 [(0, false), (1, false), (2, false), (3, false), (4, false), (5, false), (6, false), (7, false), (8, false), (9, false), (10, false), (11, false)] (by kernel_rfl) (by kernel_rfl) ⟨b0, b1, b2, b3, b4, a0, a1, a2, a3, a4⟩ ?_
     simp only [List.drop_succ_cons, List.drop_zero]
     repeat (refine mix_q (v := ?_) (by rfl) (by rfl) ?_ ?_; rotate_left; (focus (intro w' hC; (try dsimp only at hC); go_simp; (first | done | with_reducible rfl))); simp only [Act.put, List.setIfInBounds_toArray, List.set_cons_zero, List.set_cons_succ, List.getElem_toArray, List.getElem_cons_zero, List.getElem_cons_succ])
     refine mix_nil ?_; try simp only [Act.put, List.setIfInBounds_toArray, List.set_cons_zero, List.set_cons_succ, List.getElem_toArray, List.getElem_cons_zero, List.getElem_cons_succ]
     go_wp2_with fail
     refine (HLESS.out x y _).mono ?_
     rintro e w2 ⟨rfl, hb2⟩
     have hz2 := hb2.size
     have HB3 := hide (HB2.out.drew.trans (hb2.mono (by simp; omega)))
     have HO3 := hide (own_belowS (own_drew HO2.out) hb2)
     obtain ⟨lt, hlt2⟩ : ∃ z, z = arcLess x y := ⟨_, rfl⟩
     rw [← hlt2]
     have HLT := hide hlt2
     clear hb2 hlt2 b0 b1 b2 b3 b4 a0 a1 a2 a3 a4 HB2 HO2
     cases lt
     ·
      have HSN := hide (ins_end hj HS.out (.inr ⟨k, HJK.out, by rw [← HX.out, ← HY.out]; exact HLT.out.symm⟩))
      go_wp2
      refine NoPanic.normal ?_
      go_wp2
      go_roundw
      case rel => exact ⟨i + 1, l, by omega, by omega, by go_num, HB3, HO3, HP, HSN⟩
      case measure => simp [intOf]; omega
     ·
      have HSN := hide (show Ins (swA l k) i k by
       have h := HS.out
       rw [HJK.out] at h
       refine ins_step (by rw [HLL.out]; exact hlt) (by omega) h ?_
       rw [← HJK.out, ← HX.out, ← HY.out]; exact HLT.out.symm)
      have HPN := hide ((swA_perm l k (by rw [HLL.out]; omega)).trans HP.out)
      have HON := hide (own_swA HO3.out HLL.out HJK.out hjn HX.out.symm HY.out.symm)
      have hfr := fun o => own_freeN HO3.out rfl (by omega) o
      obtain ⟨b0, b1, b2, b3, b4⟩ := arc_own_at HO3.out HLL.out hjn HX.out.symm
      obtain ⟨a0, a1, a2, a3, a4⟩ := arc_own_at HO3.out HLL.out hkn HY.out.symm
      have hgz : g < w2.heap.size := by
       obtain ⟨g', c', ev, _, h2, _⟩ := own_formN HO3.out (by omega)
       injection ev with ev
       injection ev with ev
       injection ev with ev
       omega
      have hjk := HJK.out
      have n00 : ¬ (j * 5 = k * 5) := by omega
      have m00 : ¬ (k * 5 = j * 5) := by omega
      have n01 : ¬ (j * 5 = k * 5 + 1) := by omega
      have m01 : ¬ (k * 5 = j * 5 + 1) := by omega
      have n02 : ¬ (j * 5 = k * 5 + 2) := by omega
      have m02 : ¬ (k * 5 = j * 5 + 2) := by omega
      have n03 : ¬ (j * 5 = k * 5 + 3) := by omega
      have m03 : ¬ (k * 5 = j * 5 + 3) := by omega
      have n04 : ¬ (j * 5 = k * 5 + 4) := by omega
      have m04 : ¬ (k * 5 = j * 5 + 4) := by omega
      have n10 : ¬ (j * 5 + 1 = k * 5) := by omega
      have m10 : ¬ (k * 5 + 1 = j * 5) := by omega
      have n11 : ¬ (j * 5 + 1 = k * 5 + 1) := by omega
      have m11 : ¬ (k * 5 + 1 = j * 5 + 1) := by omega
      have n12 : ¬ (j * 5 + 1 = k * 5 + 2) := by omega
      have m12 : ¬ (k * 5 + 1 = j * 5 + 2) := by omega
      have n13 : ¬ (j * 5 + 1 = k * 5 + 3) := by omega
      have m13 : ¬ (k * 5 + 1 = j * 5 + 3) := by omega
      have n14 : ¬ (j * 5 + 1 = k * 5 + 4) := by omega
      have m14 : ¬ (k * 5 + 1 = j * 5 + 4) := by omega
      have n20 : ¬ (j * 5 + 2 = k * 5) := by omega
      have m20 : ¬ (k * 5 + 2 = j * 5) := by omega
      have n21 : ¬ (j * 5 + 2 = k * 5 + 1) := by omega
      have m21 : ¬ (k * 5 + 2 = j * 5 + 1) := by omega
      have n22 : ¬ (j * 5 + 2 = k * 5 + 2) := by omega
      have m22 : ¬ (k * 5 + 2 = j * 5 + 2) := by omega
      have n23 : ¬ (j * 5 + 2 = k * 5 + 3) := by omega
      have m23 : ¬ (k * 5 + 2 = j * 5 + 3) := by omega
      have n24 : ¬ (j * 5 + 2 = k * 5 + 4) := by omega
      have m24 : ¬ (k * 5 + 2 = j * 5 + 4) := by omega
      have n30 : ¬ (j * 5 + 3 = k * 5) := by omega
      have m30 : ¬ (k * 5 + 3 = j * 5) := by omega
      have n31 : ¬ (j * 5 + 3 = k * 5 + 1) := by omega
      have m31 : ¬ (k * 5 + 3 = j * 5 + 1) := by omega
      have n32 : ¬ (j * 5 + 3 = k * 5 + 2) := by omega
      have m32 : ¬ (k * 5 + 3 = j * 5 + 2) := by omega
      have n33 : ¬ (j * 5 + 3 = k * 5 + 3) := by omega
      have m33 : ¬ (k * 5 + 3 = j * 5 + 3) := by omega
      have n34 : ¬ (j * 5 + 3 = k * 5 + 4) := by omega
      have m34 : ¬ (k * 5 + 3 = j * 5 + 4) := by omega
      have n40 : ¬ (j * 5 + 4 = k * 5) := by omega
      have m40 : ¬ (k * 5 + 4 = j * 5) := by omega
      have n41 : ¬ (j * 5 + 4 = k * 5 + 1) := by omega
      have m41 : ¬ (k * 5 + 4 = j * 5 + 1) := by omega
      have n42 : ¬ (j * 5 + 4 = k * 5 + 2) := by omega
      have m42 : ¬ (k * 5 + 4 = j * 5 + 2) := by omega
      have n43 : ¬ (j * 5 + 4 = k * 5 + 3) := by omega
      have m43 : ¬ (k * 5 + 4 = j * 5 + 3) := by omega
      have n44 : ¬ (j * 5 + 4 = k * 5 + 4) := by omega
      have m44 : ¬ (k * 5 + 4 = j * 5 + 4) := by omega
      clear hjk
      go_wp2
      refine NoPanic.normal ?_
      go_upto_region 8 with fail
      go_region
      go_wp2
      have hjz : j - 1 = k := by omega
      have HBN : Below H w _ := HB3.out
      go_roundw
      case rel =>
       refine ⟨k, swA l k, by omega, by go_num, ?_, hide (own_drew HON.out), HPN, HSN⟩
       refine hide (Below.drew (Below.setCell (Below.setCell (Below.setCell (Below.setCell (Below.setCell (Below.setCell (Below.setCell (Below.setCell (Below.setCell (Below.setCell HB3.out ?_ _) ?_ _) ?_ _) ?_ _) ?_ _) ?_ _) ?_ _) ?_ _) ?_ _) ?_ _))
       all_goals (dsimp only; omega)
      case measure => simp [intOf]; omega
  ·
   have ti : decide ((i : Int) < (n : Int)) = false := decide_eq_false (by omega)
   have hlS : l = S := by rw [HSS.out]; exact sort_end HS.out (by rw [HLL.out]; omega) HP.out
   subst hlS
   have HR := hide (Rd.of_own HO2.out (fun i j hi hj => arcRow_at _ i j (by rw [HLL.out]; exact hi) hj))
   obtain ⟨Z, hZ⟩ : ∃ Z, Z = wr.heap.size := ⟨_, rfl⟩
   have hHZ : H ≤ Z := by have := HB2.out.size; omega
   have HBZ := hide HB2.out
   have hZ1 : Z ≤ wr.heap.size := by omega
   rw [← hZ] at HR
   have HLZ := hide hZ
   clear hZ HS HP HSS ti HO2 HB2
   go_wp2
   go_loopw [57, 8] (fun iv kv w8 => ∃ (k m : Nat) (l2 : List Arc), k ≤ n ∧ m ≤ k ∧ iv = .int .i64 k ∧ Hid (l2 = compact (sameA red) (l.take k)) ∧ Hid (l2.length = m) ∧ Hid (Below Z wr w8) ∧ Hid (∃ A5 c5, kv = .slice A5 m c5 ∧ w8.ownsRow Z 61 5 (.slice A5 m c5) m (arcRow l2))) (fun iv _ _ => n - (intOf iv).toNat)
   case atStart => exact ⟨0, 0, [], by omega, Nat.le_refl _, rfl, hide rfl, hide rfl, hide (Below.refl _ _), hide ⟨none, 0, rfl, World.ownsRow_nil _ _ _ _⟩⟩
   case round =>
    obtain ⟨k, m, l2, hkn, hmk, rfl, HC, HM, HBK, HK⟩ := hrel
    obtain ⟨A5, c5, rfl, hown5⟩ := HK.out
    have HOWN := hide hown5
    have hlow : ∀ q, (Value.slice A5 m c5).ownBlock = some q → Z ≤ q ∧ q < wr.heap.size := fun q hq => hown5.lt q hq
    have HLOW := hide hlow
    have HR2 := hide (HR.out.below HBK.out (Nat.le_refl _))
    have hsz := HBK.out.size
    have hZw : Z ≤ wr.heap.size := by omega
    clear HK hown5 hlow
    by_cases hk : k < n
    ·
     have tk : decide ((k : Int) < (n : Int)) = true := decide_eq_true (by omega)
     obtain ⟨b, off, a, rfl, hbZ, a0, a1, a2, a3, a4, HA⟩ := arcs_at HR2.out hk
     have lb : b < wr.heap.size := by omega
     have ki0 : (0 : Int) ≤ (k : Int) := by omega
     have ki1 : (k : Int) < (n : Int) := by omega
     have HT := hide (compact_take (e := sameA red) (show k < l.length by rw [HLL.out]; exact hk) HA.out)
     rcases Nat.eq_zero_or_pos k with hk0 | hk0
     ·
      have tz : decide ((k : Int) > 0) = false := decide_eq_false (by omega)
      have HCN := hide (show compact (sameA red) (l.take (k + 1)) = l2 ++ [a] by rw [HT.out, if_neg (by omega), HC.out])
      clear HT
      subst hk0
      simp only [Nat.zero_mul, Nat.add_zero] at a0 a1 a2 a3 a4
      go_upto_region 17 with fail
      generalize hW5 : World.alloc _ _ = W5
      obtain ⟨Y, hY⟩ : ∃ Y, Y = wr.heap.size := ⟨_, rfl⟩
      have bA : Blk W5 Y 61 #[.int .i64 a.f, .int .i64 a.t, .int .i64 a.i, .int .i64 a.o, .int .i64 a.w] := by rw [← hW5]; exact Blk.at_ hY
      have HO5 := hide (show W5.ownsRow Z 61 5 (.slice A5 m c5) m (arcRow l2) by rw [← hW5]; exact HOWN.out.alloc _)
      have HB5 := hide (show Below Z _ W5 from HBK.out.trans (show Below Z wr W5 by rw [← hW5]; exact (Below.refl Z wr).alloc hZw _))
      have hneY : (Value.slice A5 m c5).ownBlock ≠ some Y := fun e => by have := (HLOW.out _ e).2; omega
      have hZY : Z ≤ Y := by omega
      have f0 := bA.cell 0
      have f1 := bA.cell 1
      have f2 := bA.cell 2
      have f3 := bA.cell 3
      have f4 := bA.cell 4
      simp at f0 f1 f2 f3 f4
      have lY := bA.lt
      try simp only [← hY]
      clear hW5 hY bA a0 a1 a2 a3 a4 lb hbZ HBK HOWN HR2
      go_wp2_with (at_builtin; refine wpList_append_own _ rfl (.tmp 106) (.tmp 108) 25 rfl Z 61 ia _ 5 40 Try.underlying25 ha0 ha1 ha2 ha3 rfl (by omega) (.slice A5 m c5) m _ rfl (HO5.out.alloc _) ⟨_, 0, none⟩ 1 1 (arcRow [a]) rfl (by rfl) (World.news_of_block (cs := (arcRow [a]).toArray) (t := 61) (fr := (0, 0)) (Blk.at_ rfl)) (arcRow_one _) (by simp only [maxLen]; omega) (by omega) (by simp; omega) ?_; intro v' w6 hown2 hg2 _; obtain ⟨Av, cv, rfl, hkcv, _⟩ := own_value hown2)
      have hs6 := hg2.size
      simp at hs6
      go_roundw
      case rel => exact ⟨0 + 1, m + 1, l2 ++ [a], by omega, by omega, by go_num, hide HCN.out.symm, hide (by rw [List.length_append, HM.out]; rfl), hide ((HB5.out.alloc (by omega) _).grown hg2 (by simp; omega) (fun q hq => (HLOW.out q hq).1)), hide ⟨Av, cv, rfl, by rw [arcRow_append]; exact hown2⟩⟩
      case measure => simp [intOf]; omega
     ·
      have tz : decide ((k : Int) > 0) = true := decide_eq_true (by omega)
      obtain ⟨k1, hk1⟩ : ∃ k1, k1 + 1 = k := ⟨k - 1, by omega⟩
      obtain ⟨b', off', p, ep, _, p0, p1, p2, p3, p4, HPV⟩ := arcs_at HR2.out (show k1 < n by omega)
      injection ep with ep
      injection ep with ep1 ep2
      subst ep1 ep2
      have ek : (k : Int) - 1 = (k1 : Int) := by omega
      have k10 : (0 : Int) ≤ (k1 : Int) := by omega
      have k11 : (k1 : Int) < (n : Int) := by omega
      have HPE := hide (show l.getD (k - 1) dA = p by rw [show k - 1 = k1 by omega]; exact HPV.out)
      have HSE := hide (sameA_eq red p a)
      clear hk1 HPV
      obtain ⟨lk, hlk⟩ : ∃ z, z = likeA a p := ⟨_, rfl⟩
      obtain ⟨sm, hsm⟩ : ∃ z, z = sameA red p a := ⟨_, rfl⟩
      rw [← hlk, ← hsm] at HSE
      have HLK := hide hlk
      have HSM := hide hsm
      clear hlk hsm
      go_upto_region 15 with fail
      generalize hW5 : World.alloc _ _ = W5
      obtain ⟨Y, hY⟩ : ∃ Y, Y = wr.heap.size := ⟨_, rfl⟩
      have bA : Blk W5 Y 61 #[.int .i64 a.f, .int .i64 a.t, .int .i64 a.i, .int .i64 a.o, .int .i64 a.w] := by rw [← hW5]; exact (Blk.at_ hY).alloc _
      have bP : Blk W5 (Y + 1) 61 #[.int .i64 p.f, .int .i64 p.t, .int .i64 p.i, .int .i64 p.o, .int .i64 p.w] := by rw [← hW5]; exact Blk.at_ (by simp [hY])
      have HO5 := hide (show W5.ownsRow Z 61 5 (.slice A5 m c5) m (arcRow l2) by rw [← hW5]; exact (HOWN.out.alloc _).alloc _)
      have HB5 := hide (show Below Z _ W5 from HBK.out.trans (show Below Z wr W5 by rw [← hW5]; exact ((Below.refl Z wr).alloc hZw _).alloc (by simp; omega) _))
      have hneY : (Value.slice A5 m c5).ownBlock ≠ some Y := fun e => by have := (HLOW.out _ e).2; omega
      have hZY : Z ≤ Y := by omega
      have f0 := bA.cell 0
      have f1 := bA.cell 1
      have f2 := bA.cell 2
      have f3 := bA.cell 3
      have f4 := bA.cell 4
      have g0 := bP.cell 0
      have g1 := bP.cell 1
      have g2 := bP.cell 2
      have g3 := bP.cell 3
      have g4 := bP.cell 4
      simp at f0 f1 f2 f3 f4 g0 g1 g2 g3 g4
      have lY := bA.lt
      have lY1 := bP.lt
      have HBA := hide bA
      try simp only [← hY]
      clear hW5 hY bA bP a0 a1 a2 a3 a4 p0 p1 p2 p3 p4 lb hbZ HBK HOWN HR2
      go_cut [12] from 69 to 110 (fun s12 wx => s12 = .bool lk ∧ wx = W5)
      case first =>
       by_cases e1 : a.f = p.f
       ·
        have t1 : (a.f == p.f) = true := by simp [e1]
        by_cases e2 : a.i = p.i
        ·
         have t2 : (a.i == p.i) = true := by simp [e2]
         by_cases e3 : a.o = p.o
         ·
          have t3 : (a.o == p.o) = true := by simp [e3]
          by_cases e4 : a.t = p.t
          ·
           have t4 : (a.t == p.t) = true := by simp [e4]
           have HV := hide (show lk = true by rw [HLK.out]; unfold likeA; simp [e1, e2, e3, e4])
           clear e1 e2 e3 e4
           go_wp2
           go_meet
           exact ⟨by rw [HV.out], rfl⟩
          ·
           have t4 : (a.t == p.t) = false := by simp [e4]
           have HV := hide (show lk = false by rw [HLK.out]; unfold likeA; simp [e4])
           clear e1 e2 e3 e4
           go_wp2
           go_meet
           exact ⟨by rw [HV.out], rfl⟩
         ·
          have t3 : (a.o == p.o) = false := by simp [e3]
          have HV := hide (show lk = false by rw [HLK.out]; unfold likeA; simp [e3])
          clear e1 e2 e3
          go_wp2
          go_meet
          exact ⟨by rw [HV.out], rfl⟩
        ·
         have t2 : (a.i == p.i) = false := by simp [e2]
         have HV := hide (show lk = false by rw [HLK.out]; unfold likeA; simp [e2])
         clear e1 e2
         go_wp2
         go_meet
         exact ⟨by rw [HV.out], rfl⟩
       ·
        have t1 : (a.f == p.f) = false := by simp [e1]
        have HV := hide (show lk = false by rw [HLK.out]; unfold likeA; simp [e1])
        clear e1
        go_wp2
        go_meet
        exact ⟨by rw [HV.out], rfl⟩
      case rest =>
      obtain ⟨rfl, rfl⟩ := hcut
      go_upto_region 16 with fail
      go_cut [105] from 95 to 110 (fun s105 wx => s105 = .bool sm ∧ wx = wc)
      case first =>
       cases lk
       ·
        have HV := hide (show sm = false by rw [HSE.out]; rfl)
        go_wp2
        go_meet
        exact ⟨by rw [HV.out], rfl⟩
       ·
        cases red
        ·
         by_cases e5 : a.w = p.w
         ·
          have t5 : (a.w == p.w) = true := by simp [e5]
          have HV := hide (show sm = true by rw [HSE.out]; simp [e5])
          clear e5
          go_wp2
          go_meet
          exact ⟨by rw [HV.out], rfl⟩
         ·
          have t5 : (a.w == p.w) = false := by simp [e5]
          have HV := hide (show sm = false by rw [HSE.out]; simp [e5])
          clear e5
          go_wp2
          go_meet
          exact ⟨by rw [HV.out], rfl⟩
        ·
         have HV := hide (show sm = true by rw [HSE.out]; rfl)
         go_wp2
         go_meet
         exact ⟨by rw [HV.out], rfl⟩
      case rest =>
      obtain ⟨rfl, rfl⟩ := hcut
      cases sm
      ·
       have HCN := hide (show compact (sameA red) (l.take (k + 1)) = l2 ++ [a] by rw [HT.out, if_neg (by rw [HPE.out, ← HSM.out]; simp), HC.out])
       clear HT HSE HSM HLK HPE g0 g1 g2 g3 g4 lY1
       go_wp2_with (at_builtin; refine wpList_append_own _ rfl (.tmp 106) (.tmp 108) 25 rfl Z 61 ia _ 5 40 Try.underlying25 ha0 ha1 ha2 ha3 rfl (by omega) (.slice A5 m c5) m _ rfl (HO5.out.alloc _) ⟨_, 0, none⟩ 1 1 (arcRow [a]) rfl (by rfl) (World.news_of_block (cs := (arcRow [a]).toArray) (t := 61) (fr := (0, 0)) (Blk.at_ rfl)) (arcRow_one _) (by simp only [maxLen]; omega) (by omega) (by simp; omega) ?_; intro v' w6 hown2 hg2 _; obtain ⟨Av, cv, rfl, hkcv, _⟩ := own_value hown2)
       have hs6 := hg2.size
       simp at hs6
       go_roundw
       case rel => exact ⟨k + 1, m + 1, l2 ++ [a], by omega, by omega, by go_num, hide HCN.out.symm, hide (by rw [List.length_append, HM.out]; rfl), hide ((HB5.out.alloc (by omega) _).grown hg2 (by simp; omega) (fun q hq => (HLOW.out q hq).1)), hide ⟨Av, cv, rfl, by rw [arcRow_append]; exact hown2⟩⟩
       case measure => simp [intOf]; omega
      ·
       have HCN := hide (show compact (sameA red) (l.take (k + 1)) = l2 by rw [HT.out, if_pos ⟨hk0, by rw [HPE.out]; exact HSM.out.symm⟩, List.append_nil, HC.out])
       clear HT HSE HSM HLK HPE g0 g1 g2 g3 g4 lY1
       go_wp2
       go_roundw
       case rel => exact ⟨k + 1, m, l2, by omega, by omega, by go_num, hide HCN.out.symm, HM, HB5, hide ⟨A5, c5, rfl, HO5.out⟩⟩
       case measure => simp [intOf]; omega
    ·
     obtain rfl : k = n := by omega
     have tk : decide ((k : Int) < (k : Int)) = false := decide_eq_false (by omega)
     have HCE := hide (show l2 = compact (sameA red) l by rw [HC.out, List.take_of_length_le (by rw [HLL.out]; exact Nat.le_refl _)])
     go_wp2
     exact bodyPost_ret (v := .slice A5 m c5) (by simp [results, Try.results69, go_sem]) rfl ⟨A5, c5, by rw [← HCE.out, HM.out], by rw [← HCE.out, HM.out, ← HHW.out]; exact own_monoS HOWN.out hHZ, by rw [← HHW.out]; exact HBZ.out.trans (HBK.out.mono hHZ)⟩
end Go.Proofs.Ytopakcbhodnipaa
/- Text SdX. -/
namespace Go.Proofs.Ytopakcbhodnipaa
open Go.RowKit Gm Go.Sort Go.Shelf
set_option linter.unusedSimpArgs false
set_option linter.unusedVariables false
set_option maxRecDepth 100000 in
set_option maxHeartbeats 16000000 in
theorem sorted_big (
 A : Option Addr) (n c : Nat) (red : Bool) (L : List Arc) (w : World) (B : Nat) (hB : B ≤ w.heap.size) (hl : L.length = n) (hn : n ≤ 1000000) (h : Rd w B 5 A n (arcCell L)) :
 Calls Try.prog 69 #[.slice A n c, .bool red] w fun e w' => ∃ A' c', e = .returned (.slice A' (compact (sameA red) (srtA L)).length c') ∧ w'.ownsRow w.heap.size 61 5 (.slice A' (compact (sameA red) (srtA L)).length c') (compact (sameA red) (srtA L)).length (arcRow (compact (sameA red) (srtA L))) ∧ Below w.heap.size w w' := by
 have hA : A = none → n = 0 := by
  intro e
  rcases Nat.eq_zero_or_pos n with h0 | h0
  · exact h0
  ·
   obtain ⟨b, off, h1, _⟩ := h h0
   rw [e] at h1; cases h1
 have HL := hide hl
 obtain ⟨ia, ha0, ha1, ha2, ha3⟩ := info_parts arc_info
 have h' : Rd (w.alloc (Obj.cells #[] 61)) B 5 A n (arcCell L) := h.below (show Below w.heap.size w _ by go_grown) hB
 have HLESS := hide (fun a b W => less_any a b W)
 clear h hl
 obtain ⟨S, hS⟩ : ∃ S, S = srtA L := ⟨_, rfl⟩
 rw [← hS]
 have HSS := hide hS
 clear hS
 go_enter Try.func69, Try.ntmps69
 go_wp2_with (at_builtin; refine wpList_append_any _ rfl (.tmp 13) (.tmp 14) 25 rfl w.heap.size 61 ia _ 5 40 Try.underlying25 ha0 ha1 ha2 ha3 rfl (by omega) (.slice (some ⟨w.heap.size, 0, none⟩) 0 0) 0 [] rfl (World.ownsRow_made _ _ 0 (Nat.le_refl _) (by simp [maxLen]) (by simp)) B A n c (arcRow L) (arcCell L) rfl h' hA (by rw [arcRow_length, HL.out]) (fun i j hi hj => arcRow_at _ i j (by rw [HL.out]; exact hi) hj) (arcRow_one _) (by simp only [maxLen]; omega) (by omega) (by simp) ?_; intro v1 w1 hown hg _; obtain ⟨A0, c0, rfl, hkc0, _⟩ := own_value hown)
 simp only [Nat.zero_add, List.nil_append] at hown hkc0 ⊢
 have hb1 : Below w.heap.size w w1 := ((Below.refl w.heap.size w).alloc (Nat.le_refl _) _).grown hg (by simp) (by simp [Value.ownBlock])
 obtain ⟨H, hH⟩ : ∃ H, H = w.heap.size := ⟨_, rfl⟩
 rw [← hH] at hown hb1 ⊢
 have hwz : H ≤ w1.heap.size := by rw [hH]; exact hb1.size
 have hHw : H ≤ w.heap.size := by omega
 have HHW := hide hH
 have HB1 := hide hb1
 have HO1 := hide hown
 clear hown hb1 hg h' hA hH hB
 go_loopw [6] (fun iv wr => ∃ (i : Nat) (l : List Arc), 1 ≤ i ∧ i ≤ n + 1 ∧ iv = .int .i64 i ∧ Hid (Below H w wr) ∧ Hid (wr.ownsRow H 61 5 (.slice A0 n c0) n (arcRow l)) ∧ Hid (l.Perm L) ∧ Hid (SortTo l i)) (fun iv _ => n + 1 - (intOf iv).toNat)
 case atStart => exact ⟨1, L, Nat.le_refl _, by omega, rfl, HB1, HO1, hide (List.Perm.refl _), hide (sort_start _)⟩
 case round =>
  clear HB1 HO1 hwz
  obtain ⟨i, l, hi1, hin, rfl, HB2, HO2, HP, HS⟩ := hrel
  have HLL := hide (show l.length = n by rw [HP.out.length_eq, HL.out])
  by_cases hlt : i < n
  ·
   have ti : decide ((i : Int) < (n : Int)) = true := decide_eq_true (by omega)
   obtain ⟨g, cap, ev, hHg, hgw, _, _⟩ := own_formN HO2.out (by omega)
   injection ev with e1 e2 e3
   subst e1 e3
   clear e2 hgw
   have HIS := hide (ins_start HS.out)
   go_wp2
   go_loopw [7] (fun jv wr => ∃ (j : Nat) (l : List Arc), j ≤ i ∧ jv = .int .i64 j ∧ Hid (Below H w wr) ∧ Hid (wr.ownsRow H 61 5 (.slice (some ⟨g, 0, none⟩) n c0) n (arcRow l)) ∧ Hid (l.Perm L) ∧ Hid (Ins l i j)) (fun jv _ => (intOf jv).toNat)
   case atStart => exact ⟨i, l, Nat.le_refl _, rfl, HB2, HO2, HP, HIS⟩
   case round =>
    clear HB2 HO2 HP HS HIS HLL l
    obtain ⟨j, l, hj, rfl, HB2, HO2, HP, HS⟩ := hrel
    have HLL := hide (show l.length = n by rw [HP.out.length_eq, HL.out])
    have hH := HB2.out.size
    rcases Nat.eq_zero_or_pos j with hj0 | hj0
    ·
     subst hj0
     have tj : decide (((0 : Nat) : Int) > 0) = false := by decide
     have HSN := hide (ins_end (Nat.zero_le _) HS.out (.inl rfl))
     go_upto_region 6 with fail
     refine wp_mix (fun _ => True) 12 [(0, false), (1, false), (2, false), (3, false), (4, false), (5, false), (6, false), (7, false), (8, false), (9, false), (10, false), (11, false)] (by kernel_rfl) (by kernel_rfl) trivial ?_
     simp only [List.drop_succ_cons, List.drop_zero]
     repeat (first | (refine mix_q (v := ?_) (by rfl) (by rfl) ?_ ?_; rotate_left; (focus (intro w' hC; (try dsimp only at hC); go_simp; (first | done | with_reducible rfl))); simp only [Act.put, List.setIfInBounds_toArray, List.set_cons_zero, List.set_cons_succ, List.getElem_toArray, List.getElem_cons_zero, List.getElem_cons_succ]) | (refine mix_skip (by rfl) (by rfl) ?_; simp only [Act.put, List.setIfInBounds_toArray, List.set_cons_zero, List.set_cons_succ, List.getElem_toArray, List.getElem_cons_zero, List.getElem_cons_succ]))
     refine mix_nil ?_; try simp only [Act.put, List.setIfInBounds_toArray, List.set_cons_zero, List.set_cons_succ, List.getElem_toArray, List.getElem_cons_zero, List.getElem_cons_succ]
     go_wp2
     refine NoPanic.normal ?_
     go_wp2
     go_roundw
     case rel => exact ⟨i + 1, l, by omega, by omega, by go_num, hide HB2.out.drew, hide (own_drew HO2.out), HP, HSN⟩
     case measure => simp [intOf]; omega
    ·
     obtain ⟨k, hjk⟩ : ∃ k, j = k + 1 := ⟨j - 1, by omega⟩
     have hjn : j < n := by omega
     have hkn : k < n := by omega
     obtain ⟨x, hx⟩ : ∃ x, x = l.getD j dA := ⟨_, rfl⟩
     obtain ⟨y, hy⟩ : ∃ x, x = l.getD k dA := ⟨_, rfl⟩
     obtain ⟨b0, b1, b2, b3, b4⟩ := arc_own_at HO2.out HLL.out hjn hx.symm
     obtain ⟨a0, a1, a2, a3, a4⟩ := arc_own_at HO2.out HLL.out hkn hy.symm
     have tj : decide ((j : Int) > 0) = true := decide_eq_true (by omega)
     have ej : (j : Int) - 1 = (k : Int) := by omega
     have ji0 : (0 : Int) ≤ (j : Int) := by omega
     have ji1 : (j : Int) < (n : Int) := by omega
     have ki0 : (0 : Int) ≤ (k : Int) := by omega
     have ki1 : (k : Int) < (n : Int) := by omega
     have wk : IntKind.i64.wrap (k : Int) = (k : Int) := IntWalk.i64_in _ (by omega)
     have HX := hide hx
     have HY := hide hy
     have HJK := hide hjk
     have HJN := hide hjn
     clear hx hy hjk
     go_upto_region 6 with fail
     refine wp_mix (fun w' => w'.cell? ⟨g, j * 5, none⟩ = some (.int .i64 x.f) ∧ w'.cell? ⟨g, j * 5 + 1, none⟩ = some (.int .i64 x.t) ∧ w'.cell? ⟨g, j * 5 + 2, none⟩ = some (.int .i64 x.i) ∧ w'.cell? ⟨g, j * 5 + 3, none⟩ = some (.int .i64 x.o) ∧ w'.cell? ⟨g, j * 5 + 4, none⟩ = some (.int .i64 x.w) ∧ w'.cell? ⟨g, k * 5, none⟩ = some (.int .i64 y.f) ∧ w'.cell? ⟨g, k * 5 + 1, none⟩ = some (.int .i64 y.t) ∧ w'.cell? ⟨g, k * 5 + 2, none⟩ = some (.int .i64 y.i) ∧ w'.cell? ⟨g, k * 5 + 3, none⟩ = some (.int .i64 y.o) ∧ w'.cell? ⟨g, k * 5 + 4, none⟩ = some (.int .i64 y.w)) 12 [(0, false), (1, false), (2, false), (3, false), (4, false), (5, false), (6, false), (7, false), (8, false), (9, false), (10, false), (11, false)] (by kernel_rfl) (by kernel_rfl) ⟨b0, b1, b2, b3, b4, a0, a1, a2, a3, a4⟩ ?_
     simp only [List.drop_succ_cons, List.drop_zero]
     repeat (refine mix_q (v := ?_) (by rfl) (by rfl) ?_ ?_; rotate_left; (focus (intro w' hC; (try dsimp only at hC); go_simp; (first | done | with_reducible rfl))); simp only [Act.put, List.setIfInBounds_toArray, List.set_cons_zero, List.set_cons_succ, List.getElem_toArray, List.getElem_cons_zero, List.getElem_cons_succ])
     refine mix_nil ?_; try simp only [Act.put, List.setIfInBounds_toArray, List.set_cons_zero, List.set_cons_succ, List.getElem_toArray, List.getElem_cons_zero, List.getElem_cons_succ]
     go_wp2_with fail
     refine (HLESS.out x y _).mono ?_
     rintro e w2 ⟨rfl, hb2⟩
     have hz2 := hb2.size
     have HB3 := hide (HB2.out.drew.trans (hb2.mono (by simp; omega)))
     have HO3 := hide (own_belowS (own_drew HO2.out) hb2)
     obtain ⟨lt, hlt2⟩ : ∃ z, z = arcLess x y := ⟨_, rfl⟩
     rw [← hlt2]
     have HLT := hide hlt2
     clear hb2 hlt2 b0 b1 b2 b3 b4 a0 a1 a2 a3 a4 HB2 HO2
     cases lt
     ·
      have HSN := hide (ins_end hj HS.out (.inr ⟨k, HJK.out, by rw [← HX.out, ← HY.out]; exact HLT.out.symm⟩))
      go_wp2
      refine NoPanic.normal ?_
      go_wp2
      go_roundw
      case rel => exact ⟨i + 1, l, by omega, by omega, by go_num, HB3, HO3, HP, HSN⟩
      case measure => simp [intOf]; omega
     ·
      have HSN := hide (show Ins (swA l k) i k by
       have h := HS.out
       rw [HJK.out] at h
       refine ins_step (by rw [HLL.out]; exact hlt) (by omega) h ?_
       rw [← HJK.out, ← HX.out, ← HY.out]; exact HLT.out.symm)
      have HPN := hide ((swA_perm l k (by rw [HLL.out]; omega)).trans HP.out)
      have HON := hide (own_swA HO3.out HLL.out HJK.out hjn HX.out.symm HY.out.symm)
      have hfr := fun o => own_freeN HO3.out rfl (by omega) o
      obtain ⟨b0, b1, b2, b3, b4⟩ := arc_own_at HO3.out HLL.out hjn HX.out.symm
      obtain ⟨a0, a1, a2, a3, a4⟩ := arc_own_at HO3.out HLL.out hkn HY.out.symm
      have hgz : g < w2.heap.size := by
       obtain ⟨g', c', ev, _, h2, _⟩ := own_formN HO3.out (by omega)
       injection ev with ev
       injection ev with ev
       injection ev with ev
       omega
      have hjk := HJK.out
      have n00 : ¬ (j * 5 = k * 5) := by omega
      have m00 : ¬ (k * 5 = j * 5) := by omega
      have n01 : ¬ (j * 5 = k * 5 + 1) := by omega
      have m01 : ¬ (k * 5 = j * 5 + 1) := by omega
      have n02 : ¬ (j * 5 = k * 5 + 2) := by omega
      have m02 : ¬ (k * 5 = j * 5 + 2) := by omega
      have n03 : ¬ (j * 5 = k * 5 + 3) := by omega
      have m03 : ¬ (k * 5 = j * 5 + 3) := by omega
      have n04 : ¬ (j * 5 = k * 5 + 4) := by omega
      have m04 : ¬ (k * 5 = j * 5 + 4) := by omega
      have n10 : ¬ (j * 5 + 1 = k * 5) := by omega
      have m10 : ¬ (k * 5 + 1 = j * 5) := by omega
      have n11 : ¬ (j * 5 + 1 = k * 5 + 1) := by omega
      have m11 : ¬ (k * 5 + 1 = j * 5 + 1) := by omega
      have n12 : ¬ (j * 5 + 1 = k * 5 + 2) := by omega
      have m12 : ¬ (k * 5 + 1 = j * 5 + 2) := by omega
      have n13 : ¬ (j * 5 + 1 = k * 5 + 3) := by omega
      have m13 : ¬ (k * 5 + 1 = j * 5 + 3) := by omega
      have n14 : ¬ (j * 5 + 1 = k * 5 + 4) := by omega
      have m14 : ¬ (k * 5 + 1 = j * 5 + 4) := by omega
      have n20 : ¬ (j * 5 + 2 = k * 5) := by omega
      have m20 : ¬ (k * 5 + 2 = j * 5) := by omega
      have n21 : ¬ (j * 5 + 2 = k * 5 + 1) := by omega
      have m21 : ¬ (k * 5 + 2 = j * 5 + 1) := by omega
      have n22 : ¬ (j * 5 + 2 = k * 5 + 2) := by omega
      have m22 : ¬ (k * 5 + 2 = j * 5 + 2) := by omega
      have n23 : ¬ (j * 5 + 2 = k * 5 + 3) := by omega
      have m23 : ¬ (k * 5 + 2 = j * 5 + 3) := by omega
      have n24 : ¬ (j * 5 + 2 = k * 5 + 4) := by omega
      have m24 : ¬ (k * 5 + 2 = j * 5 + 4) := by omega
      have n30 : ¬ (j * 5 + 3 = k * 5) := by omega
      have m30 : ¬ (k * 5 + 3 = j * 5) := by omega
      have n31 : ¬ (j * 5 + 3 = k * 5 + 1) := by omega
      have m31 : ¬ (k * 5 + 3 = j * 5 + 1) := by omega
      have n32 : ¬ (j * 5 + 3 = k * 5 + 2) := by omega
      have m32 : ¬ (k * 5 + 3 = j * 5 + 2) := by omega
      have n33 : ¬ (j * 5 + 3 = k * 5 + 3) := by omega
      have m33 : ¬ (k * 5 + 3 = j * 5 + 3) := by omega
      have n34 : ¬ (j * 5 + 3 = k * 5 + 4) := by omega
      have m34 : ¬ (k * 5 + 3 = j * 5 + 4) := by omega
      have n40 : ¬ (j * 5 + 4 = k * 5) := by omega
      have m40 : ¬ (k * 5 + 4 = j * 5) := by omega
      have n41 : ¬ (j * 5 + 4 = k * 5 + 1) := by omega
      have m41 : ¬ (k * 5 + 4 = j * 5 + 1) := by omega
      have n42 : ¬ (j * 5 + 4 = k * 5 + 2) := by omega
      have m42 : ¬ (k * 5 + 4 = j * 5 + 2) := by omega
      have n43 : ¬ (j * 5 + 4 = k * 5 + 3) := by omega
      have m43 : ¬ (k * 5 + 4 = j * 5 + 3) := by omega
      have n44 : ¬ (j * 5 + 4 = k * 5 + 4) := by omega
      have m44 : ¬ (k * 5 + 4 = j * 5 + 4) := by omega
      clear hjk
      go_wp2
      refine NoPanic.normal ?_
      go_upto_region 8 with fail
      go_region
      go_wp2
      have hjz : j - 1 = k := by omega
      have HBN : Below H w _ := HB3.out
      go_roundw
      case rel =>
       refine ⟨k, swA l k, by omega, by go_num, ?_, hide (own_drew HON.out), HPN, HSN⟩
       refine hide (Below.drew (Below.setCell (Below.setCell (Below.setCell (Below.setCell (Below.setCell (Below.setCell (Below.setCell (Below.setCell (Below.setCell (Below.setCell HB3.out ?_ _) ?_ _) ?_ _) ?_ _) ?_ _) ?_ _) ?_ _) ?_ _) ?_ _) ?_ _))
       all_goals (dsimp only; omega)
      case measure => simp [intOf]; omega
  ·
   have ti : decide ((i : Int) < (n : Int)) = false := decide_eq_false (by omega)
   have hlS : l = S := by rw [HSS.out]; exact sort_end HS.out (by rw [HLL.out]; omega) HP.out
   subst hlS
   have HR := hide (Rd.of_own HO2.out (fun i j hi hj => arcRow_at _ i j (by rw [HLL.out]; exact hi) hj))
   obtain ⟨Z, hZ⟩ : ∃ Z, Z = wr.heap.size := ⟨_, rfl⟩
   have hHZ : H ≤ Z := by have := HB2.out.size; omega
   have HBZ := hide HB2.out
   have hZ1 : Z ≤ wr.heap.size := by omega
   rw [← hZ] at HR
   have HLZ := hide hZ
   clear hZ HS HP HSS ti HO2 HB2
   go_wp2
   go_loopw [57, 8] (fun iv kv w8 => ∃ (k m : Nat) (l2 : List Arc), k ≤ n ∧ m ≤ k ∧ iv = .int .i64 k ∧ Hid (l2 = compact (sameA red) (l.take k)) ∧ Hid (l2.length = m) ∧ Hid (Below Z wr w8) ∧ Hid (∃ A5 c5, kv = .slice A5 m c5 ∧ w8.ownsRow Z 61 5 (.slice A5 m c5) m (arcRow l2))) (fun iv _ _ => n - (intOf iv).toNat)
   case atStart => exact ⟨0, 0, [], by omega, Nat.le_refl _, rfl, hide rfl, hide rfl, hide (Below.refl _ _), hide ⟨none, 0, rfl, World.ownsRow_nil _ _ _ _⟩⟩
   case round =>
    obtain ⟨k, m, l2, hkn, hmk, rfl, HC, HM, HBK, HK⟩ := hrel
    obtain ⟨A5, c5, rfl, hown5⟩ := HK.out
    have HOWN := hide hown5
    have hlow : ∀ q, (Value.slice A5 m c5).ownBlock = some q → Z ≤ q ∧ q < wr.heap.size := fun q hq => hown5.lt q hq
    have HLOW := hide hlow
    have HR2 := hide (HR.out.below HBK.out (Nat.le_refl _))
    have hsz := HBK.out.size
    have hZw : Z ≤ wr.heap.size := by omega
    clear HK hown5 hlow
    by_cases hk : k < n
    ·
     have tk : decide ((k : Int) < (n : Int)) = true := decide_eq_true (by omega)
     obtain ⟨b, off, a, rfl, hbZ, a0, a1, a2, a3, a4, HA⟩ := arcs_at HR2.out hk
     have lb : b < wr.heap.size := by omega
     have ki0 : (0 : Int) ≤ (k : Int) := by omega
     have ki1 : (k : Int) < (n : Int) := by omega
     have HT := hide (compact_take (e := sameA red) (show k < l.length by rw [HLL.out]; exact hk) HA.out)
     rcases Nat.eq_zero_or_pos k with hk0 | hk0
     ·
      have tz : decide ((k : Int) > 0) = false := decide_eq_false (by omega)
      have HCN := hide (show compact (sameA red) (l.take (k + 1)) = l2 ++ [a] by rw [HT.out, if_neg (by omega), HC.out])
      clear HT
      subst hk0
      simp only [Nat.zero_mul, Nat.add_zero] at a0 a1 a2 a3 a4
      go_upto_region 17 with fail
      generalize hW5 : World.alloc _ _ = W5
      obtain ⟨Y, hY⟩ : ∃ Y, Y = wr.heap.size := ⟨_, rfl⟩
      have bA : Blk W5 Y 61 #[.int .i64 a.f, .int .i64 a.t, .int .i64 a.i, .int .i64 a.o, .int .i64 a.w] := by rw [← hW5]; exact Blk.at_ hY
      have HO5 := hide (show W5.ownsRow Z 61 5 (.slice A5 m c5) m (arcRow l2) by rw [← hW5]; exact HOWN.out.alloc _)
      have HB5 := hide (show Below Z _ W5 from HBK.out.trans (show Below Z wr W5 by rw [← hW5]; exact (Below.refl Z wr).alloc hZw _))
      have hneY : (Value.slice A5 m c5).ownBlock ≠ some Y := fun e => by have := (HLOW.out _ e).2; omega
      have hZY : Z ≤ Y := by omega
      have f0 := bA.cell 0
      have f1 := bA.cell 1
      have f2 := bA.cell 2
      have f3 := bA.cell 3
      have f4 := bA.cell 4
      simp at f0 f1 f2 f3 f4
      have lY := bA.lt
      try simp only [← hY]
      clear hW5 hY bA a0 a1 a2 a3 a4 lb hbZ HBK HOWN HR2
      go_wp2_with (at_builtin; refine wpList_append_own _ rfl (.tmp 106) (.tmp 108) 25 rfl Z 61 ia _ 5 40 Try.underlying25 ha0 ha1 ha2 ha3 rfl (by omega) (.slice A5 m c5) m _ rfl (HO5.out.alloc _) ⟨_, 0, none⟩ 1 1 (arcRow [a]) rfl (by rfl) (World.news_of_block (cs := (arcRow [a]).toArray) (t := 61) (fr := (0, 0)) (Blk.at_ rfl)) (arcRow_one _) (by simp only [maxLen]; omega) (by omega) (by simp; omega) ?_; intro v' w6 hown2 hg2 _; obtain ⟨Av, cv, rfl, hkcv, _⟩ := own_value hown2)
      have hs6 := hg2.size
      simp at hs6
      go_roundw
      case rel => exact ⟨0 + 1, m + 1, l2 ++ [a], by omega, by omega, by go_num, hide HCN.out.symm, hide (by rw [List.length_append, HM.out]; rfl), hide ((HB5.out.alloc (by omega) _).grown hg2 (by simp; omega) (fun q hq => (HLOW.out q hq).1)), hide ⟨Av, cv, rfl, by rw [arcRow_append]; exact hown2⟩⟩
      case measure => simp [intOf]; omega
     ·
      have tz : decide ((k : Int) > 0) = true := decide_eq_true (by omega)
      obtain ⟨k1, hk1⟩ : ∃ k1, k1 + 1 = k := ⟨k - 1, by omega⟩
      obtain ⟨b', off', p, ep, _, p0, p1, p2, p3, p4, HPV⟩ := arcs_at HR2.out (show k1 < n by omega)
      injection ep with ep
      injection ep with ep1 ep2
      subst ep1 ep2
      have ek : (k : Int) - 1 = (k1 : Int) := by omega
      have k10 : (0 : Int) ≤ (k1 : Int) := by omega
      have k11 : (k1 : Int) < (n : Int) := by omega
      have HPE := hide (show l.getD (k - 1) dA = p by rw [show k - 1 = k1 by omega]; exact HPV.out)
      have HSE := hide (sameA_eq red p a)
      clear hk1 HPV
      obtain ⟨lk, hlk⟩ : ∃ z, z = likeA a p := ⟨_, rfl⟩
      obtain ⟨sm, hsm⟩ : ∃ z, z = sameA red p a := ⟨_, rfl⟩
      rw [← hlk, ← hsm] at HSE
      have HLK := hide hlk
      have HSM := hide hsm
      clear hlk hsm
      go_upto_region 15 with fail
      generalize hW5 : World.alloc _ _ = W5
      obtain ⟨Y, hY⟩ : ∃ Y, Y = wr.heap.size := ⟨_, rfl⟩
      have bA : Blk W5 Y 61 #[.int .i64 a.f, .int .i64 a.t, .int .i64 a.i, .int .i64 a.o, .int .i64 a.w] := by rw [← hW5]; exact (Blk.at_ hY).alloc _
      have bP : Blk W5 (Y + 1) 61 #[.int .i64 p.f, .int .i64 p.t, .int .i64 p.i, .int .i64 p.o, .int .i64 p.w] := by rw [← hW5]; exact Blk.at_ (by simp [hY])
      have HO5 := hide (show W5.ownsRow Z 61 5 (.slice A5 m c5) m (arcRow l2) by rw [← hW5]; exact (HOWN.out.alloc _).alloc _)
      have HB5 := hide (show Below Z _ W5 from HBK.out.trans (show Below Z wr W5 by rw [← hW5]; exact ((Below.refl Z wr).alloc hZw _).alloc (by simp; omega) _))
      have hneY : (Value.slice A5 m c5).ownBlock ≠ some Y := fun e => by have := (HLOW.out _ e).2; omega
      have hZY : Z ≤ Y := by omega
      have f0 := bA.cell 0
      have f1 := bA.cell 1
      have f2 := bA.cell 2
      have f3 := bA.cell 3
      have f4 := bA.cell 4
      have g0 := bP.cell 0
      have g1 := bP.cell 1
      have g2 := bP.cell 2
      have g3 := bP.cell 3
      have g4 := bP.cell 4
      simp at f0 f1 f2 f3 f4 g0 g1 g2 g3 g4
      have lY := bA.lt
      have lY1 := bP.lt
      have HBA := hide bA
      try simp only [← hY]
      clear hW5 hY bA bP a0 a1 a2 a3 a4 p0 p1 p2 p3 p4 lb hbZ HBK HOWN HR2
      go_cut [12] from 69 to 110 (fun s12 wx => s12 = .bool lk ∧ wx = W5)
      case first =>
       by_cases e1 : a.f = p.f
       ·
        have t1 : (a.f == p.f) = true := by simp [e1]
        by_cases e2 : a.i = p.i
        ·
         have t2 : (a.i == p.i) = true := by simp [e2]
         by_cases e3 : a.o = p.o
         ·
          have t3 : (a.o == p.o) = true := by simp [e3]
          by_cases e4 : a.t = p.t
          ·
           have t4 : (a.t == p.t) = true := by simp [e4]
           have HV := hide (show lk = true by rw [HLK.out]; unfold likeA; simp [e1, e2, e3, e4])
           clear e1 e2 e3 e4
           go_wp2
           go_meet
           exact ⟨by rw [HV.out], rfl⟩
          ·
           have t4 : (a.t == p.t) = false := by simp [e4]
           have HV := hide (show lk = false by rw [HLK.out]; unfold likeA; simp [e4])
           clear e1 e2 e3 e4
           go_wp2
           go_meet
           exact ⟨by rw [HV.out], rfl⟩
         ·
          have t3 : (a.o == p.o) = false := by simp [e3]
          have HV := hide (show lk = false by rw [HLK.out]; unfold likeA; simp [e3])
          clear e1 e2 e3
          go_wp2
          go_meet
          exact ⟨by rw [HV.out], rfl⟩
        ·
         have t2 : (a.i == p.i) = false := by simp [e2]
         have HV := hide (show lk = false by rw [HLK.out]; unfold likeA; simp [e2])
         clear e1 e2
         go_wp2
         go_meet
         exact ⟨by rw [HV.out], rfl⟩
       ·
        have t1 : (a.f == p.f) = false := by simp [e1]
        have HV := hide (show lk = false by rw [HLK.out]; unfold likeA; simp [e1])
        clear e1
        go_wp2
        go_meet
        exact ⟨by rw [HV.out], rfl⟩
      case rest =>
      obtain ⟨rfl, rfl⟩ := hcut
      go_upto_region 16 with fail
      go_cut [105] from 95 to 110 (fun s105 wx => s105 = .bool sm ∧ wx = wc)
      case first =>
       cases lk
       ·
        have HV := hide (show sm = false by rw [HSE.out]; rfl)
        go_wp2
        go_meet
        exact ⟨by rw [HV.out], rfl⟩
       ·
        cases red
        ·
         by_cases e5 : a.w = p.w
         ·
          have t5 : (a.w == p.w) = true := by simp [e5]
          have HV := hide (show sm = true by rw [HSE.out]; simp [e5])
          clear e5
          go_wp2
          go_meet
          exact ⟨by rw [HV.out], rfl⟩
         ·
          have t5 : (a.w == p.w) = false := by simp [e5]
          have HV := hide (show sm = false by rw [HSE.out]; simp [e5])
          clear e5
          go_wp2
          go_meet
          exact ⟨by rw [HV.out], rfl⟩
        ·
         have HV := hide (show sm = true by rw [HSE.out]; rfl)
         go_wp2
         go_meet
         exact ⟨by rw [HV.out], rfl⟩
      case rest =>
      obtain ⟨rfl, rfl⟩ := hcut
      cases sm
      ·
       have HCN := hide (show compact (sameA red) (l.take (k + 1)) = l2 ++ [a] by rw [HT.out, if_neg (by rw [HPE.out, ← HSM.out]; simp), HC.out])
       clear HT HSE HSM HLK HPE g0 g1 g2 g3 g4 lY1
       go_wp2_with (at_builtin; refine wpList_append_own _ rfl (.tmp 106) (.tmp 108) 25 rfl Z 61 ia _ 5 40 Try.underlying25 ha0 ha1 ha2 ha3 rfl (by omega) (.slice A5 m c5) m _ rfl (HO5.out.alloc _) ⟨_, 0, none⟩ 1 1 (arcRow [a]) rfl (by rfl) (World.news_of_block (cs := (arcRow [a]).toArray) (t := 61) (fr := (0, 0)) (Blk.at_ rfl)) (arcRow_one _) (by simp only [maxLen]; omega) (by omega) (by simp; omega) ?_; intro v' w6 hown2 hg2 _; obtain ⟨Av, cv, rfl, hkcv, _⟩ := own_value hown2)
       have hs6 := hg2.size
       simp at hs6
       go_roundw
       case rel => exact ⟨k + 1, m + 1, l2 ++ [a], by omega, by omega, by go_num, hide HCN.out.symm, hide (by rw [List.length_append, HM.out]; rfl), hide ((HB5.out.alloc (by omega) _).grown hg2 (by simp; omega) (fun q hq => (HLOW.out q hq).1)), hide ⟨Av, cv, rfl, by rw [arcRow_append]; exact hown2⟩⟩
       case measure => simp [intOf]; omega
      ·
       have HCN := hide (show compact (sameA red) (l.take (k + 1)) = l2 by rw [HT.out, if_pos ⟨hk0, by rw [HPE.out]; exact HSM.out.symm⟩, List.append_nil, HC.out])
       clear HT HSE HSM HLK HPE g0 g1 g2 g3 g4 lY1
       go_wp2
       go_roundw
       case rel => exact ⟨k + 1, m, l2, by omega, by omega, by go_num, hide HCN.out.symm, HM, HB5, hide ⟨A5, c5, rfl, HO5.out⟩⟩
       case measure => simp [intOf]; omega
    ·
     obtain rfl : k = n := by omega
     have tk : decide ((k : Int) < (k : Int)) = false := decide_eq_false (by omega)
     have HCE := hide (show l2 = compact (sameA red) l by rw [HC.out, List.take_of_length_le (by rw [HLL.out]; exact Nat.le_refl _)])
     go_wp2
     exact bodyPost_ret (v := .slice A5 m c5) (by simp [results, Try.results69, go_sem]) rfl ⟨A5, c5, by rw [← HCE.out, HM.out], by rw [← HCE.out, HM.out, ← HHW.out]; exact own_monoS HOWN.out hHZ, by rw [← HHW.out]; exact HBZ.out.trans (HBK.out.mono hHZ)⟩
end Go.Proofs.Ytopakcbhodnipaa
/- Text DqZ. -/
namespace Gm
set_option linter.unusedSimpArgs false
set_option linter.unusedVariables false
section
variable {α β : Type} [DecidableEq α] [DecidableEq β]
end
end Gm
namespace Gm
set_option linter.unusedSimpArgs false
set_option linter.unusedVariables false
section
variable {α : Type} [DecidableEq α] (stp : α → List (Int × α)) (fin : α → Bool)
end
end Gm
namespace Gm
set_option linter.unusedSimpArgs false
set_option linter.unusedVariables false
section
variable {α β : Type}
end
end Gm
namespace Gm
set_option linter.unusedSimpArgs false
set_option linter.unusedVariables false
section
variable {γ : Type} [DecidableEq γ]
end
section
variable (ls : List Int) (row : Nat → List Int) (fin : Nat → Bool) (n : Nat)
variable {ls row fin n}
end
end Gm
namespace Gm
set_option linter.unusedSimpArgs false
set_option linter.unusedVariables false
section
variable {α : Type} [DecidableEq α]
end
section
variable {ls : List Int} {row : Nat → List Int} {fin : Nat → Bool} {n : Nat}
end
end Gm
namespace Gm
set_option linter.unusedSimpArgs false
set_option linter.unusedVariables false
section
variable {ls : List Int} {row : Nat → List Int} {fin : Nat → Bool} {n : Nat}
theorem sameL_fin {p q : Nat} (h : SameL ls row fin p q) : fin p = fin q := by
 have := h []
 unfold accS at this
 cases h1 : fin p <;> cases h2 : fin q <;> simp_all
theorem sameL_next (hT : Tab ls row fin n) {p q : Nat} (hp : p < n) (hq : q < n) (h : SameL ls row fin p q) {j : Nat} {a b : Int} (ha : (row p)[j]? = some a) (hb : (row q)[j]? = some b) (h0 : 0 ≤ a) : 0 ≤ b ∧ SameL ls row fin a.toNat b.toNat := by
 obtain ⟨w, hw⟩ := hT.use p hp a (List.mem_of_getElem? ha) h0
 have hj : j < ls.length := by rw [← hT.len p hp]; exact (List.getElem?_eq_some_iff.1 ha).1
 have hx : ls[j]? = some ls[j] := List.getElem?_eq_getElem hj
 have hs1 : (ls[j], a.toNat) ∈ tstp ls row p := mem_tstp.2 ⟨j, a, hx, ha, h0, rfl⟩
 obtain ⟨u, hu, hw2⟩ := (h (ls[j] :: w)).1 ⟨a.toNat, hs1, hw⟩
 obtain ⟨j2, q2, g1, g2, g3, rfl⟩ := mem_tstp.1 hu
 have ej : j2 = j := by
  obtain ⟨hl2, he2⟩ := List.getElem?_eq_some_iff.1 g1
  have hnd : ls.Nodup := hT.inc.imp fun {a b} h e => by omega
  exact (List.getElem_inj hnd).1 he2
 subst ej
 rw [hb] at g2
 injection g2 with g2
 subst g2
 refine ⟨g3, fun v => ?_⟩
 have e2 := h (ls[j2] :: v)
 unfold accS at e2
 constructor
 ·
  intro hv
  obtain ⟨u, hu, hv2⟩ := e2.1 ⟨a.toNat, hs1, hv⟩
  rw [incS_one (tstp_inc hT.inc q) (mem_tstp.2 ⟨j2, b, hx, hb, g3, rfl⟩) hu]
  exact hv2
 ·
  intro hv
  obtain ⟨u, hu, hv2⟩ := e2.2 ⟨b.toNat, mem_tstp.2 ⟨j2, b, hx, hb, g3, rfl⟩, hv⟩
  rw [incS_one (tstp_inc hT.inc p) hs1 hu]
  exact hv2
theorem differ_sound (hT : Tab ls row fin n) {ap : Nat → Nat → Bool} (h : Sound ls row fin n ap) {p q : Nat} (hp : p < n) (hq : q < n) (hd : differK row fin ap p q) : ¬ SameL ls row fin p q := by
 intro hs
 rcases hd with hf | ⟨j, a, b, ha, hb, hd⟩
 · exact hf (sameL_fin hs)
 ·
  rcases hd with ⟨h1, h2⟩ | ⟨h1, h2⟩ | ⟨h1, h2⟩
  · have := (sameL_next hT hq hp hs.symm hb ha (by omega)).1; omega
  · have := (sameL_next hT hp hq hs ha hb (by omega)).1; omega
  ·
   obtain ⟨h3, h4⟩ := sameL_next hT hp hq hs ha hb h1
   exact h _ _ (by have := hT.rng p hp a (List.mem_of_getElem? ha); omega) (by have := hT.rng q hq b (List.mem_of_getElem? hb); omega) h2 h4
theorem apart_end (hT : Tab ls row fin n) {ap : Nat → Nat → Bool} (h : Sound ls row fin n ap) (hd : ∀ p q, p < n → q < n → ap p q = false → ¬ differK row fin ap p q) : ∀ p q, p < n → q < n → (ap p q = false ↔ SameL ls row fin p q) := by
 have go : ∀ (w : List Int) (p q : Nat), p < n → q < n → ap p q = false → (accS (tstp ls row) fin p w ↔ accS (tstp ls row) fin q w) := by
  intro w
  induction w with
  | nil =>
   intro p q hp hq e
   have : fin p = fin q := Classical.byContradiction fun g => hd p q hp hq e (.inl g)
   unfold accS
   rw [this]
  | cons x w ih =>
   intro p q hp hq e
   have hnd : ls.Nodup := hT.inc.imp fun {a b} h e => by omega
   have step : ∀ p q, p < n → q < n → (∀ (j : Nat) (a b : Int), (row p)[j]? = some a → (row q)[j]? = some b → 0 ≤ a → 0 ≤ b ∧ ∀ w', w' = w → (accS (tstp ls row) fin a.toNat w ↔ accS (tstp ls row) fin b.toNat w)) → accS (tstp ls row) fin p (x :: w) → accS (tstp ls row) fin q (x :: w) := by
    intro p q hp hq hh hw
    obtain ⟨u, hu, hw⟩ := hw
    obtain ⟨j, a, g1, g2, g3, rfl⟩ := mem_tstp.1 hu
    have hj : j < ls.length := (List.getElem?_eq_some_iff.1 g1).1
    have e2 : (row q)[j]? = some ((row q)[j]'(by rw [hT.len q hq]; exact hj)) := List.getElem?_eq_getElem _
    obtain ⟨g4, g5⟩ := hh j a _ g2 e2 g3
    exact ⟨_, mem_tstp.2 ⟨j, _, g1, e2, g4, rfl⟩, (g5 w rfl).1 hw⟩
   have hh : ∀ (j : Nat) (a b : Int), (row p)[j]? = some a → (row q)[j]? = some b → (0 ≤ a ↔ 0 ≤ b) ∧ (0 ≤ a → (accS (tstp ls row) fin a.toNat w ↔ accS (tstp ls row) fin b.toNat w)) := by
    intro j a b ha hb
    have hn := hd p q hp hq e
    have h1 : 0 ≤ a ↔ 0 ≤ b := by
     constructor
     · intro g; exact Classical.byContradiction fun g' => hn (.inr ⟨j, a, b, ha, hb, .inr (.inl ⟨by omega, by omega⟩)⟩)
     · intro g; exact Classical.byContradiction fun g' => hn (.inr ⟨j, a, b, ha, hb, .inl ⟨by omega, by omega⟩⟩)
    refine ⟨h1, fun g => ih _ _ (by have := hT.rng p hp a (List.mem_of_getElem? ha); omega) (by have := hT.rng q hq b (List.mem_of_getElem? hb); have := h1.1 g; omega) ?_⟩
    cases hap : ap a.toNat b.toNat
    · rfl
    · exact absurd (.inr ⟨j, a, b, ha, hb, .inr (.inr ⟨g, hap⟩)⟩) hn
   constructor
   · exact step p q hp hq fun j a b ha hb g => ⟨(hh j a b ha hb).1.1 g, fun _ _ => (hh j a b ha hb).2 g⟩
   · exact step q p hq hp fun j b a hb ha g => ⟨(hh j a b ha hb).1.2 g, fun _ _ => ((hh j a b ha hb).2 ((hh j a b ha hb).1.2 g)).symm⟩
 intro p q hp hq
 constructor
 · exact fun e w => go w p q hp hq e
 ·
  intro e
  cases hap : ap p q
  · rfl
  · exact absurd e (h p q hp hq hap)
end
end Gm
namespace Gm
set_option linter.unusedSimpArgs false
set_option linter.unusedVariables false
section
variable {α : Type} [DecidableEq α] {stp : α → List (Int × α)} {fin : α → Bool}
end
end Gm
namespace Gm
set_option linter.unusedSimpArgs false
set_option linter.unusedVariables false
section
variable {ls : List Int} {row : Nat → List Int} {fin : Nat → Bool} {n : Nat}
end
end Gm
namespace Gm
set_option linter.unusedSimpArgs false
set_option linter.unusedVariables false
section
variable {ls : List Int} {row : Nat → List Int} {fin : Nat → Bool} {n : Nat}
variable (hi : ls.Pairwise (· < ·)) (h0 : ∀ x ∈ ls, x ≠ 0) (hr : ∀ s, s < n → ∀ t ∈ row s, t < (n : Int))
include hr in
include hr in
include hr in
include hi in
include hi h0 hr in
include hi h0 hr in
end
end Gm
namespace Gm
set_option linter.unusedSimpArgs false
set_option linter.unusedVariables false
section
variable {α : Type} [DecidableEq α] {stp : α → List (Int × α)} {fin : α → Bool}
end
end Gm
namespace Gm
set_option linter.unusedSimpArgs false
set_option linter.unusedVariables false
end Gm
namespace Gm
set_option linter.unusedSimpArgs false
set_option linter.unusedVariables false
section
variable {ls : List Int} {row : Nat → List Int} {fin : Nat → Bool} {n : Nat}
structure LeastC (m : Mach) (c : Nat → Nat) (k : Nat) : Prop where
 same : ∀ s t, s < k → t < k → (c s = c t ↔ SameL (lsM m) (rowM m) (finM' m) s t)
 low : ∀ s, s < k → c s < k ∧ c (c s) = c s
 zero : c 0 = 0
end
end Gm
namespace Gm
set_option linter.unusedSimpArgs false
set_option linter.unusedVariables false
section
variable {l : List Int} {L : List (List Int)} {nf : Nat}
end
end Gm
namespace Gm
set_option linter.unusedSimpArgs false
set_option linter.unusedVariables false
section
variable {α : Type} [DecidableEq α] (stp : α → List (Int × α)) (fin : α → Bool) (s0 : α)
variable {stp fin s0}
end
end Gm
namespace Gm
set_option linter.unusedSimpArgs false
set_option linter.unusedVariables false
end Gm
namespace Gm
set_option linter.unusedSimpArgs false
set_option linter.unusedVariables false
end Gm
namespace Gm
def finW : List Fnl → Int → Int
 | [], _ => -1
 | x :: l, s => if x.s = s then x.w else finW l s
theorem finW_skip {s : Int} : ∀ {l : List Fnl} {k : Nat}, (∀ x ∈ l.take k, x.s ≠ s) → finW l s = finW (l.drop k) s
 | [], k, _ => by simp
 | x :: l, 0, _ => rfl
 | x :: l, k + 1, h => by
  have h1 := h x (by simp)
  rw [List.drop_succ_cons, ← finW_skip (l := l) (k := k) fun y hy => h y (by simp [hy])]
  show (if x.s = s then x.w else finW l s) = _
  rw [if_neg h1]
theorem finW_hit {s : Int} {l : List Fnl} {k : Nat} {x : Fnl} (h : ∀ y ∈ l.take k, y.s ≠ s) (hk : k < l.length) (hx : l.getD k dF = x) (e : x.s = s) : finW l s = x.w := by
 have hg : l[k] = x := by rw [← hx]; simp [hk]
 rw [finW_skip h, List.drop_eq_getElem_cons hk, hg]
 show (if x.s = s then x.w else _) = _
 rw [if_pos e]
theorem finW_miss {s : Int} {l : List Fnl} (h : ∀ y ∈ l, y.s ≠ s) : finW l s = -1 := by
 rw [finW_skip (k := l.length) (by rw [List.take_length]; exact h), List.drop_length]
 rfl
end Gm
namespace Gm
set_option linter.unusedSimpArgs false
set_option linter.unusedVariables false
theorem pair_lt {p q n : Nat} (hp : p < n) (hq : q < n) : p * n + q < n * n := by
 have h := Nat.mul_le_mul_right n (show p + 1 ≤ n by omega)
 rw [Nat.succ_mul] at h
 omega
section
variable {ls : List Int} {row : Nat → List Int} {fin : Nat → Bool} {n : Nat}
def difB (A : Nat → Bool) (n : Nat) (a b : Int) : Bool := (decide (a < 0) != decide (b < 0)) || (decide (0 ≤ a) && A (a.toNat * n + b.toNat))
def diffJ (row : Nat → List Int) (fin : Nat → Bool) (n : Nat) (A : Nat → Bool) (p q j : Nat) : Bool := (fin p != fin q) || (List.range j).any fun k => difB A n ((row p).getD k 0) ((row q).getD k 0)
theorem diffJ_next (A : Nat → Bool) (p q j : Nat) : diffJ row fin n A p q (j + 1) = (diffJ row fin n A p q j || difB A n ((row p).getD j 0) ((row q).getD j 0)) := by
 unfold diffJ
 rw [List.range_succ, List.any_append]
 simp [Bool.or_assoc]
theorem diffJ_iff {A : Nat → Bool} {p q k : Nat} (h1 : (row p).length = k) (h2 : (row q).length = k) : diffJ row fin n A p q k = true ↔ differK row fin (apO A n) p q := by
 unfold diffJ differK
 rw [Bool.or_eq_true, List.any_eq_true]
 refine or_congr ?_ ?_
 · cases fin p <;> cases fin q <;> simp
 ·
  constructor
  ·
   rintro ⟨j, hj, h⟩
   have hj := List.mem_range.1 hj
   have e1 : (row p)[j]? = some ((row p).getD j 0) := by rw [List.getD_eq_getElem?_getD, List.getElem?_eq_getElem (by omega)]; rfl
   have e2 : (row q)[j]? = some ((row q).getD j 0) := by rw [List.getD_eq_getElem?_getD, List.getElem?_eq_getElem (by omega)]; rfl
   refine ⟨j, _, _, e1, e2, ?_⟩
   generalize (row p).getD j 0 = a at h ⊢
   generalize (row q).getD j 0 = b at h ⊢
   unfold difB at h
   rw [Bool.or_eq_true, Bool.and_eq_true] at h
   rcases h with h | ⟨h, g⟩
   ·
    by_cases ha : a < 0
    ·
     by_cases hb : b < 0
     · simp [ha, hb] at h
     · exact .inl ⟨ha, hb⟩
    ·
     by_cases hb : b < 0
     · exact .inr (.inl ⟨ha, hb⟩)
     · simp [ha, hb] at h
   · exact .inr (.inr ⟨of_decide_eq_true h, g⟩)
  ·
   rintro ⟨j, a, b, ha, hb, h⟩
   have hj : j < k := by rw [← h1]; exact (List.getElem?_eq_some_iff.1 ha).1
   refine ⟨j, List.mem_range.2 hj, ?_⟩
   have e1 : (row p).getD j 0 = a := by rw [List.getD_eq_getElem?_getD, ha]; rfl
   have e2 : (row q).getD j 0 = b := by rw [List.getD_eq_getElem?_getD, hb]; rfl
   rw [e1, e2]
   unfold difB
   rcases h with ⟨h1, h2⟩ | ⟨h1, h2⟩ | ⟨h1, h2⟩
   · simp [h1, h2]
   · simp [h1, h2]
   ·
    have h2 : A (a.toNat * n + b.toNat) = true := h2
    simp [h1, h2]
theorem ApI.start {A : Nat → Bool} (h : Sound ls row fin n (apO A n)) : ApI ls row fin n A A false 0 := ⟨h, fun _ p q _ _ g => by omega, Nat.le_refl _, fun h => by cases h⟩
theorem ApI.mark (hT : Tab ls row fin n) {A0 A : Nat → Bool} {again : Bool} {p q : Nat} (hp : p < n) (hq : q < n) (h : ApI ls row fin n A0 A again (p * n + q)) (hA : A (p * n + q) = false) (hd : differK row fin (apO A n) p q) : ApI ls row fin n A0 (upd A (p * n + q)) true (p * n + q + 1) := by
 have hlt := pair_lt hp hq
 have hc := offN_upd hA (n * n) hlt
 have := h.le
 refine ⟨fun p' q' hp' hq' g => ?_, fun g => absurd g (by simp), by omega, fun _ => by omega⟩
 unfold apO upd at g
 by_cases e : p' * n + q' = p * n + q
 ·
  obtain ⟨rfl, rfl⟩ := pair_inj hq' hq e
  exact differ_sound hT h.snd hp hq hd
 ·
  rw [if_neg e] at g
  exact h.snd p' q' hp' hq' g
theorem ApI.all (hT : Tab ls row fin n) {A0 A : Nat → Bool} (h : ApI ls row fin n A0 A false (n * n)) : ∀ p q, p < n → q < n → (A (p * n + q) = false ↔ SameL ls row fin p q) :=
 apart_end hT h.snd fun p q hp hq hA => h.done rfl p q hp hq (pair_lt hp hq) hA
theorem sound_none : Sound ls row fin n (apO (fun _ => false) n) := fun p q _ _ h => by cases h
def lq (A : Nat → Bool) (n p : Nat) : Nat → Nat
 | 0 => 0
 | j + 1 => if A (p * n + (n - 1 - j)) = false then n - 1 - j else lq A n p j
theorem lq_spec {A : Nat → Bool} {p : Nat} : ∀ j, j ≤ n → (∃ q, n - j ≤ q ∧ q < n ∧ A (p * n + q) = false) → A (p * n + lq A n p j) = false ∧ lq A n p j < n ∧ ∀ q, n - j ≤ q → q < lq A n p j → A (p * n + q) = true
 | 0, _, ⟨q, h1, h2, _⟩ => by omega
 | j + 1, hj, ⟨q, h1, h2, h3⟩ => by
  unfold lq
  by_cases h : A (p * n + (n - 1 - j)) = false
  ·
   rw [if_pos h]
   exact ⟨h, by omega, fun q hq hq' => by omega⟩
  ·
   rw [if_neg h]
   have hne : q ≠ n - 1 - j := fun e => h (e ▸ h3)
   obtain ⟨g1, g2, g3⟩ := lq_spec (p := p) j (by omega) ⟨q, by omega, h2, h3⟩
   refine ⟨g1, g2, fun r hr hr' => ?_⟩
   by_cases e : r = n - 1 - j
   · subst e; simpa using h
   · exact g3 r (by omega) hr'
theorem lq_least {A : Nat → Bool} (hA : ∀ p q, p < n → q < n → (A (p * n + q) = false ↔ SameL ls row fin p q)) : (∀ s t, s < n → t < n → (lq A n s n = lq A n t n ↔ SameL ls row fin s t)) ∧ (∀ s, s < n → lq A n s n < n ∧ lq A n (lq A n s n) n = lq A n s n) ∧ (0 < n → lq A n 0 n = 0) := by
 have hself : ∀ s, s < n → A (s * n + s) = false := fun s hs => (hA s s hs hs).2 fun w => Iff.rfl
 have sp := fun s (hs : s < n) => lq_spec (A := A) (p := s) n (Nat.le_refl _) ⟨s, by omega, hs, hself s hs⟩
 have same : ∀ s t, s < n → t < n → (lq A n s n = lq A n t n ↔ SameL ls row fin s t) := fun s t hs ht => by
  obtain ⟨a1, a2, a3⟩ := sp s hs
  obtain ⟨b1, b2, b3⟩ := sp t ht
  constructor
  ·
   intro e
   have h1 := (hA _ _ hs a2).1 a1
   have h2 := (hA _ _ ht b2).1 b1
   rw [e] at h1
   exact h1.trans h2.symm
  ·
   intro h
   have key : ∀ s t, s < n → t < n → SameL ls row fin s t → ¬ lq A n t n < lq A n s n := fun s t hs ht h hlt => by
    obtain ⟨a1, a2, a3⟩ := sp s hs
    obtain ⟨b1, b2, b3⟩ := sp t ht
    have h1 := a3 _ (by omega) hlt
    have h2 := (hA _ _ ht b2).1 b1
    rw [(hA _ _ hs b2).2 (h.trans h2)] at h1
    cases h1
   have k1 := key s t hs ht h
   have k2 := key t s ht hs h.symm
   omega
 refine ⟨same, fun s hs => ?_, fun hn => ?_⟩
 ·
  obtain ⟨a1, a2, a3⟩ := sp s hs
  refine ⟨a2, ?_⟩
  exact (same _ _ a2 hs).2 ((hA _ _ hs a2).1 a1).symm
 ·
  obtain ⟨a1, a2, a3⟩ := sp 0 hn
  rcases Nat.eq_zero_or_pos (lq A n 0 n) with e | e
  · exact e
  ·
   have h1 := a3 0 (by omega) e
   rw [hself 0 hn] at h1
   cases h1
end
theorem few_least {m : Mach} {n : Nat} {A : Nat → Bool} (hA : ∀ p q, p < n → q < n → (A (p * n + q) = false ↔ SameL (lsM m) (rowM m) (finM' m) p q)) (hn : 0 < n) : LeastC m (fun p => lq A n p n) n :=
 ⟨(lq_least hA).1, (lq_least hA).2.1, (lq_least hA).2.2 hn⟩
theorem finW_neg {m : Mach} (h : ∀ x ∈ m.fins, 0 ≤ x.w) (s : Nat) : decide (finW m.fins (s : Int) < 0) = !finM' m s := by
 unfold finM'
 generalize m.fins = l at h
 induction l with
 | nil => rfl
 | cons x l ih =>
  have ih := ih fun y hy => h y (List.mem_cons_of_mem _ hy)
  have hx := h x List.mem_cons_self
  show decide ((if x.s = (s : Int) then x.w else finW l s) < 0) = _
  rw [List.any_cons]
  by_cases e : x.s = (s : Int)
  · simp [e]; omega
  · rw [if_neg e, ih]; simp [e]
end Gm
namespace Gm
def atF (l : List Nat) (u t : Nat) : Int := if u ∈ l.take t then ((l.idxOf u : Nat) : Int) else -1
theorem atF_zero (l : List Nat) (u : Nat) : atF l u 0 = -1 := by unfold atF; simp
theorem atF_next {l : List Nat} (hn : l.Nodup) {u t v : Nat} (hv : l[t]? = some v) : atF l u (t + 1) = if v = u then (t : Int) else atF l u t := by
 have ht : t < l.length := (List.getElem?_eq_some_iff.1 hv).1
 have hg : l[t] = v := (List.getElem?_eq_some_iff.1 hv).2
 unfold atF
 rw [List.take_add_one, hv]
 by_cases e : v = u
 ·
  subst e
  rw [if_pos (by simp), if_pos rfl]
  congr 1
  rw [← hg]
  exact_mod_cast hn.idxOf_getElem t ht
 ·
  rw [if_neg e]
  by_cases g : u ∈ l.take t
  · rw [if_pos (List.mem_append.2 (.inl g)), if_pos g]
  · rw [if_neg g, if_neg (fun h => by
   rcases List.mem_append.1 h with h | h
   · exact g h
   · simp at h; exact e h.symm)]
theorem atF_end {l : List Nat} {u t : Nat} (ht : l.length ≤ t) : atF l u t = if u ∈ l then ((l.idxOf u : Nat) : Int) else -1 := by unfold atF; rw [List.take_of_length_le ht]
theorem fwI_of {m : Mach} {S : Nat} {A : Nat → Bool} (hT : Tab (lsM m) (rowM m) (finM' m) S) (hA : ∀ p q, p < S → q < S → (A (p * S + q) = false ↔ SameL (lsM m) (rowM m) (finM' m) p q)) (hS : 0 < S) (hu : ∃ v, langM m 0 v) : FwI m S (fun p => lq A S p S) := by
 have h := few_least hA hS
 refine ⟨hT, fun s hs => (h.low s hs).1, h.zero, hS, ?_⟩
 have hc := class_canon hT (c := fun p => lq A S p S) (rep := id) h.same (fun s hs => h.low s hs) (s0 := 0) hS hu (Nat.le_refl S) S (Nat.le_refl S)
 rw [h.zero] at hc
 exact hc
section
variable {m : Mach} {S : Nat} {c : Nat → Nat}
theorem FwI.done (h : FwI m S c) {i : Nat} (hi : i ≤ S) (he : (StW m c i).1.1.length ≤ i) : canonM (lsM m) (langM m 0) S = ⟨((StW m c i).1.1.length : Int), (StW m c i).1.2, (StW m c i).2⟩ := by
 rw [← h.canon, stB_end he hi]
end
end Gm
/- Text EaP. -/
namespace Gm
set_option linter.unusedSimpArgs false
set_option linter.unusedVariables false
def epsA (A : List Arc) : List Arc := A.filter fun a => decide (a.i = 0)
theorem mem_eps {A : List Arc} {a : Arc} : a ∈ epsA A ↔ a ∈ A ∧ a.i = 0 := by
 unfold epsA
 rw [List.mem_filter]
 simp
theorem near_rs {A : List Arc} {I : List Int} {t : Int} : RS false (epsA A) I t ↔ ∃ s ∈ I, Near A s t := by
 constructor
 ·
  intro h
  induction h with
  | base h => exact ⟨_, h, .base⟩
  | @step u v a _ ha hu hv ih =>
   obtain ⟨s, hs, hn⟩ := ih
   obtain ⟨h1, h2⟩ := mem_eps.1 ha
   have hu : a.f = u := hu
   have hv : a.t = v := hv
   subst hu hv
   exact ⟨s, hs, .step hn h1 h2⟩
 ·
  rintro ⟨s, hs, hn⟩
  induction hn with
  | base => exact .base hs
  | step _ ha hi ih => exact .step ih (mem_eps.2 ⟨ha, hi⟩) rfl rfl
end Gm
/- Text FwW. -/
namespace Go.Proofs.Ytopakcbhodnipaa
open Go.RowKit Gm
set_option linter.unusedSimpArgs false
set_option linter.unusedVariables false
set_option maxRecDepth 100000 in
set_option maxHeartbeats 4000000 in
theorem finw_any (va : Value) (a : Mach) (s : Int) (w : World) (B : Nat) (hB : B ≤ w.heap.size) (ha : MachAt w B va a) :
 Calls Try.prog 48 #[va, .int .i64 s] w fun e w' => e = .returned (.int .i64 (finW a.fins s)) ∧ Below w.heap.size w w' := by
 obtain ⟨A, AF, n, c, nf, cf, rfl, HN, HF, hnc, hnfc, hnb, hnfb, hA, hF⟩ := ha
 have HRF := hide hF
 unfold big at hnb hnfb
 clear hA hF
 go_enter Try.func48, Try.ntmps48
 go_upto_region 2 with fail
 generalize hW2 : World.alloc _ _ = W2
 have HBW := hide (show Below w.heap.size w W2 by rw [← hW2]; go_grown)
 have hz2 : w.heap.size ≤ W2.heap.size := HBW.out.size
 have HRF2 := hide (HRF.out.below HBW.out hB)
 clear hW2 HRF
 go_loopw [10] (fun iv wr => ∃ k : Nat, k ≤ nf ∧ iv = .int .i64 k ∧ Hid (∀ x ∈ a.fins.take k, x.s ≠ s) ∧ Hid (Below w.heap.size W2 wr) ∧ w.heap.size ≤ wr.heap.size) (fun iv _ => nf - (intOf iv).toNat)
 case atStart => exact ⟨0, by omega, rfl, hide (fun x hx => by simp at hx), hide (Below.refl _ _), hz2⟩
 case round =>
  obtain ⟨k, hk, rfl, HALL, HBK, hzr⟩ := hrel
  by_cases hkn : k < nf
  ·
   obtain ⟨bb, off, x, rfl, hbB, d0, d1, HX⟩ := fins_at (HRF2.out.below HBK.out hB) hkn
   have hkl : k < a.fins.length := by rw [HF.out]; exact hkn
   have hgx : a.fins[k] = x := by rw [← HX.out]; simp [hkl]
   have lb : bb < wr.heap.size := by omega
   by_cases hw : x.s = s
   ·
    have t3 : (x.s == s) = true := by simp [hw]
    have HR := hide (finW_hit HALL.out hkl HX.out hw)
    have HBE := hide (HBW.out.trans HBK.out)
    clear hw hgx hkl HX HALL
    go_wp2
    exact bodyPost_ret (v := .int .i64 x.w) (by simp [results, Try.results48, go_sem]) rfl ⟨by rw [HR.out], HBE.out.alloc hzr _⟩
   ·
    have t3 : (x.s == s) = false := by simp [hw]
    have HALL2 := hide (show ∀ y ∈ a.fins.take (k + 1), y.s ≠ s from fun y hy => by
     rw [List.take_add_one, List.getElem?_eq_getElem hkl, hgx] at hy
     rcases List.mem_append.1 hy with h | h
     · exact HALL.out y h
     · simp at h; subst h; exact hw)
    clear hw hgx hkl HX HALL
    go_wp2
    go_roundw
    case rel => exact ⟨k + 1, by omega, by go_num, HALL2, hide (HBK.out.alloc hzr _), by simp; omega⟩
    case measure => simp [intOf]; omega
  ·
   obtain rfl : nf = k := by omega
   have HR := hide (finW_miss (s := s) (l := a.fins) (by have h := HALL.out; rw [List.take_of_length_le (by rw [HF.out]; exact Nat.le_refl _)] at h; exact h))
   have HBE := hide (HBW.out.trans HBK.out)
   clear HALL
   go_wp2
   exact bodyPost_ret (v := .int .i64 (-1)) (by simp [results, Try.results48, go_sem]) rfl ⟨by rw [HR.out], HBE.out⟩
end Go.Proofs.Ytopakcbhodnipaa
/- Text SiW. -/
namespace Gm
theorem eps_take {A : List Arc} {q : Nat} : (epsA A).take (epsA (A.take q)).length = epsA (A.take q) := by
 have h : epsA A = epsA (A.take q) ++ epsA (A.drop q) := by
  unfold epsA
  rw [← List.filter_append, List.take_append_drop]
 rw [h, List.take_left]
theorem eps_snoc {A : List Arc} {a : Arc} {q : Nat} (h : A.take (q + 1) = A.take q ++ [a]) : epsA (A.take (q + 1)) = epsA (A.take q) ++ (if a.i = 0 then [a] else []) := by
 rw [h]
 unfold epsA
 rw [List.filter_append]
 by_cases e : a.i = 0 <;> simp [e]
theorem eps_rng {A : List Arc} {S : Nat} (h : inRange A S) : inRange (epsA A) S := fun a ha => h a (mem_eps.1 ha).1
end Gm
namespace Go.Proofs.Ytopakcbhodnipaa
open Go.RowKit Gm
set_option linter.unusedSimpArgs false
set_option linter.unusedVariables false
set_option maxRecDepth 100000 in
set_option maxHeartbeats 8000000 in
theorem silent_any (va : Value) (a : Mach) (w : World) (B S gT : Nat) (T0 : Nat → Bool) (I : List Int) (hBg : B ≤ gT) (ha : MachAt w B va a) (hS : a.n = (S : Int)) (hS4 : S ≤ 100000) (hrng : inRange a.arcs S) (hI : ∀ x ∈ I, 0 ≤ x ∧ x < (S : Int)) (h0 : ∀ s, s < S → (T0 s = true ↔ (s : Int) ∈ I)) (rT : w.rowIs gT 4 S (fun i => .bool (T0 i))) :
 Calls Try.prog 59 #[va, .slice (some ⟨gT, 0, none⟩) S S] w fun e w' => ∃ T : Nat → Bool, e = .returned (.slice (some ⟨gT, 0, none⟩) S S) ∧ w'.rowIs gT 4 S (fun i => .bool (T i)) ∧ (∀ s, s < S → (T s = true ↔ RS false (epsA a.arcs) I (s : Int))) ∧ Below gT w w' := by
 obtain ⟨A, AF, n, c, nf, cf, rfl, HN, HF, hnc, hnfc, hnb, hnfb, hA, hF⟩ := ha
 have HRA := hide hA
 have HRNG := hide (eps_rng hrng)
 have HRN0 := hide hrng
 have RT := hide (RInv.start (back := false) (l := epsA a.arcs) (I := I) (S := S) (T := T0) (eps_rng hrng) h0 hI)
 have HI := hide hI
 have hgw : gT < w.heap.size := rT.lt
 unfold big at hnb hnfb
 rw [hS]
 clear hA hF hrng hI h0 hS
 go_enter Try.func59, Try.ntmps59
 go_upto_region 2 with fail
 generalize hW2 : World.alloc _ _ = W2
 obtain ⟨X, hX⟩ : ∃ z, z = w.heap.size := ⟨_, rfl⟩
 have HX2 := hide (show Blk W2 X 28 #[.int .i64 (S : Int), .slice A n c, .slice AF nf cf] by rw [← hW2]; exact Blk.at_ hX)
 have HB2 := hide (show Below gT w W2 by rw [← hW2]; exact (Below.refl _ _).alloc (by omega) _)
 have rT2 : W2.rowIs gT 4 S (fun i => .bool (T0 i)) := by rw [← hW2]; exact rT.alloc _
 have HRA2 := hide (HRA.out.below HB2.out hBg)
 have hgX : gT < X := by omega
 have hX2 : X < W2.heap.size := HX2.out.lt
 simp only [← hX]
 clear hW2 hX rT HRA hgw
 go_loopw [9] (fun i wr => ∃ (r : Nat) (T : Nat → Bool), r ≤ S ∧ i = .int .i64 r ∧ wr.rowIs gT 4 S (fun i => .bool (T i)) ∧ Hid (RInv false (epsA a.arcs) I S r T) ∧ Hid (Blk wr X 28 #[.int .i64 (S : Int), .slice A n c, .slice AF nf cf]) ∧ Hid (Below gT W2 wr) ∧ X < wr.heap.size) (fun i _ => S - (intOf i).toNat)
 case atStart => exact ⟨0, T0, by omega, rfl, rT2, RT, HX2, hide (Below.refl _ _), hX2⟩
 case round =>
  clear rT2 RT HX2 hX2
  obtain ⟨r, T, hr, rfl, rT, RT, HX, HB, hX2⟩ := hrel
  by_cases hrS : r < S
  ·
   have x1 := HX.out.cell 1
   simp at x1
   go_wp2
   clear x1
   go_loopw [14] (fun i wr => ∃ (q : Nat) (T' : Nat → Bool), q ≤ n ∧ i = .int .i64 q ∧ wr.rowIs gT 4 S (fun i => .bool (T' i)) ∧ Hid (NInv false (epsA a.arcs) I S T (epsA (a.arcs.take q)).length T') ∧ Hid (Blk wr X 28 #[.int .i64 (S : Int), .slice A n c, .slice AF nf cf]) ∧ Hid (Below gT W2 wr) ∧ X < wr.heap.size) (fun i _ => n - (intOf i).toNat)
   case atStart => exact ⟨0, T, by omega, rfl, rT, hide (NInv.start RT.out), HX, HB, hX2⟩
   case round =>
    clear rT HX HB hX2
    obtain ⟨q, T', hq, rfl, rT, NT, HX, HB, hX2⟩ := hrel
    by_cases hqn : q < n
    ·
     obtain ⟨b, off, x, rfl, hbB, c0, c1, c2, c3, c4, HA⟩ := arcs_at (HRA2.out.below HB.out hBg) hqn
     have hbw' : b < wr.heap.size := by omega
     have ham := getD_mem (by rw [HN.out]; exact hqn) HA.out
     obtain ⟨r0, r1, r2, r3⟩ := HRN0.out x ham
     have HTP := hide (eps_snoc (take_push (by rw [HN.out]; exact hqn) HA.out))
     have t1 := rT.cell (show x.f.toNat < S by omega)
     have t2 := rT.cell (show x.t.toNat < S by omega)
     have tf := rT.frozen x.t.toNat
     have tl := rT.lt
     have hlt : gT < wr.heap.size := by omega
     by_cases hx0 : x.i = 0
     ·
      have HE := hide (mem_eps.2 ⟨ham, hx0⟩)
      have HTQ := hide (show (epsA a.arcs).take ((epsA (a.arcs.take q)).length + 1) = (epsA a.arcs).take (epsA (a.arcs.take q)).length ++ [x] by
       have h1 := eps_take (A := a.arcs) (q := q + 1)
       rw [HTP.out, if_pos hx0, List.length_append, List.length_singleton] at h1
       rw [h1, eps_take])
      have HLN := hide (show (epsA (a.arcs.take (q + 1))).length = (epsA (a.arcs.take q)).length + 1 by rw [HTP.out, if_pos hx0, List.length_append, List.length_singleton])
      have t0 : (x.i == 0) = true := by simp [hx0]
      clear hx0 ham HA HTP
      cases h1 : T' x.f.toNat
      ·
       rw [h1] at t1
       go_wp2
       go_roundw
       case rel => exact ⟨q + 1, T', by omega, by go_num, rT.alloc _, hide (by rw [HLN.out]; exact NInv.skip NT.out HTQ.out h1), hide (HX.out.alloc _), hide (HB.out.alloc (by omega) _), by simp; omega⟩
       case measure => simp [intOf]; omega
      ·
       rw [h1] at t1
       go_wp2
       go_roundw
       case rel => exact ⟨q + 1, upd T' x.t.toNat, by omega, by go_num, ((rT.set x.t.toNat (.bool true)).congr (fun i _ => upd_val _ _ _)).alloc _, hide (by rw [HLN.out]; exact NInv.step HRNG.out NT.out HTQ.out HE.out h1), hide ((HX.out.far (by simp; omega) _).alloc _), hide ((HB.out.setCell (by simp) _).alloc (by simp [World.setCell]; omega) _), by simp [World.setCell]; omega⟩
       case measure => simp [intOf]; omega
     ·
      have HLN := hide (show (epsA (a.arcs.take (q + 1))).length = (epsA (a.arcs.take q)).length by rw [HTP.out, if_neg hx0, List.append_nil])
      have t0 : (x.i == 0) = false := by simp [hx0]
      clear hx0 ham HA HTP
      go_wp2
      go_roundw
      case rel => exact ⟨q + 1, T', by omega, by go_num, rT.alloc _, hide (by rw [HLN.out]; exact NT.out), hide (HX.out.alloc _), hide (HB.out.alloc (by omega) _), by simp; omega⟩
      case measure => simp [intOf]; omega
    ·
     obtain rfl : q = n := by omega
     have hend : Hid ((epsA a.arcs).take (epsA (a.arcs.take q)).length = epsA a.arcs) := hide (by rw [eps_take, List.take_of_length_le (by rw [HN.out]; exact Nat.le_refl _)])
     go_wp2
     go_roundw
     case rel => exact ⟨r + 1, T', by omega, by go_num, rT, hide (RInv.next HRNG.out RT.out NT.out hend.out), HX, HB, hX2⟩
     case measure => simp [intOf]; omega
  ·
   obtain rfl : r = S := by omega
   have HD := hide (RInv.done HRNG.out HI.out RT.out)
   have HBE := hide (HB2.out.trans HB.out)
   clear RT HX
   go_wp2
   exact bodyPost_ret (v := .slice (some ⟨gT, 0, none⟩) r r) (by simp [results, Try.results59, go_sem]) rfl ⟨T, rfl, rT, HD.out, HBE.out⟩
end Go.Proofs.Ytopakcbhodnipaa
/- Text NlL. -/
namespace Gm
open Go Go.RowKit
set_option linter.unusedSimpArgs false
set_option linter.unusedVariables false
section
variable {w w1 : World} {base : Nat} {eO eI : TypeId} {sz n : Nat} {v : Value} {vs : Nat → Value} {L : Nat → List Value} {m : Nat → Nat}
theorem OwnM.store (h : OwnM w base eO eI sz v n vs L m) (hne : eO ≠ eI) {i g c : Nat} (hi : i < n) (hv : vs i = .slice (some ⟨g, 0, none⟩) (m i) c) (j : Nat) (u : Value) :
 OwnM (w.setCell ⟨g, j, none⟩ u) base eO eI sz v n vs (fun k => if k = i then (L i).set j u else L k) m := by
 have h1 := h.own i hi
 rw [hv] at h1
 obtain ⟨h2, hg⟩ := h1.stored j u
 have hob : (vs i).ownBlock = some g := by rw [hv]; rfl
 refine ⟨h.out.kept hg ?_, fun k hk => ?_, h.dis⟩
 ·
  rw [← hob]
  exact own_ne h.out (h.own i hi) hne
 ·
  by_cases e : k = i
  ·
   subst e
   simp only [if_pos]
   rw [hv]
   exact h2
  ·
   simp only [if_neg e]
   refine (h.own k hk).kept hg ?_
   rw [← hob]
   exact h.dis k i hk hi e
end
end Gm
namespace Gm
open Go Go.RowKit
end Gm
namespace Gm
open Go Go.RowKit
end Gm
/- Text GrL. -/
namespace Gm
open Go Go.RowKit
set_option linter.unusedSimpArgs false
set_option linter.unusedVariables false
section
variable {tM tA tF : TypeId} {w w6 : World} {O base q r : Nat} {n0 : Int} {A AF Av : Option Addr} {c cf cv : Nat} {L : List Arc} {F : List Fnl}
theorem mg_at (hA : w.ownsRow base tA 5 (.slice A q c) q (arcRow L)) (hF : w.ownsRow base tF 2 (.slice AF r cf) r (finRow F)) (hq : q ≤ big) (hr : r ≤ big) : MachAt w w.heap.size (.agg #[.int .i64 n0, .slice A q c, .slice AF r cf]) ⟨n0, L, F⟩ := by
 obtain ⟨_, _, ev, hqc, _⟩ := own_value hA
 injection ev with _ _ ev
 obtain ⟨_, _, fv, hrc, _⟩ := own_value hF
 injection fv with _ _ fv
 exact ⟨A, AF, q, c, r, cf, rfl, hide (own_lenA hA), hide (own_lenF hF), by omega, by omega, hq, hr, Rd.of_own hA (fun i j hi hj => arcRow_at _ i j (by rw [own_lenA hA]; exact hi) hj), Rd.of_own hF (fun i j hi hj => finRow_at _ i j (by rw [own_lenF hF]; exact hi) hj)⟩
end
end Gm
/- Text RoW. -/
namespace Gm
set_option linter.unusedSimpArgs false
set_option linter.unusedVariables false
def mixR (A : List Arc) (a : Arc) (ls : List Int) (k s : Nat) : List Int := (ls.take k).map (afterL (A ++ [a]) s) ++ (ls.drop k).map (afterL A s)
theorem mixR_zero (A : List Arc) (a : Arc) (ls : List Int) (s : Nat) : mixR A a ls 0 s = rowL ls A s := by unfold mixR rowL; simp
theorem mixR_all (A : List Arc) (a : Arc) (ls : List Int) (s : Nat) : mixR A a ls ls.length s = rowL ls (A ++ [a]) s := by unfold mixR rowL; simp
theorem mixR_drop {ls : List Int} {k : Nat} {x : Int} (hk : k < ls.length) (hx : ls.getD k 0 = x) : ls.drop k = x :: ls.drop (k + 1) := by
 rw [List.drop_eq_getElem_cons hk]
 congr 1
 rw [← hx]
 simp [List.getD, hk]
theorem mixR_take {ls : List Int} {k : Nat} {x : Int} (hk : k < ls.length) (hx : ls.getD k 0 = x) : ls.take (k + 1) = ls.take k ++ [x] := by
 rw [List.take_add_one]
 congr 1
 rw [← hx]
 simp [List.getD, hk]
theorem mixR_same {A : List Arc} {a : Arc} {ls : List Int} {k s : Nat} {x : Int} (hk : k < ls.length) (hx : ls.getD k 0 = x) (h : ¬ (a.f = (s : Int) ∧ a.i = x)) : mixR A a ls (k + 1) s = mixR A a ls k s := by
 unfold mixR
 rw [mixR_take hk hx, mixR_drop hk hx, List.map_append, List.map_cons, List.map_cons, List.map_nil, afterL_snoc, if_neg h, List.append_assoc]
 rfl
theorem mixR_set {A : List Arc} {a : Arc} {ls : List Int} {k s : Nat} {x : Int} (hk : k < ls.length) (hx : ls.getD k 0 = x) (h : a.f = (s : Int) ∧ a.i = x) : mixR A a ls (k + 1) s = (mixR A a ls k s).set k a.t := by
 unfold mixR
 rw [mixR_take hk hx, mixR_drop hk hx, List.map_append, List.map_cons, List.map_cons, List.map_nil, afterL_snoc, if_pos h, List.append_assoc]
 have hl : ((ls.take k).map (afterL (A ++ [a]) s)).length = k := by rw [List.length_map, List.length_take]; omega
 rw [List.set_append, hl, if_neg (by omega), show k - k = 0 by omega, List.set_cons_zero]
 rfl
theorem intRow_set (l : List Int) (k : Nat) (x : Int) : (intRow l).set k (.int .i64 x) = intRow (l.set k x) := by unfold intRow; rw [List.map_set]
theorem rowL_nil (ls : List Int) (s : Nat) : rowL ls [] s = List.replicate ls.length (-1) := by
 unfold rowL afterL
 induction ls with
 | nil => rfl
 | cons x l ih => rw [List.map_cons, ih, List.length_cons, List.replicate_succ]; rfl
theorem rowL_len (ls : List Int) (A : List Arc) (s : Nat) : (rowL ls A s).length = ls.length := by unfold rowL; rw [List.length_map]
theorem mixR_len (A : List Arc) (a : Arc) (ls : List Int) (k s : Nat) : (mixR A a ls k s).length = ls.length := by
 unfold mixR
 rw [List.length_append, List.length_map, List.length_map, List.length_take, List.length_drop]; omega
end Gm
namespace Go.Proofs.Ytopakcbhodnipaa
open Go.RowKit Gm
set_option linter.unusedSimpArgs false
set_option linter.unusedVariables false
set_option maxRecDepth 100000 in
set_option maxHeartbeats 8000000 in
theorem rows_any (
 va vl : Value) (a : Mach) (l : List Int) (S : Nat) (w : World) (B : Nat) (hB : B ≤ w.heap.size) (ha : MachAt w B va a) (hl : Nums w B vl l) (hS : a.n = (S : Int)) (hS4 : S ≤ 100000) (hl4 : l.length ≤ 100000) (hrng : inRange a.arcs S) :
 Calls Try.prog 47 #[va, vl] w fun e w' => ∃ v, e = .returned v ∧ NumsL w' w'.heap.size v ((List.range S).map (rowL l a.arcs)) ∧ Below w.heap.size w w' := by
 obtain ⟨A, AF, n, c, nf, cf, rfl, HN, HF, hnc, hnfc, hnb, hnfb, hA, hF⟩ := ha
 obtain ⟨AL, q, cl, rfl, HQ, hqc, hqb, hL⟩ := hl
 obtain ⟨i0, hi0, hz0, hz1, hz2⟩ := info_parts int_info
 obtain ⟨i1, hi1, hy0, hy1, hy2⟩ := info_parts ints_info
 have HRA := hide hA
 have HRL := hide hL
 have HRNG := hide hrng
 rw [HQ.out] at hl4
 rw [hS]
 unfold big at hnb hnfb hqb
 clear hA hF hL hrng hS
 go_enter Try.func47, Try.ntmps47
 go_upto_region 2 with fail
 generalize hW2 : World.alloc _ _ = W2
 obtain ⟨H, hH⟩ : ∃ z, z = w.heap.size + 1 := ⟨_, rfl⟩
 have HX2 := hide (show Blk W2 w.heap.size 28 #[.int .i64 (S : Int), .slice A n c, .slice AF nf cf] by rw [← hW2]; exact Blk.at_ rfl)
 have HBW := hide (show Below w.heap.size w W2 by rw [← hW2]; go_grown)
 have hz2' : H ≤ W2.heap.size := by have := HX2.out.lt; omega
 have HRA2 := hide (HRA.out.below HBW.out hB)
 have HRL2 := hide (HRL.out.below HBW.out hB)
 have hBH : B < H := by omega
 have x0 := HX2.out.cell 0
 simp at x0
 have lX := HX2.out.lt
 have HM0 := hide (OwnM.nil W2 H 22 3 1 (fun _ => .slice none 0 0) (fun _ => intRow (List.replicate q (-1))) (fun _ => q))
 have hwH : w.heap.size < H := by omega
 clear hW2 hH HRA HRL
 go_wp2
 clear x0 lX
 go_loopw [5, 13] (fun ov iv wr => ∃ (k : Nat) (vs : Nat → Value), k ≤ S ∧ iv = .int .i64 k ∧ Hid (OwnM wr H 22 3 1 ov k vs (fun _ => intRow (List.replicate q (-1))) (fun _ => q)) ∧ Hid (Below H W2 wr) ∧ H ≤ wr.heap.size) (fun _ iv _ => S - (intOf iv).toNat)
 case atStart => exact ⟨0, _, by omega, rfl, HM0, hide (Below.refl _ _), hz2'⟩
 case round =>
  clear HM0
  obtain ⟨k, vs, hk, rfl, HM, HBK, hzr⟩ := hrel
  by_cases hkS : k < S
  ·
   have HL0 := hide (World.ownsRow_nil wr wr.heap.size 3 1)
   obtain ⟨W3, hW3⟩ : ∃ z, z = wr := ⟨_, rfl⟩
   rw [← hW3] at HL0 HM HBK hzr ⊢
   clear hW3
   go_upto_region 6 with fail
   go_loopw [6, 17] (fun rv jv wr => ∃ j : Nat, j ≤ q ∧ jv = .int .i64 j ∧ Hid (wr.ownsRow W3.heap.size 3 1 rv j (intRow (List.replicate j (-1)))) ∧ Hid (Below W3.heap.size W3 wr)) (fun _ jv _ => q - (intOf jv).toNat)
   case atStart => exact ⟨0, by omega, rfl, HL0, hide (Below.refl _ _)⟩
   case round =>
    clear HL0
    obtain ⟨j, hj, rfl, HO, HB4⟩ := hrel
    have hz4 := HB4.out.size
    by_cases hjq : j < q
    ·
     obtain ⟨A5, c5, rfl, hjc, _⟩ := own_value HO.out
     go_wp2_with (at_builtin; refine wpList_append_own_at _ rfl (.tmp 19) (.tmp 20) 22 rfl W3.heap.size 3 i0 _ 1 8 Try.underlying22 hi0 hz0 hz1 hz2 rfl (by omega) (.slice A5 j c5) j _ rfl (HO.out.alloc _) ⟨wr.heap.size, 0, none⟩ 1 1 (intRow [-1]) rfl (by rfl) (World.news_of_block (cs := (intRow [-1]).toArray) (t := 3) (fr := (0, 0)) (Blk.at_ rfl)) (intRow_one _) (by simp only [maxLen]; omega) (by omega) (by simp <;> omega) ?_; intro v' w6 hown2 hg2 _ hat2)
     have HBN := hide ((HB4.out.alloc hz4 _).grown hg2 (by simp <;> omega) (fun z hz => (HO.out.lt z hz).1))
     have HON := hide (show w6.ownsRow W3.heap.size 3 1 v' (j + 1) (intRow (List.replicate (j + 1) (-1))) by rw [List.replicate_succ', intRow_append]; exact hown2)
     clear hown2 hg2 hat2
     go_roundw
     case rel => exact ⟨j + 1, by omega, by go_num, HON, HBN⟩
     case measure => simp [intOf]; omega
    ·
     obtain rfl : q = j := by omega
     have HM4 := hide (HM.out.below HB4.out)
     obtain ⟨A5, c5, rfl, hjc, _⟩ := own_value HO.out
     obtain ⟨A6, c6, rfl, hkc, _⟩ := own_value HM4.out.out
     have HAP := hide (HM.out.apart HO.out (Nat.le_refl _))
     go_wp2_with (at_builtin; refine wpList_append_own_at _ rfl (.tmp 23) (.tmp 25) 23 rfl H 22 i1 _ 1 24 Try.underlying23 hi1 hy0 hy1 hy2 rfl (by omega) (.slice A6 k c6) k _ rfl (HM4.out.out.alloc _) ⟨wr.heap.size, 0, none⟩ 1 1 [.slice A5 q c5] rfl (by rfl) (World.news_of_block (cs := #[.slice A5 q c5]) (t := 22) (fr := (0, 0)) (Blk.at_ rfl)) (by simp [Value.oneCell']) (by simp only [maxLen]; omega) (by omega) (by simp <;> omega) ?_; intro v' w6 hown2 hg2 _ hat2)
     have HMN := hide ((HM4.out.alloc _).push hg2 hown2 (own_low (HO.out.alloc _) (by omega)) HAP.out.2 (by decide))
     have HBN := hide (((HBK.out.trans (HB4.out.mono hzr)).alloc (by omega) _).grown hg2 (by simp <;> omega) (fun z hz => (HM4.out.out.lt z hz).1))
     have hs6 := hg2.size
     simp at hs6
     clear hown2 hg2 hat2
     go_roundw
     case rel => exact ⟨k + 1, _, by omega, by go_num, hide (HMN.out.congr (fun i hi => by by_cases e : i = k <;> simp [e]) (fun i hi => by by_cases e : i = k <;> simp [e])), HBN, by omega⟩
     case measure => simp [intOf]; omega
  ·
   obtain rfl : S = k := by omega
   have bX := HX2.out.below HBK.out hwH
   have x1 := bX.cell 1
   simp at x1
   have lX := bX.lt
   have HM1 := hide (show OwnM wr H 22 3 1 u5 S vs (fun s => intRow (rowL l (a.arcs.take 0) s)) (fun _ => q) from HM.out.congr (fun i _ => by rw [List.take_zero, rowL_nil, HQ.out]) (fun _ _ => rfl))
   have HBX := hide bX
   have HB0 := hide (HBW.out.trans (HBK.out.mono (by omega)))
   have HRA3 := hide (HRA2.out.below HBK.out (by omega))
   have HRL3 := hide (HRL2.out.below HBK.out (by omega))
   obtain ⟨W3, hW3⟩ : ∃ z, z = wr := ⟨_, rfl⟩
   rw [← hW3] at HM1 HBX HB0 HRA3 HRL3 hzr x1 lX ⊢
   clear hW3 HM HBK bX HRA2 HRL2
   go_wp2
   clear x1 lX
   go_loopw [31] (fun iv wr => ∃ i : Nat, i ≤ n ∧ iv = .int .i64 i ∧ Hid (OwnM wr H 22 3 1 u5 S vs (fun s => intRow (rowL l (a.arcs.take i) s)) (fun _ => q)) ∧ Hid (Below H W3 wr) ∧ H ≤ wr.heap.size) (fun iv _ => n - (intOf iv).toNat)
   case atStart => exact ⟨0, by omega, rfl, HM1, hide (Below.refl _ _), hzr⟩
   case round =>
    clear HM1 hzr
    obtain ⟨i, hi, rfl, HM, HBK, hzr⟩ := hrel
    by_cases hin : i < n
    ·
     obtain ⟨bb, off, x, rfl, hbB, d0, d1, d2, d3, d4, HX⟩ := arcs_at (HRA3.out.below HBK.out (by omega)) hin
     have hil : i < a.arcs.length := by rw [HN.out]; exact hin
     have HTK := hide (take_push hil HX.out)
     obtain ⟨r0, r1, r2, r3⟩ := HRNG.out x (getD_mem hil HX.out)
     have lb : bb < wr.heap.size := by omega
     clear HX hil
     go_wp2
     generalize hW5 : World.alloc _ _ = W5
     obtain ⟨X9, hX9⟩ : ∃ z, z = wr.heap.size := ⟨_, rfl⟩
     have HXB := hide (show Blk W5 X9 61 #[.int .i64 x.f, .int .i64 x.t, .int .i64 x.i, .int .i64 x.o, .int .i64 x.w] by rw [← hW5]; exact Blk.at_ hX9)
     have HM5 := hide (show OwnM W5 H 22 3 1 u5 S vs (fun s => intRow (mixR (a.arcs.take i) x l 0 s)) (fun _ => q) from (by rw [← hW5]; exact HM.out.alloc _ : OwnM W5 H _ _ 1 u5 S vs (fun s => intRow (rowL l (a.arcs.take i) s)) (fun _ => q)).congr (fun s _ => by rw [mixR_zero]) (fun _ _ => rfl))
     have HB5 := hide (show Below H W3 W5 by rw [← hW5]; exact HBK.out.alloc (by omega) _)
     have hX5 : X9 < W5.heap.size := HXB.out.lt
     have hHX : H ≤ X9 := by omega
     simp only [← hX9]
     clear hW5 hX9 d0 d1 d2 d3 d4 lb HM HBK hzr
     go_loopw [37] (fun kv wr => ∃ k : Nat, k ≤ q ∧ kv = .int .i64 k ∧ Hid (OwnM wr H 22 3 1 u5 S vs (fun s => intRow (mixR (a.arcs.take i) x l k s)) (fun _ => q)) ∧ Hid (Blk wr X9 61 #[.int .i64 x.f, .int .i64 x.t, .int .i64 x.i, .int .i64 x.o, .int .i64 x.w]) ∧ Hid (Below H W3 wr) ∧ X9 < wr.heap.size) (fun kv _ => q - (intOf kv).toNat)
     case atStart => exact ⟨0, by omega, rfl, HM5, HXB, HB5, hX5⟩
     case round =>
      clear HM5 HXB HB5 hX5
      obtain ⟨k, hk, rfl, HM, HXB, HBK, hX5⟩ := hrel
      by_cases hkq : k < q
      ·
       obtain ⟨b2, o2, y, rfl, hb2B, e0, HY⟩ := num_at (HRL3.out.below HBK.out (by omega)) hkq
       have hkl : k < l.length := by rw [HQ.out]; exact hkq
       have x0 := HXB.out.cell 0
       have x1 := HXB.out.cell 1
       have x2 := HXB.out.cell 2
       simp at x0 x1 x2
       have lb2 : b2 < wr.heap.size := by omega
       by_cases hxy : x.i = y
       ·
        have hfS : x.f.toNat < S := by omega
        obtain ⟨G, cG, hGv, hGc, hG1, hG2, cGf⟩ := HM.out.at_ hfS
        obtain ⟨g, cg, hgv, hg1, hg2⟩ := (HM.out.own _ hfS).form (by omega)
        have hrow := HM.out.own _ hfS
        rw [hgv] at hrow cGf
        have fg := hrow.frozenAt k
        obtain ⟨z0, cgk⟩ : ∃ z0, wr.cell? ⟨g, k, none⟩ = some (.int .i64 z0) := by
         have h1 := hrow.cellAt k (by omega)
         have h2 : k < (mixR (a.arcs.take i) x l k x.f.toNat).length := by rw [mixR_len, HQ.out]; omega
         exact ⟨(mixR (a.arcs.take i) x l k x.f.toNat)[k], by rw [h1]; simp [intRow, h2]⟩
        obtain ⟨_, _, hgv2, hgc, _⟩ := own_value hrow
        have hgc : q ≤ cg := by injection hgv2 with _ _ e3; omega
        have hgX : g ≠ X9 := fun e => own_bne hrow HXB.out (by decide) (by rw [← e]; rfl)
        have HMN := hide (HM.out.store (by decide) hfS hgv k (.int .i64 x.t))
        have HEQ := hide (show ∀ s, s < S → (if s = x.f.toNat then (intRow (mixR (a.arcs.take i) x l k x.f.toNat)).set k (.int .i64 x.t) else intRow (mixR (a.arcs.take i) x l k s)) = intRow (mixR (a.arcs.take i) x l (k + 1) s) from fun s hs => by
         by_cases e : s = x.f.toNat
         ·
          subst e
          rw [if_pos rfl, intRow_set, mixR_set hkl HY.out ⟨by omega, hxy⟩]
         · rw [if_neg e, mixR_same hkl HY.out (fun h => e (by omega))])
        have t3 : (x.i == y) = true := by simp [hxy]
        subst hGv
        clear hxy HY hkl hrow hgv2 hgv
        go_wp2
        go_region
        go_wp2
        go_roundw
        case rel => exact ⟨k + 1, by omega, by go_num, hide (HMN.out.congr HEQ.out (fun _ _ => rfl)).drew, hide (HXB.out.far (p := ⟨g, k, none⟩) (Ne.symm hgX) _).drew, hide (HBK.out.setCell (p := ⟨g, k, none⟩) (by show H ≤ g; omega) _).drew, by simp [World.setCell]; omega⟩
        case measure => simp [intOf]; omega
       ·
        have HEQ := hide (show ∀ s, s < S → intRow (mixR (a.arcs.take i) x l k s) = intRow (mixR (a.arcs.take i) x l (k + 1) s) from fun s hs => by rw [mixR_same hkl HY.out (fun h => hxy h.2)])
        have t3 : (x.i == y) = false := by simp [hxy]
        clear hxy HY hkl
        go_wp2
        go_roundw
        case rel => exact ⟨k + 1, by omega, by go_num, hide (HM.out.congr HEQ.out (fun _ _ => rfl)), HXB, HBK, hX5⟩
        case measure => simp [intOf]; omega
      ·
       obtain rfl : q = k := by omega
       have HMN := hide (show OwnM wr H 22 3 1 u5 S vs (fun s => intRow (rowL l (a.arcs.take (i + 1)) s)) (fun _ => q) from HM.out.congr (fun s _ => by rw [HTK.out, ← mixR_all, HQ.out]) (fun _ _ => rfl))
       go_wp2
       go_roundw
       case rel => exact ⟨i + 1, by omega, by go_num, HMN, HBK, by omega⟩
       case measure => simp [intOf]; omega
    ·
     obtain rfl : n = i := by omega
     have hend : a.arcs.take n = a.arcs := List.take_of_length_le (by rw [HN.out]; exact Nat.le_refl _)
     have HE := hide (show NumsL wr wr.heap.size u5 ((List.range S).map (rowL l a.arcs)) by
      have := HM.out
      rw [hend] at this
      exact this.nums (by unfold big; omega) (fun _ _ => by unfold big; omega))
     have HBE := hide (HB0.out.trans (HBK.out.mono (by omega)))
     clear HM hend
     go_wp2
     exact bodyPost_ret (v := u5) (by simp [results, Try.results47, go_sem]) rfl ⟨u5, rfl, HE.out, HBE.out⟩
end Go.Proofs.Ytopakcbhodnipaa
/- Text SmP. -/
namespace Gm
set_option linter.unusedSimpArgs false
set_option linter.unusedVariables false
section
variable {L : List (List Int)} {F : List Bool}
theorem plc_rng (l : List Nat) (v : Nat) : -1 ≤ plc l v := by unfold plc; split <;> omega
end
/-! What is in the result. -/
section
variable {l : List Int} {L : List (List Int)} {F : List Bool} {U : Nat → Bool} {c : Nat → Nat} {k : Nat}
end
/-! Rows in memory. -/
section
open Go Go.RowKit
variable {w w1 : World} {base : Nat} {eO eI : TypeId} {sz G n : Nat} {vs : Nat → Value} {L : Nat → List Value} {m : Nat → Nat}
end
end Gm
namespace Gm
open Go Go.RowKit
end Gm
/- Text DtP. -/
namespace Gm
set_option linter.unusedSimpArgs false
set_option linter.unusedVariables false
structure FewOk (m : Mach) (S : Nat) : Prop where
 n : m.n = (S : Int)
 rng : inRange m.arcs S
 len : m.arcs.length ≤ 1000000
 wt : ∀ x ∈ m.fins, 0 ≤ x.w
 tab : Tab (lsM m) (rowM m) (finM' m) S
 lab : (lsM m).length ≤ 2000
 use : 0 < S → ∃ v, langM m 0 v
 none : S = 0 → ¬ ∃ v, langM m 0 v
/-! The example of the law: a table of three states. -/
end Gm
/- Text DeP. -/
namespace Gm
set_option linter.unusedSimpArgs false
set_option linter.unusedVariables false
theorem setI_len (l : List Int) : (setI l).length ≤ l.length := incD_len (setI_sorted l) fun x hx => (setI_mem l x).1 hx
section
variable {m : Mach} {n : Nat} (hA : inRange m.arcs n) (hn : 0 < n)
include hA hn in
include hA hn in
end
end Gm
/- Text MiP. -/
namespace Gm
set_option linter.unusedSimpArgs false
set_option linter.unusedVariables false
theorem accS_congr {stp stp' : Nat → List (Int × Nat)} {fin fin' : Nat → Bool} {n : Nat} (h1 : ∀ s, s < n → stp s = stp' s) (h2 : ∀ s, s < n → fin s = fin' s) (hr : ∀ s, s < n → ∀ x u, (x, u) ∈ stp s → u < n) : ∀ (w : List Int) (s : Nat), s < n → (accS stp fin s w ↔ accS stp' fin' s w)
 | [], s, hs => by
  show fin s = true ↔ fin' s = true
  rw [h2 s hs]
 | x :: w, s, hs => by
  show (∃ u, (x, u) ∈ stp s ∧ accS stp fin u w) ↔ ∃ u, (x, u) ∈ stp' s ∧ accS stp' fin' u w
  constructor
  ·
   rintro ⟨u, hu, hw⟩
   exact ⟨u, by rw [← h1 s hs]; exact hu, (accS_congr h1 h2 hr w u (hr s hs x u hu)).1 hw⟩
  ·
   rintro ⟨u, hu, hw⟩
   rw [← h1 s hs] at hu
   exact ⟨u, hu, (accS_congr h1 h2 hr w u (hr s hs x u hu)).2 hw⟩
section
variable {α : Type} [DecidableEq α] {stp : α → List (Int × α)} {fin : α → Bool}
end
section
variable {t : Mach} {N : Nat}
end
def rowsI (ls : List Int) (A : List Arc) (n : Nat) : List (List Int) := (List.range n).map (rowL ls A)
def finsI (F : List Fnl) (n : Nat) : List Bool := (List.range n).map (fnB F F.length)
theorem rowsI_len (ls : List Int) (A : List Arc) (n : Nat) : (rowsI ls A n).length = n := by unfold rowsI; simp
theorem finsI_len (F : List Fnl) (n : Nat) : (finsI F n).length = n := by unfold finsI; simp
theorem rowsI_at (ls : List Int) (A : List Arc) {n s : Nat} (h : s < n) : rowOf (rowsI ls A n) s = rowL ls A s := by
 unfold rowOf rowsI
 simp [List.getD_eq_getElem?_getD, h]
theorem finsI_at (F : List Fnl) {n s : Nat} (h : s < n) : finOf (finsI F n) s = fnB F F.length s := by
 unfold finOf finsI
 simp [List.getD_eq_getElem?_getD, h]
theorem min_sm {t : Mach} {N : Nat} (h : SilOk t N) : SmOk (setI (t.arcs.map (·.i))) (rowsI (setI (t.arcs.map (·.i))) t.arcs N) (finsI t.fins N).length where
 l3 := by have := setI_len (t.arcs.map (·.i)); rw [List.length_map] at this; have := h.len; omega
 inc := setI_sorted _
 pos := fun x hx => by
  obtain ⟨a, ha, rfl⟩ := List.mem_map.1 ((setI_mem _ _).1 hx)
  have := (h.lab a ha).1
  omega
 n2 := by rw [rowsI_len]; have := h.n4; omega
 len := fun r hr => by
  obtain ⟨s, _, rfl⟩ := List.mem_map.1 (show r ∈ (List.range N).map _ from hr)
  unfold rowL
  rw [List.length_map]
 rng := fun r hr x hx => by
  obtain ⟨s, _, rfl⟩ := List.mem_map.1 (show r ∈ (List.range N).map _ from hr)
  obtain ⟨y, _, rfl⟩ := List.mem_map.1 (show x ∈ List.map _ _ from hx)
  rw [rowsI_len]
  have := afterL_rng h.rng s y
  have := h.pos
  omega
 fin := by rw [finsI_len, rowsI_len]
theorem min_can {t : Mach} {N : Nat} (h : SilOk t N) : canT (setI (t.arcs.map (·.i))) (rowsI (setI (t.arcs.map (·.i))) t.arcs N) (finsI t.fins N) = canonM (lsM t) (langM t 0) N := by
 have e : lsM t = setI (t.arcs.map (·.i)) := labsR_set fun a ha => by have := (h.lab a ha).1; omega
 unfold canT langM rowM
 rw [rowsI_len, e]
 congr 1
 funext w
 refine propext (accS_congr (n := N) (fun s hs => ?_) (fun s hs => ?_) (fun s hs x u hu => ?_) w 0 h.pos)
 ·
  unfold tstp
  rw [rowsI_at _ _ hs]
 · rw [finsI_at _ hs, finM_fnB]
 ·
  obtain ⟨j, tg, _, h2, h3, rfl⟩ := mem_tstp.1 hu
  have := (min_sm h).rng _ (rowOf_mem (by rw [rowsI_len]; exact hs)) tg (List.mem_of_getElem? h2)
  rw [rowsI_len] at this
  omega
end Gm
/- Text TbW. -/
namespace Go.Proofs.Ytopakcbhodnipaa
open Go.RowKit Gm
set_option linter.unusedSimpArgs false
set_option linter.unusedVariables false
def tabV (S gA gF : Nat) : Value := .agg #[.slice (some ⟨gA, 0, none⟩) S S, .slice (some ⟨gF, 0, none⟩) S S]
theorem TabAt.setR {w : World} {m : Mach} {S gA gF : Nat} {va : Nat → Value} {Z : Nat} (h1 : w.rowIs gF 4 S (fun i => .bool (fnB m.fins m.fins.length i))) (h2 : OwnLL w Z 25 61 5 gA S va (fun s => arcRow (arT m.arcs m.arcs.length s)) (fun s => (arT m.arcs m.arcs.length s).length)) {R : Nat} (r1 : R < gF) (r2 : R < gA) (r3 : R < Z) (u v : Value) :
 TabAt ((w.setCell ⟨R, 0, none⟩ u).setCell ⟨R, 1, none⟩ v) m S gA gF va := by
 have k1 := (h1.setOther (a := ⟨R, 0, none⟩) (by show gF ≠ R; omega) u).setOther (a := ⟨R, 1, none⟩) (by show gF ≠ R; omega) v
 have k2 := h2.farB (p := ⟨R, 0, none⟩) (by show gA ≠ R; omega) (fun j hj e => by have := ((h2.own j hj).lt _ e).1; have : Z ≤ R := this; omega) u
 have k3 := k2.farB (p := ⟨R, 1, none⟩) (by show gA ≠ R; omega) (fun j hj e => by have := ((k2.own j hj).lt _ e).1; have : Z ≤ R := this; omega) v
 exact ⟨k1, ⟨_, k3⟩⟩
theorem blk_set2T {w : World} {g : Nat} {t : TypeId} {a b x y : Value} (h : Blk w g t #[x, y]) : Blk ((w.setCell ⟨g, 0, none⟩ a).setCell ⟨g, 1, none⟩ b) g t #[a, b] := (h.set_ 0 a).set_ 1 b
set_option maxRecDepth 100000 in
set_option maxHeartbeats 32000000 in
theorem tableOf_any (va : Value) (a : Mach) (w : World) (B S : Nat) (hB : B ≤ w.heap.size) (ha : MachAt w B va a) (hS : a.n = (S : Int)) (hS4 : S ≤ 400) (hn4 : a.arcs.length ≤ 2000) (hf4 : a.fins.length ≤ 400) (hrng : inRange a.arcs S) (hrf : ∀ x ∈ a.fins, 0 ≤ x.s ∧ x.s < (S : Int)) :
 Calls Try.prog 51 #[va] w fun e w' => ∃ (gA gF : Nat) (va : Nat → Value), e = .returned (tabV S gA gF) ∧ TabAt w' a S gA gF va ∧ Below w.heap.size w w' := by
 obtain ⟨ia, ha0, ha1, ha2, ha3⟩ := info_parts arc_info
 obtain ⟨A, AF, n, c, nf, cf, rfl, HN, HF, hnc, hnfc, hnb, hnfb, hA, hF⟩ := ha
 rw [HN.out] at hn4
 rw [HF.out] at hf4
 have HRA := hide hA
 have HRF := hide hF
 have HRNG := hide hrng
 have HRGF := hide hrf
 unfold big at hnb hnfb
 rw [hS]
 have HMKA := hide (fun (W : World) => run_make_row' (P := Try.prog) 66 25 (.slice none 0 0) 24 Try.underlying66 arcl_info rfl .i64 .i64 S (by omega) (by omega) W)
 have HMKB := hide (fun (W : World) => run_make_row' (P := Try.prog) 24 4 (.bool false) 1 Try.underlying24 bool_info rfl .i64 .i64 S (by omega) (by omega) W)
 clear hA hF hrng hrf
 go_enter Try.func51, Try.ntmps51
 go_upto_region 1 with fail
 generalize hW2 : World.alloc _ _ = W2
 obtain ⟨X, hX⟩ : ∃ z, z = w.heap.size := ⟨_, rfl⟩
 have HX2 := hide (show Blk W2 X 28 #[.int .i64 (S : Int), .slice A n c, .slice AF nf cf] by rw [← hW2]; first | exact Blk.at_ hX | exact (Blk.at_ hX).alloc _)
 have HB2 := hide (show Below w.heap.size w W2 by rw [← hW2]; go_grown)
 obtain ⟨R, hR⟩ : ∃ z, z = w.heap.size + 1 := ⟨_, rfl⟩
 have HR2 := hide (show Blk W2 R 68 #[.slice none 0 0, .slice none 0 0] by rw [← hW2]; exact Blk.at_ (by simp [hR]))
 have HWR := hide hR
 have x0 := HX2.out.cell 0
 have x1 := HX2.out.cell 1
 have x2 := HX2.out.cell 2
 simp at x0 x1 x2
 have lX : X < W2.heap.size := HX2.out.lt
 have HWX := hide hX
 simp only [← hR]
 try simp only [← hX]
 clear hW2 hX hR
 go_cut [3] from 8 (fun s3 wx => ∃ (O gF gA : Nat), s3 = .pointer (some ⟨O, 0, none⟩) ∧ Hid (Blk wx O 68 #[.slice (some ⟨gA, 0, none⟩) S S, .slice (some ⟨gF, 0, none⟩) S S]) ∧ Hid (wx.rowIs gF 4 S (fun _ => .bool false)) ∧ Hid (wx.rowIs gA 25 S (fun _ => .slice none 0 0)) ∧ Hid (Below W2.heap.size W2 wx) ∧ W2.heap.size ≤ O ∧ W2.heap.size ≤ gF ∧ W2.heap.size ≤ gA)
 case first =>
  have hma := HMKA.out
  have hmb := HMKB.out
  go_region_held3 (fun w' => w'.cell? ⟨X, 0, none⟩ = some (.int .i64 (S : Int)) ∧ w'.cell? ⟨X, 1, none⟩ = some (.slice A n c) ∧ w'.cell? ⟨X, 2, none⟩ = some (.slice AF nf cf)) (first | with_reducible exact ⟨x0, x1, x2⟩ | (with_reducible refine cells_ofO (t := 28) ?_; (repeat (first | (with_reducible exact HX2.out) | (with_reducible refine Blk.alloc ?_ _) | (with_reducible refine Blk.drew ?_) | ((with_reducible refine Blk.far ?_ ?sd _); case sd => (dsimp only; omega)))))) (fail)
  all_goals go_wp2_with fail
  all_goals go_meet
  all_goals (apply Exists.intro; apply Exists.intro; apply Exists.intro; refine ⟨rfl, hide ?_, hide ?_, hide ?_, hide ?_, ?_, ?_, ?_⟩)
  all_goals first
   | ((repeat (first | ((with_reducible refine Blk.at_ ?sd); case sd => (first | rfl | (simp; done))) | (with_reducible apply blk_set2T) | (with_reducible refine Blk.alloc ?_ _) | (with_reducible refine Blk.drew ?_))); done)
   | ((repeat (first | ((with_reducible refine rowO_made ?sd); case sd => (first | rfl | (simp; done))) | (with_reducible refine World.rowIs.alloc ?_ _) | (with_reducible refine World.rowIs.drew ?_) | ((with_reducible refine World.rowIs.setOther ?_ ?sd _); case sd => (dsimp only; omega)))); done)
   | ((repeat (first | (with_reducible exact Below.refl _ _) | (with_reducible refine belO_alloc ?_ _) | (with_reducible refine belO_drew ?_) | ((with_reducible refine belO_set ?_ ?sd _); case sd => (dsimp only; omega)))); done)
   | omega
   | (simp; done)
   | (simp; omega)
 case rest =>
  obtain ⟨O, gF, gA, rfl, HO, HF0, HA0, HB3, lO, lF, lA⟩ := hcut
  have HOF := hide (rowblk_neO HF0.out HO.out (by decide))
  have HOA := hide (rowblk_neO HA0.out HO.out (by decide))
  have HFA := hide (row_neO HF0.out HA0.out (by decide))
  have hOF := HOF.out
  have hOA := HOA.out
  have lX2 := lX
  have hwX : w.heap.size ≤ X := by have := HWX.out; omega
  have hRX : X < R := by have := HWX.out; have := HWR.out; omega
  have lR2 : R < W2.heap.size := HR2.out.lt
  clear HMKA HMKB x0 x1 x2 HWX
  have x1 := (HX2.out.below HB3.out lX).cell 1
  simp at x1
  have z3 := HB3.out.size
  obtain ⟨W3, hW3⟩ : ∃ z, z = wc := ⟨_, rfl⟩
  rw [← hW3] at HO HF0 HA0 HB3 x1 z3 ⊢
  clear hW3
  have lX3 : X < W3.heap.size := by omega
  obtain ⟨Z, hZ⟩ : ∃ z, z = W3.heap.size := ⟨_, rfl⟩
  have hFZ : gF < Z := by rw [hZ]; exact HF0.out.lt
  have hAZ : gA < Z := by rw [hZ]; exact HA0.out.lt
  have hOZ : O < Z := by rw [hZ]; exact HO.out.lt
  have hWZ : W2.heap.size ≤ Z := by omega
  have hwZ : w.heap.size ≤ Z := by have := HB2.out.size; omega
  have HZ4 := hide (show Z ≤ W3.heap.size by omega)
  have HLL0 := hide (show OwnLL W3 Z 25 61 5 gA S (fun _ => .slice none 0 0) (fun s => arcRow (arT a.arcs 0 s)) (fun s => (arT a.arcs 0 s).length) from
   ⟨HA0.out, hAZ, fun j _ => by rw [arT_zero]; exact World.ownsRow_nil _ _ _ _, fun i j _ _ _ => .inl rfl⟩)
  have hwR : w.heap.size ≤ R := by have := HWR.out; omega
  clear hZ HA0 HWR
  go_upto_region 3 with fail
  clear x1 lX3
  go_loopw [18] (fun iv wr => ∃ (i : Nat) (va : Nat → Value), i ≤ n ∧ iv = .int .i64 (i : Int) ∧ Hid (OwnLL wr Z 25 61 5 gA S va (fun s => arcRow (arT a.arcs i s)) (fun s => (arT a.arcs i s).length)) ∧ Hid (wr.rowIs gF 4 S (fun _ => .bool false)) ∧ Hid (Blk wr O 68 #[.slice (some ⟨gA, 0, none⟩) S S, .slice (some ⟨gF, 0, none⟩) S S]) ∧ Hid (Below W2.heap.size W2 wr) ∧ Z ≤ wr.heap.size) (fun iv _ => n - (intOf iv).toNat)
  case atStart => exact ⟨0, _, by omega, rfl, HLL0, HF0, HO, HB3, HZ4.out⟩
  case round =>
   clear HLL0 HF0 HO HB3 HZ4 z3
   obtain ⟨i, va, hi, rfl, HLL, HFE, HO, HB3, hZr⟩ := hrel
   have HBW := hide (HB2.out.trans (HB3.out.mono HB2.out.size))
   by_cases hin : i < n
   ·
    obtain ⟨b, off, x, rfl, hbB, d0, d1, d2, d3, d4, HX⟩ := arcs_at (HRA.out.below HBW.out hB) hin
    have hil : i < a.arcs.length := by rw [HN.out]; exact hin
    have HXA := hide (show a.arcs[i]? = some x by rw [List.getElem?_eq_getElem hil, ← HX.out]; simp [hil])
    obtain ⟨r0, r1, r2, r3⟩ := HRNG.out x (List.mem_of_getElem? HXA.out)
    have lb : b < wr.heap.size := by have := HBW.out.size; omega
    have hkey : x.f.toNat < S := by omega
    have HSN := hide (fun (s : Nat) => arT_next HXA.out s)
    clear HX hil
    go_wp2
    generalize hW5 : World.alloc _ _ = W5
    obtain ⟨bx, hbx⟩ : ∃ z, z = wr.heap.size := ⟨_, rfl⟩
    have HX5 := hide (show Blk W5 bx 61 #[.int .i64 x.f, .int .i64 x.t, .int .i64 x.i, .int .i64 x.o, .int .i64 x.w] by rw [← hW5]; exact Blk.at_ hbx)
    have HLL5 := hide (show OwnLL W5 Z 25 61 5 gA S va (fun s => arcRow (arT a.arcs i s)) (fun s => (arT a.arcs i s).length) by rw [← hW5]; exact HLL.out.alloc _)
    have HFE5 := hide (show W5.rowIs gF 4 S (fun _ => .bool false) by rw [← hW5]; exact HFE.out.alloc _)
    have HO5 := hide (show Blk W5 O 68 #[.slice (some ⟨gA, 0, none⟩) S S, .slice (some ⟨gF, 0, none⟩) S S] by rw [← hW5]; exact HO.out.alloc _)
    have HB5 := hide (show Below W2.heap.size W2 W5 by rw [← hW5]; exact HB3.out.alloc (by omega) _)
    have hs5 : bx < W5.heap.size := HX5.out.lt
    have hZx : Z ≤ bx := by omega
    simp only [← hbx]
    have cG := HLL5.out.row.cell hkey
    have fG := HLL5.out.row.frozen x.f.toNat
    have lG : gA < W5.heap.size := by omega
    obtain ⟨vk, hvk⟩ : ∃ z, z = va x.f.toNat := ⟨_, rfl⟩
    have HVK := hide hvk
    rw [← hvk] at cG
    have ownk := HLL5.out.own _ hkey
    rw [← hvk] at ownk
    have ownk0 := HLL.out.own _ hkey
    rw [← hvk] at ownk0
    obtain ⟨m1, hm1⟩ : ∃ z, z = (arT a.arcs i x.f.toNat).length := ⟨_, rfl⟩
    have hml : m1 ≤ 2000 := by rw [hm1]; have := arT_len a.arcs i x.f.toNat; omega
    rw [← hm1] at ownk
    have HM1 := hide hm1
    have HOWN := hide ownk
    have HLOW := hide (show ∀ z, vk.ownBlock = some z → Z ≤ z from fun z hz => (ownk.lt z hz).1)
    have ne2 : vk.ownBlock ≠ some gA := fun e => by have := (ownk.lt _ e).1; omega
    have neO : vk.ownBlock ≠ some O := fun e => by have := (ownk.lt _ e).1; omega
    have neF : vk.ownBlock ≠ some gF := fun e => by have := (ownk.lt _ e).1; omega
    have HNX := hide (show vk.ownBlock ≠ some bx from fun e => by have := (ownk0.lt _ e).2; omega)
    clear hW5 hbx HLL HFE HO HB3 lb d0 d1 d2 d3 d4 hvk hm1 ownk ownk0
    have x0 := HX5.out.cell 0
    have x1 := HX5.out.cell 1
    have x2 := HX5.out.cell 2
    have x3 := HX5.out.cell 3
    have x4 := HX5.out.cell 4
    have y0 := HO5.out.cell 0
    simp at x0 x1 x2 x3 x4 y0
    have lO5 : O < W5.heap.size := by omega
    refine wp_mix (fun w' => w'.cell? ⟨bx, 0, none⟩ = some (.int .i64 x.f) ∧ w'.cell? ⟨bx, 1, none⟩ = some (.int .i64 x.t) ∧ w'.cell? ⟨bx, 2, none⟩ = some (.int .i64 x.i) ∧ w'.cell? ⟨bx, 3, none⟩ = some (.int .i64 x.o) ∧ w'.cell? ⟨bx, 4, none⟩ = some (.int .i64 x.w) ∧ w'.cell? ⟨O, 0, none⟩ = some (.slice (some ⟨gA, 0, none⟩) S S) ∧ w'.cell? ⟨gA, x.f.toNat, none⟩ = some vk) 13 [(0, false), (1, false), (2, false), (3, false), (4, false), (5, false), (6, false), (7, false), (8, false), (9, false), (10, false), (11, true), (12, true)] (by kernel_rfl) (by kernel_rfl) ?_ ?_
    · go_simp
    simp only [List.drop_succ_cons, List.drop_zero]
    repeat (refine mix_q (v := ?_) (by rfl) (by rfl) ?_ ?_; rotate_left; (focus (intro w' hC; (try dsimp only at hC); go_simp; (first | done | with_reducible rfl))); simp only [Act.put, List.setIfInBounds_toArray, List.set_cons_zero, List.set_cons_succ, List.getElem_toArray, List.getElem_cons_zero, List.getElem_cons_succ])
    refine mix_l (by rfl) (by rfl) (fun K hK => ?_)
    go_simp
    refine hK _ _ (by go_simp) ?_
    clear hK K
    refine mix_l (by rfl) (by rfl) (fun K hK => ?_)
    refine wp_append_any _ (.tmp 31) (.tmp 33) 25 rfl Z 61 ia _ 5 40 Try.underlying25 ha0 ha1 ha2 ha3 rfl (by omega) vk m1 _ rfl (by first | exact (HOWN.out.alloc _).drew | exact HOWN.out.drew.alloc _) _ (some ⟨W5.heap.size, 0, none⟩) 1 1 (arcRow [x]) (arcCell [x]) rfl (by exact rd_arcO (t := 61) ((Blk.at_ (by simp)).drew)) (by simp) (by simp [arcRow]) (fun i j hi hj => arcRow_at _ i j (by simpa using hi) hj) (arcRow_one _) (by simp only [maxLen]; omega) (by omega) (by simp <;> omega) ?_
    intro v' w6 hown2 hg2 hat2
    obtain ⟨Av, cv, rfl, hkcv, _⟩ := own_value hown2
    have HAT := hide hat2
    have fG1 : w6.frozen? ⟨gA, x.f.toNat, none⟩ = false := far_free hg2 ne2 (by simp; omega) (((HLL5.out.alloc _).drew).row.frozen _)
    have cG1 : w6.cell? ⟨gA, x.f.toNat, none⟩ = some vk := far_cell hg2 ne2 (by rw [HVK.out]; exact ((HLL5.out.alloc _).drew).row.cell hkey)
    have lG1 : gA < w6.heap.size := by have := hg2.size; simp at this; omega
    refine hK _ _ ⟨far_cell hg2 HNX.out (((HX5.out.alloc _).drew).cell 0), far_cell hg2 HNX.out (((HX5.out.alloc _).drew).cell 1), far_cell hg2 HNX.out (((HX5.out.alloc _).drew).cell 2), far_cell hg2 HNX.out (((HX5.out.alloc _).drew).cell 3), far_cell hg2 HNX.out (((HX5.out.alloc _).drew).cell 4), far_cell hg2 neO (((HO5.out.alloc _).drew).cell 0), cG1⟩ ?_
    clear hK K cG x0 x1 x2 x3 x4 y0
    refine mix_nil ?_; try simp only [Act.put, List.setIfInBounds_toArray, List.set_cons_zero, List.set_cons_succ, List.getElem_toArray, List.getElem_cons_zero, List.getElem_cons_succ]
    go_wp2
    refine NoPanic.normal ?_
    go_wp2
    have hs6 := hg2.size
    simp at hs6
    have HLN := hide ((((HLL5.out.alloc _).drew.push hkey (HVK.out ▸ hg2) hown2 (HAT.out.elim (fun e => .inl (by rw [← HVK.out]; exact e)) (fun e => .inr ⟨_, e, Nat.le_refl _⟩))).congr (L' := fun s => arcRow (arT a.arcs (i + 1) s)) (m' := fun s => (arT a.arcs (i + 1) s).length) (fun s hs => by
     rw [HSN.out]
     by_cases e : s = x.f.toNat
     ·
      subst e
      rw [if_pos rfl, if_pos (by omega), arcRow_append]
     · rw [if_neg e, if_neg (fun g => e (by omega))]) (fun s hs => by
     rw [HSN.out]
     by_cases e : s = x.f.toNat
     ·
      subst e
      rw [if_pos rfl, if_pos (by omega), List.length_append, HM1.out]; rfl
     · rw [if_neg e, if_neg (fun g => e (by omega))])))
    have HBN := hide ((((HB5.out.alloc (by omega) _).drew).grown hg2 (by simp <;> omega) (fun z hz => by have := HLOW.out z hz; omega)).setCell (p := ⟨gA, x.f.toNat, none⟩) (by exact lA) (.slice Av (m1 + 1) cv))
    have HFN2 := hide ((((HFE5.out.alloc _).drew).of_block (hg2.block gF (by simp; omega) (Ne.symm neF))).setOther (a := ⟨gA, x.f.toNat, none⟩) (by show gF ≠ gA; exact HFA.out) (.slice Av (m1 + 1) cv))
    have HON := hide ((((HO5.out.alloc _).drew).grown hg2 (Ne.symm neO)).far (p := ⟨gA, x.f.toNat, none⟩) (by show O ≠ gA; exact Ne.symm hOA) (.slice Av (m1 + 1) cv))
    clear hown2 hg2 hat2 fG fG1 cG1
    go_roundw
    case rel => exact ⟨i + 1, _, by omega, by go_num, HLN, HFN2, HON, HBN, by simp [World.setCell]; omega⟩
    case measure => simp [intOf]; omega
   ·
    obtain rfl : n = i := by omega
    have HLLE := hide (show OwnLL wr Z 25 61 5 gA S va (fun s => arcRow (arT a.arcs a.arcs.length s)) (fun s => (arT a.arcs a.arcs.length s).length) by rw [HN.out]; exact HLL.out)
    have HFF := hide (show wr.rowIs gF 4 S (fun i => .bool (fnB a.fins 0 i)) by rw [fnB_zero]; exact HFE.out)
    have x2 := (HX2.out.below HB3.out lX).cell 2
    simp at x2
    obtain ⟨W4, hW4⟩ : ∃ z, z = wr := ⟨_, rfl⟩
    rw [← hW4] at HLLE HFF HO HB3 HBW x2 hZr ⊢
    clear hW4 HLL HFE
    have lX4 : X < W4.heap.size := by omega
    go_upto_region 8 with fail
    clear x2 lX4
    go_loopw [40] (fun iv wr => ∃ i : Nat, i ≤ nf ∧ iv = .int .i64 (i : Int) ∧ Hid (wr.rowIs gF 4 S (fun s => .bool (fnB a.fins i s))) ∧ Hid (OwnLL wr Z 25 61 5 gA S va (fun s => arcRow (arT a.arcs a.arcs.length s)) (fun s => (arT a.arcs a.arcs.length s).length)) ∧ Hid (Blk wr O 68 #[.slice (some ⟨gA, 0, none⟩) S S, .slice (some ⟨gF, 0, none⟩) S S]) ∧ Hid (Below W2.heap.size W2 wr) ∧ Z ≤ wr.heap.size) (fun iv _ => nf - (intOf iv).toNat)
    case atStart => exact ⟨0, by omega, rfl, HFF, HLLE, HO, HB3, hZr⟩
    case round =>
     clear HFF HLLE HO HB3 HBW hZr
     obtain ⟨i, hi, rfl, HF1, HLL, HO, HB3, hZr⟩ := hrel
     have HBW := hide (HB2.out.trans (HB3.out.mono HB2.out.size))
     by_cases hin : i < nf
     ·
      obtain ⟨b, off, x, rfl, hbB, d0, d1, HX⟩ := fins_at (HRF.out.below HBW.out hB) hin
      have hxm := getDF_mem (by rw [HF.out]; exact hin) HX.out
      obtain ⟨r0, r1⟩ := HRGF.out x hxm
      have hkey : x.s.toNat < S := by omega
      have hil : i < a.fins.length := by rw [HF.out]; exact hin
      have HNX := hide (fnB_next (F := a.fins) (i := i) (x := x) (by rw [List.getElem?_eq_getElem hil, ← HX.out]; simp [hil]) r0)
      have lb : b < wr.heap.size := by have := HBW.out.size; omega
      have cF := HF1.out.cell hkey
      have fF := HF1.out.frozen x.s.toNat
      have lFr : gF < wr.heap.size := HF1.out.lt
      have lOr : O < wr.heap.size := HO.out.lt
      have y1 := HO.out.cell 1
      simp at y1
      clear HX hxm hil
      go_wp2
      go_roundw
      case rel => exact ⟨i + 1, by omega, by go_num, hide (((HF1.out.set x.s.toNat (.bool true)).congr (fun s _ => by rw [← HNX.out]; exact upd_val _ _ _)).alloc _), hide ((HLL.out.farB (p := ⟨gF, x.s.toNat, none⟩) (by show gA ≠ gF; exact Ne.symm HFA.out) (fun j hj e => by have := ((HLL.out.own j hj).lt _ e).1; have : Z ≤ gF := this; omega) _).alloc _), hide ((HO.out.far (by show O ≠ gF; exact Ne.symm hOF) _).alloc _), hide ((HB3.out.setCell (p := ⟨gF, x.s.toNat, none⟩) (by exact lF) _).alloc (by have := HB3.out.size; simpa using this) _), by simp [World.setCell]; omega⟩
      case measure => simp [intOf]; omega
     ·
      obtain rfl : nf = i := by omega
      have HFE := hide (show wr.rowIs gF 4 S (fun s => .bool (fnB a.fins a.fins.length s)) by rw [HF.out]; exact HF1.out)
      have hr1 : R < gF := by omega
      have hr2 : R < gA := by omega
      have hr3 : R < Z := by omega
      have HTA := hide (TabAt.setR HFE.out HLL.out hr1 hr2 hr3 (.slice (some ⟨gA, 0, none⟩) S S) (.slice (some ⟨gF, 0, none⟩) S S))
      have HBE := hide HBW.out
      have y0 := HO.out.cell 0
      have y1 := HO.out.cell 1
      have HRr := HR2.out.below HB3.out lR2
      have q0 := HRr.cell 0
      have q1 := HRr.cell 1
      have f0 := HRr.frozen 0
      have f1 := HRr.frozen 1
      simp at y0 y1 q0 q1
      have lRr := HRr.lt
      have lOr : O < wr.heap.size := by omega
      have hOR : O ≠ R := by omega
      clear HLL HFE HF1 HRr
      go_wp21
      refine bodyPost_ret (v := tabV S gA gF) (by simp [results, Try.results51, go_sem, tabV, lRr, q0, q1, f0, f1]) rfl ?_
      exact ⟨gA, gF, va, rfl, HTA.out, (HBE.out.setCell (p := ⟨R, 0, none⟩) (by exact hwR) _).setCell (p := ⟨R, 1, none⟩) (by exact hwR) _⟩
end Go.Proofs.Ytopakcbhodnipaa
/- Text MnV. -/
namespace Gm
open Go Go.RowKit
set_option linter.unusedSimpArgs false
set_option linter.unusedVariables false
theorem inc_at {l : List Int} (hs : l.Pairwise (· < ·)) {j k : Nat} {x : Int} (hj : l[j]? = some x) (hk : l[k]? = some x) : j = k := by
 obtain ⟨hj1, hj2⟩ := List.getElem?_eq_some_iff.1 hj
 obtain ⟨hk1, hk2⟩ := List.getElem?_eq_some_iff.1 hk
 have h := List.pairwise_iff_getElem.1 hs
 rcases Nat.lt_trichotomy j k with g | g | g
 · have := h j k hj1 hk1 g; omega
 · exact g
 · have := h k j hk1 hj1 g; omega
theorem count_lt : ∀ {l : List Int}, l.Pairwise (· < ·) → ∀ {k : Nat} {x : Int}, l[k]? = some x → l.countP (fun y => decide (y < x)) = k
 | [], _, k, x, h => by simp at h
 | a :: l, hs, 0, x, h => by
  obtain ⟨h1, h2⟩ := List.pairwise_cons.1 hs
  have e : a = x := by simpa using h
  subst e
  have h0 : l.countP (fun y => decide (y < a)) = 0 := List.countP_eq_zero.2 fun y hy => by have := h1 y hy; simp; omega
  rw [List.countP_cons, h0]
  simp
 | a :: l, hs, k + 1, x, h => by
  obtain ⟨h1, h2⟩ := List.pairwise_cons.1 hs
  have h' : l[k]? = some x := by simpa using h
  have := h1 x (List.mem_of_getElem? h')
  rw [List.countP_cons, count_lt h2 h']
  simp [this]
theorem rowL_set {ls : List Int} (hs : ls.Pairwise (· < ·)) {A : List Arc} {i k : Nat} {a : Arc} (ha : A[i]? = some a) (hk : ls[k]? = some a.i) (s : Nat) : rowL ls (A.take (i + 1)) s = if a.f = (s : Int) then (rowL ls (A.take i) s).set k a.t else rowL ls (A.take i) s := by
 rw [List.take_add_one, ha]
 show rowL ls (A.take i ++ [a]) s = _
 by_cases e : a.f = (s : Int)
 ·
  rw [if_pos e]
  unfold rowL
  refine List.ext_getElem? fun j => ?_
  rw [List.getElem?_map, List.getElem?_set, List.getElem?_map]
  by_cases g : k = j
  ·
   subst g
   have hl : k < (List.map (afterL (A.take i) s) ls).length := by rw [List.length_map]; exact (List.getElem?_eq_some_iff.1 hk).1
   rw [if_pos rfl, if_pos hl, hk]
   show some (afterL (A.take i ++ [a]) s a.i) = some a.t
   rw [afterL_snoc, if_pos ⟨e, rfl⟩]
  ·
   rw [if_neg g]
   cases hj : ls[j]? with
   | none => rfl
   | some y =>
    show some (afterL (A.take i ++ [a]) s y) = some (afterL (A.take i) s y)
    rw [afterL_snoc, if_neg]
    rintro ⟨_, e2⟩
    exact g (inc_at hs hk (by rw [hj, e2]))
 ·
  rw [if_neg e]
  unfold rowL
  refine List.map_congr_left fun y _ => ?_
  rw [afterL_snoc, if_neg (fun g => e g.1)]
theorem R3_zero (q s i : Nat) : R3 q s 0 i = if i = s then List.replicate q 0 else R2 q s i := by
 unfold R3 R2
 by_cases e : i = s
 · subst e; simp
 · rw [if_neg e, if_neg e]
theorem R3_all (q s i : Nat) : R3 q s q i = R2 q (s + 1) i := by
 unfold R3 R2
 by_cases e : i < s
 · rw [if_pos e, if_pos (by omega)]
 ·
  rw [if_neg e]
  by_cases g : i = s
  · rw [if_pos g, if_pos (by omega)]; simp
  · rw [if_neg g, if_neg (by omega)]
theorem R3_next {q s k : Nat} (hk : k < q) (i : Nat) : R3 q s (k + 1) i = if i = s then (R3 q s k i).set k (-1) else R3 q s k i := by
 unfold R3
 by_cases e : i = s
 ·
  subst e
  rw [if_pos rfl, if_neg (by omega), if_pos rfl, if_neg (by omega), if_pos rfl]
  rw [show q - k = (q - (k + 1)) + 1 by omega, List.replicate_succ' (n := k), List.replicate_succ (n := q - (k + 1))]
  rw [List.set_append_right _ _ (by simp)]
  simp
 · rw [if_neg e, if_neg e, if_neg e]
theorem R3_len (q s k i : Nat) (hk : k ≤ q) : (R3 q s k i).length = if i < s + 1 then q else 0 := by
 unfold R3
 by_cases e : i < s
 · rw [if_pos e, if_pos (by omega)]; simp
 ·
  rw [if_neg e]
  by_cases g : i = s
  · rw [if_pos g, if_pos (by omega)]; simp; omega
  · rw [if_neg g, if_neg (by omega)]; rfl
theorem bools_row {w : World} {g n : Nat} {t : TypeId} {b : Nat → Bool} (h : w.rowIs g t n (fun i => .bool (b i))) (hn : n ≤ 400) : Bools w w.heap.size (.slice (some ⟨g, 0, none⟩) n n) ((List.range n).map b) := by
 refine ⟨some ⟨g, 0, none⟩, n, n, rfl, hide (by simp), Nat.le_refl _, by unfold big; omega, fun _ => ⟨g, 0, rfl, h.lt, fun i j hi hj => ?_⟩⟩
 obtain rfl : j = 0 := by omega
 have := h.cell hi
 rw [show 0 + (i * 1 + 0) = i by omega, this]
 unfold boolCell
 simp [List.getD_eq_getElem?_getD, hi]
end Gm
namespace Go.Proofs.Ytopakcbhodnipaa
open Go.RowKit Gm
set_option linter.unusedSimpArgs false
set_option linter.unusedVariables false
theorem wpList_field {P : Program} {w : World} {ops : Array Oper} {rest : List Oper} {o : Oper} {A : Act} {Q : Exit → Act → World → Prop} (hg : o.guard = none) (t : TypeId) (x : Operand) (f : Nat) (hop : o.op = Op.field t x f) {v : Value}
 (h : (Instr.field t (A.eval x) f).run P w = .ok v w) (hK : wpList P ops Q rest (A.put o.dst v) w) : wpList P ops Q (o :: rest) A w := by
 refine wpList_plain hg fun K' hK' => ?_
 unfold Oper.wp
 simp [execOp, hop, h, Result.andThen]
 exact hK' _ _ hK
theorem tab_fin (S gA gF : Nat) (W : World) : (Instr.field 68 (tabV S gA gF) 1).run Try.prog W = .ok (.slice (some ⟨gF, 0, none⟩) S S) W := by kernel_rfl
theorem bins_any (l : List Int) (n base : Nat) (v : Value) (x : Int) (w : World) (hl : l.length = n) (hn : n ≤ 1000000) (hs : l.Pairwise (· < ·)) (hx : x ∈ l) (h : w.ownsRow base 3 1 v n (intRow l)) :
 Calls Try.prog 70 #[v, .int .i64 x] w fun e w' => ∃ k : Nat, k < n ∧ l[k]? = some x ∧ e = .returned (.tuple #[.int .i64 (k : Int), .bool true]) ∧ Below w.heap.size w w' := by
 have h0 : 0 < n := by rw [← hl]; exact List.length_pos_of_mem hx
 obtain ⟨g, c, rfl, _⟩ := own_formN5 h h0
 obtain ⟨k, hk⟩ := List.getElem?_of_mem hx
 have hkn : k < n := by rw [← hl]; exact (List.getElem?_eq_some_iff.1 hk).1
 have hcon := Try.slices_BinarySearch_int g 0 n c l x w (by omega) (by omega) (fun j hj => by
  have h1 := h.cellAt j (by omega)
  rw [show 0 + j = j by omega, h1]
  unfold intRow
  simp [List.getD_eq_getElem?_getD, hj]) (by rw [← hl, List.take_length]; exact hs.imp fun h => by omega)
 refine hcon.mono ?_
 rintro e w' ⟨rfl, q, rfl⟩
 have e1 : (l.take n).countP (· < x) = k := by rw [← hl, List.take_length]; exact count_lt hs hk
 have e2 : (l.take n).contains x = true := by rw [← hl, List.take_length]; simpa using hx
 rw [e1, e2]
 exact ⟨k, hkn, hk, rfl, below_drewN (Below.refl _ _) q⟩
set_option maxRecDepth 100000 in
set_option maxHeartbeats 8000000 in
theorem minim_bad (va : Value) (m : Mach) (w : World) (B : Nat) (hB : B ≤ w.heap.size) (ha : MachAt w B va m) (hv : (detW m).2 ≠ (0, 0) ∨ (detW m).1.n = 0) :
 Calls Try.prog 35 #[va] w fun e w' => ∃ v1, e = .returned (.tuple #[v1, .agg #[.int .i64 (minW m).2.1, .int .i64 (minW m).2.2]]) ∧ MachNew w.heap.size w' v1 (minW m).1 ∧ Below w.heap.size w w' := by
 have HR := hide (show minW m = (emptyM, (detW m).2) by
  unfold minW
  by_cases h : (detW m).2 ≠ (0, 0)
  · rw [if_pos h]
  · rw [if_neg h, if_pos (hv.resolve_left h), Decidable.not_not.1 h])
 rw [HR.out]
 have h0 := ha
 obtain ⟨A, AF, n, c, nf, cf, rfl, HN, HF, hnc, hnfc, hnb, hnfb, hA, hF⟩ := ha
 have H0 := hide h0
 clear h0 hA hF HN HF
 have HC := hide (fun W (hB : B ≤ W.heap.size) (h : MachAt W B (.agg #[.int .i64 m.n, .slice A n c, .slice AF nf cf]) m) => deter_any _ m W B hB h)
 obtain ⟨f1, hf1⟩ : ∃ z, z = (detW m).2.1 := ⟨_, rfl⟩
 obtain ⟨f2, hf2⟩ : ∃ z, z = (detW m).2.2 := ⟨_, rfl⟩
 obtain ⟨t, ht⟩ : ∃ z, z = (detW m).1 := ⟨_, rfl⟩
 rw [← hf1, ← hf2, ← ht] at HC
 obtain ⟨sn, hsn⟩ : ∃ z, z = m.n := ⟨_, rfl⟩
 rw [← hsn] at HC H0 ⊢
 have he := fun a b c d W => run_neq_fault a b c d W
 have HV := hide (show fEq f1 f2 0 0 = false ∨ t.n = 0 by
  rcases hv with h | h
  · exact .inl (fEq_false (fun ⟨e1, e2⟩ => h (Prod.ext (by rw [← hf1]; exact e1) (by rw [← hf2]; exact e2))))
  · exact .inr (by rw [ht]; exact h))
 dsimp only
 rw [← hf1, ← hf2]
 clear hf1 hf2 ht hv hsn HR
 go_enter Try.func35, Try.ntmps35
 go_upto_region 1 with fail
 generalize hW1 : World.alloc _ _ = W1
 obtain ⟨X, hX⟩ : ∃ z, z = w.heap.size := ⟨_, rfl⟩
 obtain ⟨M, hM⟩ : ∃ z, z = w.heap.size + 1 := ⟨_, rfl⟩
 obtain ⟨R, hR⟩ : ∃ z, z = w.heap.size + 1 + 1 := ⟨_, rfl⟩
 have HX1 := hide (show Blk W1 X 28 #[.int .i64 sn, .slice A n c, .slice AF nf cf] by rw [← hW1]; exact ((Blk.at_ hX).alloc _).alloc _)
 have HM1 := hide (show Blk W1 M 28 #[.int .i64 0, .slice none 0 0, .slice none 0 0] by rw [← hW1]; exact (Blk.at_ (by simp [hM])).alloc _)
 have HR1 := hide (show Blk W1 R 30 #[.int .i64 0, .int .i64 0] by rw [← hW1]; exact Blk.at_ (by simp [hR]))
 have HB1 := hide (show Below w.heap.size w W1 by rw [← hW1]; go_grown)
 have hwM : w.heap.size ≤ M := by omega
 have hwR : w.heap.size ≤ R := by omega
 have hwX : w.heap.size ≤ X := by omega
 have hMR : M ≠ R := by omega
 have hRM : R ≠ M := by omega
 have hXM : X ≠ M := by omega
 have hMX : M ≠ X := by omega
 have hXR : X ≠ R := by omega
 have hRX : R ≠ X := by omega
 have hR2 : M + 1 = R := by omega
 simp only [← hM]
 simp only [hR2]
 try simp only [← hX]
 have lX1 : X < W1.heap.size := HX1.out.lt
 have lM1 : M < W1.heap.size := HM1.out.lt
 have lR1 : R < W1.heap.size := HR1.out.lt
 have x0 := HX1.out.cell 0
 have x1 := HX1.out.cell 1
 have x2 := HX1.out.cell 2
 simp at x0 x1 x2
 clear hW1 hX hM hR hR2
 go_wp2_with fail
 refine (HC.out W1 (by have := HB1.out.size; omega) (H0.out.below HB1.out hB)).mono ?_
 rintro e w2 ⟨v1, rfl, hm2, hb2⟩
 have HMN := hide hm2
 obtain ⟨A2, AF2, n2, c2, nf2, cf2, rfl, HN2, HF2, hn2c, hnf2c, hn2b, hnf2b, _, _⟩ := hm2.at_
 have HB2 := hide hb2
 have hz2 := hb2.size
 have HX2 := hide (HX1.out.below hb2 lX1)
 have HM2 := hide (HM1.out.below hb2 lM1)
 have HR2 := hide (HR1.out.below hb2 lR1)
 have HBW := hide (HB1.out.trans (hb2.mono HB1.out.size))
 have lX2 : X < w2.heap.size := by omega
 have y0 := HX2.out.cell 0
 have y1 := HX2.out.cell 1
 have y2 := HX2.out.cell 2
 have yf0 := HX2.out.frozen 0
 have yf1 := HX2.out.frozen 1
 have yf2 := HX2.out.frozen 2
 simp at y0 y1 y2
 clear hb2 hm2 x0 x1 x2 HX1 HM1 HR1 HC H0
 obtain ⟨q, hq⟩ : ∃ q, q = fEq f1 f2 0 0 := ⟨_, rfl⟩
 cases q
 ·
  have hf : fEq f1 f2 0 0 = false := hq.symm
  clear hq
  have HMX := HM2.out
  have HRX := HR2.out
  have HBX := hide (((HBW.out.setCell (p := ⟨X, 0, none⟩) (by exact hwX) (.int .i64 t.n)).setCell (p := ⟨X, 1, none⟩) (by exact hwX) (.slice A2 n2 c2)).setCell (p := ⟨X, 2, none⟩) (by exact hwX) (.slice AF2 nf2 cf2))

  clear HMN HBW HX2 HM2 HR2 HV
  go_upto_region 3 with fail
  generalize hW3 : World.alloc _ _ = W3
  obtain ⟨P, hP⟩ : ∃ z, z = w2.heap.size := ⟨_, rfl⟩
  have bP := (show Blk W3 P 30 #[.int .i64 f1, .int .i64 f2] by rw [← hW3]; exact Blk.at_ (by simp [hP]))
  have bM := (show Blk W3 M 28 #[.int .i64 0, .slice none 0 0, .slice none 0 0] by rw [← hW3]; exact (((HMX.far (p := ⟨X, 0, none⟩) hMX _).far (p := ⟨X, 1, none⟩) hMX _).far (p := ⟨X, 2, none⟩) hMX _).alloc _)
  have bR := (show Blk W3 R 30 #[.int .i64 0, .int .i64 0] by rw [← hW3]; exact (((HRX.far (p := ⟨X, 0, none⟩) hRX _).far (p := ⟨X, 1, none⟩) hRX _).far (p := ⟨X, 2, none⟩) hRX _).alloc _)
  have HB3 := hide (show Below w.heap.size w W3 by rw [← hW3]; exact HBX.out.alloc HBX.out.size _)
  have hMP : M ≠ P := by have := HMX.lt; omega
  have hRP : R ≠ P := by have := HRX.lt; omega
  have hPM : P ≠ M := Ne.symm hMP
  have hPR : P ≠ R := Ne.symm hRP
  have p0 := bP.cell 0
  have p1 := bP.cell 1
  have lP := bP.lt
  simp at p0 p1
  simp only [← hP]
  clear hW3 hP HBX
  have q0 := bM.cell 0
  have q1 := bM.cell 1
  have q2 := bM.cell 2
  have q3 := bR.cell 0
  have q4 := bR.cell 1
  have qf := bM.frozen 0
  have qf1 := bM.frozen 1
  have qf2 := bM.frozen 2
  have qf3 := bR.frozen 0
  have qf4 := bR.frozen 1
  have lM := bM.lt
  have lR := bR.lt
  simp at q0 q1 q2 q3 q4
  clear bM bR bP HMX HRX y0 y1 y2 yf0 yf1 yf2 lX2
  refine wp_mix (fun w' => w'.cell? ⟨P, 0, none⟩ = some (.int .i64 f1) ∧ w'.cell? ⟨P, 1, none⟩ = some (.int .i64 f2)) 3 [(0, false), (1, false), (2, true)] (by kernel_rfl) (by kernel_rfl) ?_ ?_
  · go_simp
  simp only [List.drop_succ_cons, List.drop_zero]
  repeat (refine mix_q (v := ?_) (by rfl) (by rfl) ?_ ?_; rotate_left; (focus (intro w' hC; (try dsimp only at hC); go_simp; (first | done | with_reducible rfl))); simp only [Act.put, List.setIfInBounds_toArray, List.set_cons_zero, List.set_cons_succ, List.getElem_toArray, List.getElem_cons_zero, List.getElem_cons_succ])
  refine mix_l (by rfl) (by rfl) (fun K hK => ?_)
  go_simp
  refine hK _ _ (by go_simp) ?_
  clear hK K
  refine mix_nil ?_; try simp only [Act.put, List.setIfInBounds_toArray, List.set_cons_zero, List.set_cons_succ, List.getElem_toArray, List.getElem_cons_zero, List.getElem_cons_succ]
  go_wp2
  refine NoPanic.normal ?_
  go_wp2
  refine bodyPost_ret (v := .tuple #[.agg #[.int .i64 0, .slice none 0 0, .slice none 0 0], .agg #[.int .i64 f1, .int .i64 f2]]) (by simp [results, Try.results35, go_sem, lM, lR, hMR, hRM, q0, q1, q2, q3, q4, qf, qf1, qf2, qf3, qf4]) rfl ?_
  exact ⟨_, rfl, MachNew.empty _ _, by have hz := HB3.out.size; go_grown; exact HB3.out⟩
 ·
  have hf : fEq f1 f2 0 0 = true := hq.symm
  have hn0 : t.n = 0 := by
   rcases HV.out with g | g
   · rw [hf] at g; cases g
   · exact g
  clear hq
  have HMX := HM2.out
  have HRX := HR2.out
  have HBX := hide (((HBW.out.setCell (p := ⟨X, 0, none⟩) (by exact hwX) (.int .i64 t.n)).setCell (p := ⟨X, 1, none⟩) (by exact hwX) (.slice A2 n2 c2)).setCell (p := ⟨X, 2, none⟩) (by exact hwX) (.slice AF2 nf2 cf2))
  have t0 : (t.n == 0) = true := by simp [hn0]
  have t1 : decide (t.n = 0) = true := decide_eq_true hn0
  clear hn0
  clear HMN HBW HX2 HM2 HR2 HV
  go_upto_region 3 with fail
  generalize hW3 : World.alloc _ _ = W3
  obtain ⟨P, hP⟩ : ∃ z, z = w2.heap.size := ⟨_, rfl⟩
  have bP := (show Blk W3 P 30 #[.int .i64 f1, .int .i64 f2] by rw [← hW3]; exact Blk.at_ (by simp [hP]))
  have bM := (show Blk W3 M 28 #[.int .i64 0, .slice none 0 0, .slice none 0 0] by rw [← hW3]; exact (((HMX.far (p := ⟨X, 0, none⟩) hMX _).far (p := ⟨X, 1, none⟩) hMX _).far (p := ⟨X, 2, none⟩) hMX _).alloc _)
  have bR := (show Blk W3 R 30 #[.int .i64 0, .int .i64 0] by rw [← hW3]; exact (((HRX.far (p := ⟨X, 0, none⟩) hRX _).far (p := ⟨X, 1, none⟩) hRX _).far (p := ⟨X, 2, none⟩) hRX _).alloc _)
  have HB3 := hide (show Below w.heap.size w W3 by rw [← hW3]; exact HBX.out.alloc HBX.out.size _)
  have hMP : M ≠ P := by have := HMX.lt; omega
  have hRP : R ≠ P := by have := HRX.lt; omega
  have hPM : P ≠ M := Ne.symm hMP
  have hPR : P ≠ R := Ne.symm hRP
  have p0 := bP.cell 0
  have p1 := bP.cell 1
  have lP := bP.lt
  simp at p0 p1
  simp only [← hP]
  clear hW3 hP HBX
  have q0 := bM.cell 0
  have q1 := bM.cell 1
  have q2 := bM.cell 2
  have q3 := bR.cell 0
  have q4 := bR.cell 1
  have qf := bM.frozen 0
  have qf1 := bM.frozen 1
  have qf2 := bM.frozen 2
  have qf3 := bR.frozen 0
  have qf4 := bR.frozen 1
  have lM := bM.lt
  have lR := bR.lt
  simp at q0 q1 q2 q3 q4
  clear bM bR bP HMX HRX y0 y1 y2 yf0 yf1 yf2 lX2
  refine wp_mix (fun w' => w'.cell? ⟨P, 0, none⟩ = some (.int .i64 f1) ∧ w'.cell? ⟨P, 1, none⟩ = some (.int .i64 f2)) 3 [(0, false), (1, false), (2, true)] (by kernel_rfl) (by kernel_rfl) ?_ ?_
  · go_simp
  simp only [List.drop_succ_cons, List.drop_zero]
  repeat (refine mix_q (v := ?_) (by rfl) (by rfl) ?_ ?_; rotate_left; (focus (intro w' hC; (try dsimp only at hC); go_simp; (first | done | with_reducible rfl))); simp only [Act.put, List.setIfInBounds_toArray, List.set_cons_zero, List.set_cons_succ, List.getElem_toArray, List.getElem_cons_zero, List.getElem_cons_succ])
  refine mix_l (by rfl) (by rfl) (fun K hK => ?_)
  go_simp
  refine hK _ _ (by go_simp) ?_
  clear hK K
  refine mix_nil ?_; try simp only [Act.put, List.setIfInBounds_toArray, List.set_cons_zero, List.set_cons_succ, List.getElem_toArray, List.getElem_cons_zero, List.getElem_cons_succ]
  go_wp2
  refine NoPanic.normal ?_
  go_wp2
  refine bodyPost_ret (v := .tuple #[.agg #[.int .i64 0, .slice none 0 0, .slice none 0 0], .agg #[.int .i64 f1, .int .i64 f2]]) (by simp [results, Try.results35, go_sem, lM, lR, hMR, hRM, q0, q1, q2, q3, q4, qf, qf1, qf2, qf3, qf4]) rfl ?_
  exact ⟨_, rfl, MachNew.empty _ _, by have hz := HB3.out.size; go_grown; exact HB3.out⟩
end Go.Proofs.Ytopakcbhodnipaa
/- Text MxP. -/
namespace Gm
set_option linter.unusedSimpArgs false
set_option linter.unusedVariables false
def dblE : Mach := ⟨3, [⟨0, 1, 0, 0, 0⟩, ⟨0, 1, 97, 97, 0⟩, ⟨0, 2, 97, 97, 0⟩], [⟨1, 0⟩, ⟨2, 0⟩]⟩
def dblS : Mach := ⟨3, [⟨0, 1, 97, 97, 0⟩, ⟨0, 2, 97, 97, 0⟩], [⟨0, 0⟩, ⟨1, 0⟩, ⟨2, 0⟩]⟩
theorem dblE_arc {a : Arc} (ha : a ∈ dblE.arcs) : a = ⟨0, 1, 0, 0, 0⟩ ∨ a = ⟨0, 1, 97, 97, 0⟩ ∨ a = ⟨0, 2, 97, 97, 0⟩ := by
 simpa [dblE] using ha
theorem dblE_acc : accF dblE = (0, 0) := by decide
theorem dblE_near0 {s : Int} {u : Int} (h : Near dblE.arcs s u) : u = 0 → s = 0 := by
 induction h with
 | base => exact id
 | @step a h1 ha hi ih =>
  intro e
  rcases dblE_arc ha with rfl | rfl | rfl <;> simp at e
theorem dblE_silO : silO dblE = dblS := by
 have e1 : (silO dblE).arcs = [⟨0, 1, 97, 97, 0⟩, ⟨0, 2, 97, 97, 0⟩] := by
  refine strictA_uniq silO_strict pair_strict fun z => ?_
  rw [mem_silO, mem_silA]
  constructor
  ·
   rintro ⟨s, hs, a, ha, hi, hn, rfl⟩
   rcases dblE_arc ha with rfl | rfl | rfl
   · exact absurd rfl hi
   ·
    have := dblE_near0 hn rfl
    simp [this]
   ·
    have := dblE_near0 hn rfl
    simp [this]
  ·
   intro hz
   rcases List.mem_cons.1 hz with rfl | hz
   · exact ⟨0, by decide, ⟨0, 1, 97, 97, 0⟩, by simp [dblE], by decide, .base, rfl⟩
   ·
    rw [List.mem_singleton.1 hz]
    exact ⟨0, by decide, ⟨0, 2, 97, 97, 0⟩, by simp [dblE], by decide, .base, rfl⟩
 have e2 : silF dblE = [⟨0, 0⟩, ⟨1, 0⟩, ⟨2, 0⟩] := by
  have : silF dblE = (List.range 3).flatMap (fun s : Nat => [(⟨(s : Int), 0⟩ : Fnl)]) := by
   unfold silF
   show (List.range 3).flatMap _ = _
   refine flat_congr fun j hj => ?_
   rw [if_pos]
   rcases (by omega : j = 0 ∨ j = 1 ∨ j = 2) with rfl | rfl | rfl
   · exact ⟨⟨1, 0⟩, by simp [dblE], .step (a := ⟨0, 1, 0, 0, 0⟩) .base (by simp [dblE]) rfl⟩
   · exact ⟨⟨1, 0⟩, by simp [dblE], .base⟩
   · exact ⟨⟨2, 0⟩, by simp [dblE], .base⟩
  rw [this]
  rfl
 show (⟨3, (silO dblE).arcs, silF dblE⟩ : Mach) = dblS
 rw [e1, e2]
 rfl
theorem dblE_sil : silR dblE = (dblS, (0, 0)) := by
 have val := valid_of (accF_val dblE_acc)
 have e : silM dblE = dblS := by
  rw [silM_trim val.n0 val.inRange val.finRange, dblE_silO]
  exact trim_id (N := 3) rfl (by omega) (rng3 fun a ha => by
   have : a = ⟨0, 1, 97, 97, 0⟩ ∨ a = ⟨0, 2, 97, 97, 0⟩ := by simpa [dblS] using ha
   rcases this with rfl | rfl <;> simp) (fun x hx => by
   have : x = ⟨0, 0⟩ ∨ x = ⟨1, 0⟩ ∨ x = ⟨2, 0⟩ := by simpa [dblS] using hx
   rcases this with rfl | rfl | rfl <;> decide) (keep3 (by simp [dblS]) (by simp [dblS]) (by simp [dblS]) (by simp [dblS]))
 unfold silR
 rw [if_neg (fun g => g dblE_acc), e, if_neg (by decide)]
end Gm
/- Text CtT. -/
namespace Gm
set_option linter.unusedSimpArgs false
set_option linter.unusedVariables false
theorem langM_step {t : Mach} {S : Nat} (h : DmOk t S) {s : Nat} {x : Int} {w : List Int} : langM t s (x :: w) ↔ ∃ u : Nat, (∃ a ∈ t.arcs, a.f = (s : Int) ∧ a.i = x ∧ a.t = (u : Int)) ∧ langM t u w := by
 have h0 : ∀ a ∈ t.arcs, 0 ≤ a.t := fun a ha => (h.rng a ha).2.2.1
 constructor
 ·
  rintro ⟨u, hu, hw⟩
  exact ⟨u, ((mem_rowL h.det h0).1 hu).2, hw⟩
 ·
  rintro ⟨u, ⟨a, ha, e1, e2, e3⟩, hw⟩
  exact ⟨u, (mem_rowL h.det h0).2 ⟨(labsR_mem _ _).2 ⟨by rw [← e2]; have := (h.lab a ha).1; omega, a, ha, e2⟩, a, ha, e1, e2, e3⟩, hw⟩
theorem res_state {t : Mach} {S : Nat} (h : DmOk t S) (hS : 0 < S) {ls : List Int} {Q : Lang} (hQ : BR (stpQ ls) (langM t 0) Q) : ∃ s, s < S ∧ Q = langM t s := by
 induction hQ with
 | base => exact ⟨0, hS, rfl⟩
 | @step P U x _ hx ih =>
  obtain ⟨s, hs, rfl⟩ := ih
  obtain ⟨_, ⟨w, hw⟩, rfl⟩ := mem_stpQ.1 hx
  obtain ⟨u, ⟨a, ha, e1, e2, e3⟩, _⟩ := (langM_step h).1 hw
  have hr := h.rng a ha
  refine ⟨u, by omega, funext fun v => propext ?_⟩
  rw [langM_step h]
  constructor
  ·
   rintro ⟨u', ⟨a', ha', k1, k2, k3⟩, hv⟩
   have ht := h.det a ha a' ha' (by omega) (by omega)
   have : u = u' := by omega
   rw [this]; exact hv
  ·
   intro hv
   exact ⟨u, ⟨a, ha, e1, e2, e3⟩, hv⟩
theorem arcLess_irr (a : Arc) : arcLess a a = true → False := by
 intro h
 have := strictA_uniq (l := [a, a]) (k := [a]) (by simp [h]) (by simp) (fun x => by simp)
 cases this
open Classical in
theorem canon_small {t : Mach} {S : Nat} (h : DmOk t S) (hS : 0 < S) {ls : List Int} {L : Lang} {N : Nat} (hr : Reg ls L N) (hl : LabOk ls) (e : ∀ w, L w ↔ langM t 0 w) : (canonM ls L N).n ≤ (S : Int) ∧ (canonM ls L N).arcs.length ≤ t.arcs.length := by
 have e' : L = langM t 0 := funext fun w => propext (e w)
 subst e'
 by_cases hL : ∃ w, langM t 0 w
 ·
  obtain ⟨l, hb, e2⟩ := canon_list hr hl hL (Nat.le_refl N)
  have hst : ∀ Q ∈ l, ∃ s, s < S ∧ Q = langM t s := fun Q hQ => res_state h hS ((hb.mem Q).1 hQ)
  obtain ⟨st, hst2⟩ : ∃ st : Lang → Nat, ∀ Q ∈ l, st Q < S ∧ Q = langM t (st Q) := by
   refine ⟨fun Q => if hq : ∃ s, s < S ∧ Q = langM t s then Classical.choose hq else 0, fun Q hQ => ?_⟩
   dsimp only
   rw [dif_pos (hst Q hQ)]
   exact Classical.choose_spec (hst Q hQ)
  rw [e2]
  constructor
  ·
   have h1 : l.length ≤ ((List.range S).map (langM t)).length := nodup_sub_len hb.nod fun Q hQ => by
    obtain ⟨s, hs, rfl⟩ := hst Q hQ
    exact List.mem_map.2 ⟨s, List.mem_range.2 hs, rfl⟩
   rw [List.length_map, List.length_range] at h1
   show ((l.length : Nat) : Int) ≤ _
   omega
  ·
   have hmem : ∀ a ∈ (lstM (stpQ ls) finQ l).arcs, ∃ (j : Nat) (hj : j < l.length) (x : Int) (u : Lang), (x, u) ∈ stpQ ls l[j] ∧ a = ⟨(j : Int), ((l.idxOf u : Nat) : Int), x, x, 0⟩ := fun a ha => mem_rows.1 ha
   have h1 : ((lstM (stpQ ls) finQ l).arcs.map fun a => (((st (l.getD a.f.toNat (fun _ => False)) : Nat) : Int), a.i)).length ≤ (t.arcs.map fun a => (a.f, a.i)).length := by
    refine nodup_sub_len ?_ ?_
    ·
     refine List.pairwise_map.2 (hb.strict.imp_of_mem fun {a a'} ha ha' hlt heq => ?_)
     obtain ⟨j, hj, x, u, hu, rfl⟩ := hmem a ha
     obtain ⟨k, hk, y, v, hv, rfl⟩ := hmem a' ha'
     injection heq with g1 g2
     dsimp only at g1 g2
     subst g2
     have ej : l.getD ((j : Int)).toNat (fun _ => False) = l[j] := by simp [List.getD_eq_getElem?_getD, hj]
     have ek : l.getD ((k : Int)).toNat (fun _ => False) = l[k] := by simp [List.getD_eq_getElem?_getD, hk]
     rw [ej, ek] at g1
     have g1 : st l[j] = st l[k] := by omega
     have q1 := (hst2 _ (List.getElem_mem hj)).2
     have q2 := (hst2 _ (List.getElem_mem hk)).2
     rw [g1] at q1
     have hjk : j = k := by
      have := q1.trans q2.symm
      exact (List.getElem_inj hb.nod).1 this
     subst hjk
     have huv := incS_one (incS_stpQ hr.inc l[j]) hu hv
     subst huv
     exact arcLess_irr _ hlt
    ·
     intro p hp
     obtain ⟨a, ha, rfl⟩ := List.mem_map.1 hp
     obtain ⟨j, hj, x, u, hu, rfl⟩ := hmem a ha
     have ej : l.getD ((j : Int)).toNat (fun _ => False) = l[j] := by simp [List.getD_eq_getElem?_getD, hj]
     obtain ⟨_, ⟨w, hw⟩, _⟩ := mem_stpQ.1 hu
     rw [(hst2 _ (List.getElem_mem hj)).2] at hw
     obtain ⟨u2, ⟨b, hbm, k1, k2, _⟩, _⟩ := (langM_step h).1 hw
     refine List.mem_map.2 ⟨b, hbm, ?_⟩
     rw [Prod.mk.injEq]
     refine ⟨?_, k2⟩
     rw [k1]
     show _ = (((st (l.getD ((j : Int)).toNat fun _ => False)) : Nat) : Int)
     rw [ej]
   rw [List.length_map, List.length_map] at h1
   exact h1
 ·
  rw [canon_none hL]
  exact ⟨by show (0 : Int) ≤ _; omega, Nat.zero_le _⟩
theorem lim_det {m : Mach} (hm : (detW m).2 = (0, 0)) {ls : List Int} {L : Lang} {N : Nat} (hr : Reg ls L N) (hl : LabOk ls) (e : ∀ w, L w ↔ bA m w = true) : limR (canonM ls L N) = (canonM ls L N, (0, 0)) := by
 obtain ⟨S, hS⟩ := dmOk_det hm
 have e2 : ∀ w, L w ↔ langM (detW m).1 0 w := fun w => (e w).trans (bA_iff.trans (det_lang hm w).symm)
 have key : (canonM ls L N).n ≤ 400 ∧ (canonM ls L N).arcs.length ≤ 2000 := by
  rcases Nat.eq_zero_or_pos S with h0 | h0
  ·
   have hno : ¬ ∃ w, L w := by
    rintro ⟨w, hw⟩
    have h1 := (acR_start hS w).2 ((e2 w).1 hw)
    unfold s0I at h1
    rw [if_neg (by have := hS.n; omega), acR_neg] at h1
    cases h1
   rw [canon_none hno]
   exact ⟨by decide, by decide⟩
  ·
   have h1 := canon_small hS h0 hr hl e2
   have := hS.n4
   have := hS.len
   omega
 unfold limR
 rw [if_neg (by omega)]
theorem minW_zero {m : Mach} (hm : (detW m).2 = (0, 0)) : (minW m).2 = (0, 0) := by
 unfold minW
 rw [if_neg (fun g => g hm)]
 by_cases hn : (detW m).1.n = 0
 · rw [if_pos hn]
 ·
  rw [if_neg hn]
  have hok := detW_ok hm hn
  have hl : LabOk (lsM (detW m).1) := fun x hx => by
   obtain ⟨_, a, ha, rfl⟩ := (labsR_mem _ x).1 hx
   exact hok.lab a ha
  rw [lim_det hm (sil_reg hok) hl (fun w => (det_lang hm w).trans bA_iff.symm)]
/-! The states of a least machine are told apart by their words. -/
end Gm
