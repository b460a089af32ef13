/- The texts SoF of this proof. No conditions. -/
import Derived.Test.YtopakcbhodnipaaCb11
import Derived.Test.YtopakcbhodnipaaCb25
import Derived.Test.YtopakcbhodnipaaCb26
import Derived.Test.YtopakcbhodnipaaCb27
import Derived.Test.YtopakcbhodnipaaCb28
import Derived.Test.YtopakcbhodnipaaDb1
/- Text SoF. -/
namespace Gm
open Go Go.RowKit
set_option linter.unusedSimpArgs false
set_option linter.unusedVariables false
open Classical in
noncomputable def rowZ (A : List Arc) (s k : Nat) : List Arc := ((A.take k).filter fun a => decide (a.i ≠ 0 ∧ Near A (s : Int) a.f)).map fun a => ⟨(s : Int), a.t, a.i, a.i, 0⟩
open Classical in
noncomputable def endZ (m : Mach) (s k : Nat) : Bool := (m.fins.take k).any fun x => decide (Near m.arcs (s : Int) x.s)
noncomputable def SAp (m : Mach) (i : Nat) : List Arc := (List.range i).flatMap fun s => rowZ m.arcs s m.arcs.length
noncomputable def SFp (m : Mach) (i : Nat) : List Fnl := (List.range i).flatMap fun s => if endZ m s m.fins.length = true then [⟨(s : Int), 0⟩] else []
theorem rowZ_zero (A : List Arc) (s : Nat) : rowZ A s 0 = [] := by simp [rowZ]
theorem rowZ_yes {A : List Arc} {s k : Nat} {a : Arc} (h : A[k]? = some a) (hi : a.i ≠ 0) (hn : Near A (s : Int) a.f) : rowZ A s (k + 1) = rowZ A s k ++ [⟨(s : Int), a.t, a.i, a.i, 0⟩] := by
 unfold rowZ
 rw [List.take_add_one, h, List.filter_append, List.map_append]
 congr 1
 simp [hi, hn]
open Classical in
theorem rowZ_no {A : List Arc} {s k : Nat} {a : Arc} (h : A[k]? = some a) (hn : ¬ (a.i ≠ 0 ∧ Near A (s : Int) a.f)) : rowZ A s (k + 1) = rowZ A s k := by
 unfold rowZ
 rw [List.take_add_one, h, List.filter_append, List.map_append]
 have : List.filter (fun a => decide (a.i ≠ 0 ∧ Near A (s : Int) a.f)) (some a).toList = [] := by
  rw [List.filter_eq_nil_iff]
  intro x hx
  have : x = a := by simpa using hx
  rw [this]
  simpa using hn
 rw [this]
 simp
theorem SAp_succ (m : Mach) (i : Nat) : SAp m (i + 1) = SAp m i ++ rowZ m.arcs i m.arcs.length := flat_succ _ _
theorem SFp_succ (m : Mach) (i : Nat) : SFp m (i + 1) = SFp m i ++ if endZ m i m.fins.length = true then [⟨(i : Int), 0⟩] else [] := flat_succ _ _
theorem endZ_zero (m : Mach) (s : Nat) : endZ m s 0 = false := by simp [endZ]
open Classical in
theorem endZ_next {m : Mach} {s k : Nat} {x : Fnl} (h : m.fins[k]? = some x) : endZ m s (k + 1) = (endZ m s k || decide (Near m.arcs (s : Int) x.s)) := by
 unfold endZ
 rw [List.take_add_one, h, List.any_append]
 simp
theorem SAp_all (m : Mach) {S : Nat} (h : m.n = (S : Int)) : SAp m S = silA m := by
 unfold SAp silA rowZ
 rw [show m.n.toNat = S by omega]
 simp only [List.take_length]
theorem SFp_all (m : Mach) {S : Nat} (h : m.n = (S : Int)) : SFp m S = silF m := by
 unfold SFp silF
 rw [show m.n.toNat = S by omega]
 refine flat_congr fun s _ => ?_
 have : (endZ m s m.fins.length = true) ↔ ∃ x ∈ m.fins, Near m.arcs (s : Int) x.s := by
  unfold endZ
  rw [List.take_length, List.any_eq_true]
  simp
 by_cases g : endZ m s m.fins.length = true
 · rw [if_pos g, if_pos (this.1 g)]
 · rw [if_neg g, if_neg (fun g' => g (this.2 g'))]
theorem row_kept {w w6 : World} {g n : Nat} {t : TypeId} {f : Nat → Value} {b sz m : Nat} {e : TypeId} {v : Value} {xs : List Value} (hr : w.rowIs g t n f) (ho : w.ownsRow b e sz v m xs) (hne : e ≠ t) (hg : w.grownBy w6 v.ownBlock) : w6.rowIs g t n f := by
 obtain ⟨c, hc, h1, h2⟩ := hr
 exact World.rowIs.of_block ⟨c, hc, h1, h2⟩ (hg.block g (show Blk w g t c from hc).lt (Ne.symm (own_bne ho (show Blk w g t c from hc) hne)))
theorem cpt_same {e e' : Arc → Arc → Bool} : ∀ (l : List Arc) (p : Arc), (∀ x ∈ p :: l, ∀ y ∈ p :: l, e x y = e' x y) → cpt e p l = cpt e' p l
 | [], _, _ => rfl
 | a :: l, p, h => by
  have h1 := h p (by simp) a (by simp)
  have h2 := cpt_same l a (fun x hx y hy => h x (List.mem_cons_of_mem _ hx) y (List.mem_cons_of_mem _ hy))
  unfold cpt
  rw [h1, h2]
theorem compact_same {e e' : Arc → Arc → Bool} : ∀ {l : List Arc}, (∀ x ∈ l, ∀ y ∈ l, e x y = e' x y) → compact e l = compact e' l
 | [], _ => rfl
 | a :: l, h => by
  exact congrArg (List.cons a) (cpt_same l a h)
theorem compact_silA (m : Mach) : compact (sameA true) (srtA (silA m)) = compact eqA (srtA (silA m)) := by
 refine compact_same fun x hx y hy => ?_
 have hx := (srtA_perm _).mem_iff.1 hx
 have hy := (srtA_perm _).mem_iff.1 hy
 obtain ⟨s, hs, a, ha, hi, hn, rfl⟩ := mem_silA.1 hx
 obtain ⟨s', hs', a', ha', hi', hn', rfl⟩ := mem_silA.1 hy
 unfold sameA likeA eqA
 rw [if_pos rfl]
 rw [Bool.eq_iff_iff]
 simp only [Bool.and_eq_true, decide_eq_true_eq, Arc.mk.injEq]
 constructor
 · rintro ⟨⟨⟨h1, h2⟩, h3⟩, h4⟩; exact ⟨h1, h4, h2, h3, trivial⟩
 · rintro ⟨h1, h2, h3, h4, _⟩; exact ⟨⟨⟨h1, h3⟩, h4⟩, h2⟩
end Gm
namespace Go.Proofs.Ytopakcbhodnipaa
open Go.RowKit Gm
set_option linter.unusedSimpArgs false
set_option linter.unusedVariables false
set_option maxRecDepth 100000 in
set_option maxHeartbeats 16000000 in
open Classical in
theorem silentOf_any (va : Value) (m : Mach) (w : World) (B : Nat) (hB : B ≤ w.heap.size) (ha : MachAt w B va m) (hv : accF m = (0, 0)) :
 Calls Try.prog 33 #[va] w fun e w' => ∃ v1, e = .returned v1 ∧ MachNew w.heap.size w' v1 (silM m) ∧ Below w.heap.size w w' := by
 have val := valid_of (accF_val hv)
 obtain ⟨S, hS⟩ : ∃ S : Nat, m.n = (S : Int) := ⟨m.n.toNat, by have := val.n0; omega⟩
 have hS4 : S ≤ 400 := by have := val.n4; omega
 have hrng := val.inRange
 have hfr := val.finRange
 have hal := val.len
 have hfl := val.finLen
 rw [show m.n.toNat = S by omega] at hrng hfr
 have HM := hide ha
 have HSS := hide hS
 obtain ⟨i0, hi0, iz0, iz1, iz2⟩ := info_parts arc_info
 obtain ⟨i1, hi1, jz0, jz1, jz2⟩ := info_parts fin_info
 obtain ⟨A, AF, n, c, nf, cf, rfl, HN, HF, hnc, hnfc, hnb, hnfb, hA, hF⟩ := ha
 have HRA := hide hA
 have HRF := hide hF
 have HRNG := hide hrng
 have HFR := hide hfr
 have HVV := hide hv
 rw [HN.out] at hal
 rw [HF.out] at hfl
 unfold big at hnb hnfb
 rw [hS] at HM ⊢
 clear hA hF hrng hfr hS hv val
 have HMK := hide (fun (W : World) => run_make_row' (P := Try.prog) 24 4 (.bool false) 1 Try.underlying24 bool_info rfl .i64 .i64 S (by omega) (by omega) W)
 go_enter Try.func33, Try.ntmps33
 go_upto_region 3 with fail
 generalize hW2 : World.alloc _ _ = W2
 obtain ⟨X, hX⟩ : ∃ z, z = w.heap.size := ⟨_, rfl⟩
 obtain ⟨R, hR⟩ : ∃ z, z = w.heap.size + 1 := ⟨_, rfl⟩
 obtain ⟨O, hO⟩ : ∃ z, z = w.heap.size + 1 + 1 := ⟨_, rfl⟩
 have bX := hide (show Blk W2 X 28 #[.int .i64 (S : Int), .slice A n c, .slice AF nf cf] by rw [← hW2]; exact ((Blk.at_ hX).alloc _).alloc _)
 have bR := hide (show Blk W2 R 28 #[.int .i64 0, .slice none 0 0, .slice none 0 0] by rw [← hW2]; exact (Blk.at_ (by simp [hR])).alloc _)
 have bO := hide (show Blk W2 O 28 #[.int .i64 (S : Int), .slice none 0 0, .slice none 0 0] by rw [← hW2]; exact Blk.at_ (by simp [hO]))
 have HBW := hide (show Below w.heap.size w W2 by rw [← hW2]; go_grown)
 have hXO : X < O := by omega
 have hRO : R < O := by omega
 have hBO : B ≤ O := by omega
 have hwR : w.heap.size ≤ R := by omega
 have hwO : w.heap.size ≤ O := by omega
 have hOR : O ≠ R := by omega
 have hOs : W2.heap.size = O + 1 := by rw [← hW2]; simp [hO]
 simp only [← hO]
 simp only [← hR]
 try simp only [← hX]
 clear hW2 hX hR hO
 have HM2 := hide (HM.out.below HBW.out hB)
 have HRA2 := hide (HRA.out.below HBW.out hB)
 have HRF2 := hide (HRF.out.below HBW.out hB)
 go_loopw [16] (fun iv wr => ∃ (i q r : Nat), i ≤ S ∧ iv = .int .i64 (i : Int) ∧ q ≤ i * 2000 ∧ r ≤ i ∧ Hid (Mg 28 61 63 wr O (O + 1) (S : Int) q (SAp m i) r (SFp m i)) ∧ Hid (Below O W2 wr) ∧ O < wr.heap.size) (fun iv _ => S - (intOf iv).toNat)
 case atStart => exact ⟨0, 0, 0, by omega, rfl, by omega, by omega, hide (Mg.start bO.out _), hide (Below.refl _ _), bO.out.lt⟩
 case round =>
  obtain ⟨i, q, r, hi, rfl, hq, hr, HMG, HB, hOz⟩ := hrel
  have bX1 := hide (bX.out.below HB.out hXO)
  by_cases hiS : i < S
  ·
   have x0 := bX1.out.cell 0
   have x1 := bX1.out.cell 1
   have x2 := bX1.out.cell 2
   simp at x0 x1 x2
   have lX := bX1.out.lt
   have hmk := HMK.out
   have HG0 := hide (show (wr.alloc (.cells (madeCells #[.bool false] S) 4)).rowIs wr.heap.size 4 S (fun _ => .bool false) from World.rowIs_made wr (.bool false) S 4)
   have c0 := HG0.out.cell hiS
   have f0 := HG0.out.frozen i
   have l0 := HG0.out.lt
   have j0 : (0 : Int) ≤ (i : Int) := by omega
   have j1 : (i : Int) < (S : Int) := by omega
   go_upto_region 7 with fail
   clear hmk c0 f0 l0 x0 x1 x2 lX
   obtain ⟨g, hg⟩ : ∃ z, z = wr.heap.size := ⟨_, rfl⟩
   have hOg : O < g := by omega
   generalize hW4 : World.alloc _ _ = W4
   have HG1 := hide (show W4.rowIs g 4 S (fun j => .bool (decide (j = i))) by
    have h := HG0.out.set i (.bool true)
    rw [World.setCell_alloc_new, hW4, ← hg] at h
    exact h.congr (fun j _ => by by_cases e : j = i <;> simp [e]))
   have HMG4 := hide (show Mg 28 61 63 W4 O (O + 1) (S : Int) q (SAp m i) r (SFp m i) by rw [← hW4]; exact HMG.out.alloc _)
   have HB1 := hide (show Below O W2 W4 by rw [← hW4]; exact HB.out.alloc (by omega) _)
   try simp only [← hg]
   have hgO : O ≤ g := by omega
   have HMGW := hide HMG.out
   have HBA := hide (show Below wr.heap.size wr W4 by rw [← hW4]; exact (Below.refl _ _).alloc (Nat.le_refl _) _)
   have HGE := hide hg
   clear HMG HB HG0 hW4 bX1 hOz hg
   have bX2 := hide (bX.out.below HB1.out hXO)
   have x0 := bX2.out.cell 0
   have x1 := bX2.out.cell 1
   have x2 := bX2.out.cell 2
   simp at x0 x1 x2
   have lX := bX2.out.lt
   go_wp2_with fail
   refine (silent_any _ m W4 O S g (fun j => decide (j = i)) [(i : Int)] (by omega) ((HM2.out.below HB1.out hBO).mono hBO) HSS.out (by omega) HRNG.out (fun x hx => by rw [List.mem_singleton.1 hx]; omega) (fun s hs => by rw [decide_eq_true_iff, List.mem_singleton]; omega) HG1.out).mono ?_
   rintro e w5 ⟨T, rfl, hrow, hT, hb5⟩
   have HROW := hide hrow
   have HTT := hide (show ∀ s, s < S → (T s = true ↔ Near m.arcs (i : Int) (s : Int)) from fun s hs => by
    rw [hT s hs, near_rs]
    constructor
    ·
     rintro ⟨u, hu, hn⟩
     rw [List.mem_singleton.1 hu] at hn
     exact hn
    ·
     intro hn
     exact ⟨_, List.mem_singleton.2 rfl, hn⟩)
   have HB5 := hide hb5
   clear hrow hT hb5
   clear x0 x1 x2 lX
   have HB6 := hide (HB1.out.trans (HB5.out.mono hgO))
   have HMG6 := hide (HMGW.out.below (HBA.out.trans (HB5.out.mono (by rw [HGE.out]; exact Nat.le_refl _))))
   have hz6 : O < w5.heap.size := by have := HB6.out.size; omega
   clear HB1 HB5 HMG4 HMGW HBA bX2 HG1
   have bX6 := hide (bX.out.below HB6.out hXO)
   have x0 := bX6.out.cell 0
   have x1 := bX6.out.cell 1
   have x2 := bX6.out.cell 2
   simp at x0 x1 x2
   have lX := bX6.out.lt
   go_upto_region 9 with fail
   clear x0 x1 x2 lX
   go_loopw [31] (fun kv wq => ∃ (k q' : Nat), k ≤ n ∧ kv = .int .i64 (k : Int) ∧ q' ≤ i * 2000 + k ∧ Hid (Mg 28 61 63 wq O (O + 1) (S : Int) q' (SAp m i ++ rowZ m.arcs i k) r (SFp m i)) ∧ Hid (wq.rowIs g 4 S (fun j => .bool (T j))) ∧ Hid (Below O W2 wq) ∧ O < wq.heap.size) (fun kv _ => n - (intOf kv).toNat)
   case atStart => exact ⟨0, q, by omega, rfl, by omega, hide (by rw [rowZ_zero, List.append_nil]; exact HMG6.out), HROW, HB6, hz6⟩
   case round =>
    clear HMG6 HROW HB6 hz6 bX6
    obtain ⟨k, q', hk, rfl, hq', HMG, HROW, HB, hOz⟩ := hrel
    by_cases hkn : k < n
    ·
     obtain ⟨bb, off, x, hAe, hbB, d0, d1, d2, d3, d4, HX⟩ := arcs_at (HRA2.out.below HB.out hBO) hkn
     subst hAe
     have hbw : bb < wr.heap.size := by omega
     have hkl : k < m.arcs.length := by rw [HN.out]; exact hkn
     have hxk : m.arcs[k]? = some x := by rw [← HX.out, List.getElem?_eq_getElem hkl]; simp [hkl]
     obtain ⟨r0, r1, r2, r3⟩ := HRNG.out x (List.mem_of_getElem? hxk)
     have HXK := hide hxk
     have t2 := HROW.out.cell (show x.f.toNat < S by omega)
     have tl := HROW.out.lt
     have HTX := HTT.out x.f.toNat (by omega)
     rw [show ((x.f.toNat : Nat) : Int) = x.f by omega] at HTX
     have HTX := hide HTX
     clear hxk hkl HX
     by_cases hx0 : x.i = 0
     ·
      have ty : (x.i != 0) = false := by simp [hx0]
      have ty' : decide (x.i = 0) = true := decide_eq_true hx0
      have HRZ := hide (rowZ_no (s := i) HXK.out (fun g => g.1 hx0))
      clear hx0 t2 tl
      go_wp2
      go_roundw
      case rel => exact ⟨k + 1, q', by omega, by go_num, by omega, hide (by rw [HRZ.out]; exact HMG.out.alloc _), hide (HROW.out.alloc _), hide (HB.out.alloc (by omega) _), by simp; omega⟩
      case measure => simp [intOf]; omega
     ·
      have ty : (x.i != 0) = true := by simp [hx0]
      have ty' : decide (x.i = 0) = false := decide_eq_false hx0
      cases h1 : T x.f.toNat
      ·
       have HRZ := hide (rowZ_no (s := i) HXK.out (fun g => by have := HTX.out.2 g.2; rw [h1] at this; cases this))
       rw [h1] at t2
       clear hx0
       go_wp2
       go_roundw
       case rel => exact ⟨k + 1, q', by omega, by go_num, by omega, hide (by rw [HRZ.out]; exact HMG.out.alloc _), hide (HROW.out.alloc _), hide (HB.out.alloc (by omega) _), by simp; omega⟩
       case measure => simp [intOf]; omega
      ·
       have HRZ := hide (rowZ_yes (s := i) HXK.out hx0 (HTX.out.1 h1))
       rw [h1] at t2
       clear hx0
       go_upto_region 12 with fail
       clear t2 tl d0 d1 d2 d3 d4 ty ty' hbw
       generalize hW7 : World.alloc _ _ = W7
       obtain ⟨b7, hb7⟩ : ∃ z, z = wr.heap.size := ⟨_, rfl⟩
       have bx7 := hide (show Blk W7 b7 61 #[.int .i64 x.f, .int .i64 x.t, .int .i64 x.i, .int .i64 x.o, .int .i64 x.w] by rw [← hW7]; exact Blk.at_ hb7)
       have HMG7 := hide (show Mg 28 61 63 W7 O (O + 1) (S : Int) q' (SAp m i ++ rowZ m.arcs i k) r (SFp m i) by rw [← hW7]; exact HMG.out.alloc _)
       have HROW7 := hide (show W7.rowIs g 4 S (fun j => .bool (T j)) by rw [← hW7]; exact HROW.out.alloc _)
       have HB7 := hide (show Below O W2 W7 by rw [← hW7]; exact HB.out.alloc (by omega) _)
       have hO7 : O < W7.heap.size := by rw [← hW7]; simp; omega
       try simp only [← hb7]
       clear hW7 hb7 HMG HROW HB hOz
       obtain ⟨A5, c5, AF5, cf5, bO7, hoA, hoF⟩ := HMG7.out
       have e1 := bO7.cell 1
       have lO7 := bO7.lt
       simp at e1
       have y1 := bx7.out.cell 1
       have y2 := bx7.out.cell 2
       simp at y1 y2
       have ly := bx7.out.lt
       have P1 := hide (bO7.alloc (.cells #[.int .i64 (i : Int), .int .i64 x.t, .int .i64 x.i, .int .i64 x.i, .int .i64 0] 61))
       have P2 := hide (hoA.alloc (.cells #[.int .i64 (i : Int), .int .i64 x.t, .int .i64 x.i, .int .i64 x.i, .int .i64 0] 61))
       have P3 := hide (hoF.alloc (.cells #[.int .i64 (i : Int), .int .i64 x.t, .int .i64 x.i, .int .i64 x.i, .int .i64 0] 61))
       have P4 := hide (HROW7.out.alloc (.cells #[.int .i64 (i : Int), .int .i64 x.t, .int .i64 x.i, .int .i64 x.i, .int .i64 0] 61))
       have P5 := hide (HB7.out.alloc (by omega) (.cells #[.int .i64 (i : Int), .int .i64 x.t, .int .i64 x.i, .int .i64 x.i, .int .i64 0] 61))
       have HNF := hide (show (Value.slice A5 q' c5).ownBlock ≠ some O from own_bne hoA bO7 (by decide))
       have hq9 : q' ≤ 802000 := by have : i * 2000 ≤ 400 * 2000 := Nat.mul_le_mul_right _ (by omega); omega
       clear bO7 hoA hoF HMG7 HROW7 HB7 bx7
       go_wp2_with (at_builtin; go_loud (refine wpList_append_own_at _ rfl (.tmp 46) (.tmp 55) 25 rfl (O + 1) 61 i0 _ 5 40 Try.underlying25 hi0 iz0 iz1 iz2 rfl (by omega) (.slice A5 q' c5) q' _ rfl P2.out ⟨W7.heap.size, 0, none⟩ 1 1 (arcRow [⟨(i : Int), x.t, x.i, x.i, 0⟩]) rfl (by rfl) (World.news_of_block (cs := (arcRow [⟨(i : Int), x.t, x.i, x.i, 0⟩]).toArray) (t := 61) (fr := (0, 0)) (Blk.at_ rfl)) (arcRow_one _) (by simp only [maxLen]; omega) (by omega) (by simp <;> omega) ?_; intro v' w6 hown6 hg6 _ hat6; obtain ⟨A6, cf6, rfl, hkcv, _⟩ := own_value hown6; have HOWN6 := hide hown6; have HG6 := hide hg6; have df6 : w6.frozen? ⟨O, 1, none⟩ = false := far_free hg6 HNF.out P1.out.lt (P1.out.frozen 1); have d6 : w6.cell? ⟨O, 1, none⟩ = some (.slice A5 q' c5) := far_cell hg6 HNF.out (P1.out.cell 1); have lD6 : O < w6.heap.size := (by have := hg6.size; have := P1.out.lt; omega); clear hown6 hg6 hat6))
       have HMG6 := hide (mg_pushA P1.out P2.out P3.out (by decide) (by decide) (by decide) HG6.out HOWN6.out)
       have HRO6 := hide ((row_kept P4.out P2.out (by decide) HG6.out).setOther (a := ⟨O, 1, none⟩) (by show g ≠ O; omega) (.slice A6 (q' + 1) cf6))
       have HB6 := hide ((P5.out.grown HG6.out (by simp; omega) (fun z hz => by have := (P2.out.lt z hz).1; omega)).setCell (p := ⟨O, 1, none⟩) (by exact Nat.le_refl _) (.slice A6 (q' + 1) cf6))
       have hs6 := HG6.out.size
       simp at hs6
       rw [List.append_assoc, ← HRZ.out] at HMG6
       go_roundw
       case rel => exact ⟨k + 1, q' + 1, by omega, by go_num, by omega, HMG6, HRO6, HB6, by simp [World.setCell]; omega⟩
       case measure => simp [intOf]; omega
    ·
     obtain rfl : n = k := by omega
     have HSA := hide (show SAp m (i + 1) = SAp m i ++ rowZ m.arcs i n by rw [SAp_succ, HN.out])
     rw [← HSA.out] at HMG
     have bX6 := hide (bX.out.below HB.out hXO)
     have x0 := bX6.out.cell 0
     have x1 := bX6.out.cell 1
     have x2 := bX6.out.cell 2
     simp at x0 x1 x2
     have lX := bX6.out.lt
     go_upto_region 16 with fail
     clear x0 x1 x2 lX bX6
     obtain ⟨W8, hW8⟩ : ∃ z, z = wr := ⟨_, rfl⟩
     rw [← hW8] at HMG HROW HB hOz ⊢
     clear hW8
     go_loopw [8, 62] (fun ev kv wq => ∃ (k : Nat), k ≤ nf ∧ kv = .int .i64 (k : Int) ∧ ev = .bool (endZ m i k) ∧ Hid (Mg 28 61 63 wq O (O + 1) (S : Int) q' (SAp m (i + 1)) r (SFp m i)) ∧ Hid (wq.rowIs g 4 S (fun j => .bool (T j))) ∧ Hid (Below O W2 wq) ∧ O < wq.heap.size) (fun _ kv _ => nf - (intOf kv).toNat)
     case atStart => exact ⟨0, by omega, rfl, by rw [endZ_zero], HMG, HROW, HB, hOz⟩
     case round =>
      clear HMG HROW HB hOz
      obtain ⟨k, hk, rfl, rfl, HMG, HROW, HB, hOz⟩ := hrel
      by_cases hkn : k < nf
      ·
       obtain ⟨bb, off, x, hAe, hbB, d0, d1, HX⟩ := fins_at (HRF2.out.below HB.out hBO) hkn
       subst hAe
       have hbw : bb < wr.heap.size := by omega
       have hkl : k < m.fins.length := by rw [HF.out]; exact hkn
       have hxk : m.fins[k]? = some x := by rw [← HX.out, List.getElem?_eq_getElem hkl]; simp [hkl]
       obtain ⟨r0, r1⟩ := HFR.out x (List.mem_of_getElem? hxk)
       have t2 := HROW.out.cell (show x.s.toNat < S by omega)
       have tl := HROW.out.lt
       have HTX := HTT.out x.s.toNat (by omega)
       rw [show ((x.s.toNat : Nat) : Int) = x.s by omega] at HTX
       have HTX := hide HTX
       have HEN := hide (endZ_next (s := i) hxk)
       clear hxk hkl HX
       obtain ⟨eb, heb⟩ : ∃ z, z = endZ m i k := ⟨_, rfl⟩
       rw [← heb] at HEN ⊢
       clear heb
       cases eb
       ·
        obtain ⟨tb, htb⟩ : ∃ z, z = T x.s.toNat := ⟨_, rfl⟩
        have HEB := hide (show endZ m i (k + 1) = tb by
         rw [HEN.out, Bool.false_or, Bool.eq_iff_iff, decide_eq_true_iff, htb]
         exact HTX.out.symm)
        rw [← htb] at t2
        clear htb
        go_wp2
        go_roundw
        case rel => exact ⟨k + 1, by omega, by go_num, by rw [HEB.out], hide (HMG.out.alloc _), hide (HROW.out.alloc _), hide (HB.out.alloc (by omega) _), by simp; omega⟩
        case measure => simp [intOf]; omega
       ·
        have HEB := hide (show endZ m i (k + 1) = true by rw [HEN.out]; rfl)
        clear t2 tl
        go_wp2
        go_roundw
        case rel => exact ⟨k + 1, by omega, by go_num, by rw [HEB.out], hide (HMG.out.alloc _), hide (HROW.out.alloc _), hide (HB.out.alloc (by omega) _), by simp; omega⟩
        case measure => simp [intOf]; omega
      ·
       obtain rfl : nf = k := by omega
       have HSF := hide (show SFp m (i + 1) = SFp m i ++ if endZ m i nf = true then [⟨(i : Int), 0⟩] else [] by rw [SFp_succ, HF.out])
       obtain ⟨eb, heb⟩ : ∃ z, z = endZ m i nf := ⟨_, rfl⟩
       rw [← heb] at HSF ⊢
       clear heb
       cases eb
       ·
        have HS2 := hide (show SFp m (i + 1) = SFp m i by rw [HSF.out]; simp)
        clear HSF
        go_wp2
        go_roundw
        case rel => exact ⟨i + 1, q', r, by omega, by go_num, by have := Nat.succ_mul i 2000; omega, by omega, hide (by rw [HS2.out]; exact HMG.out), HB, hOz⟩
        case measure => simp [intOf]; omega
       ·
        have HS2 := hide (show SFp m (i + 1) = SFp m i ++ [⟨(i : Int), 0⟩] by rw [HSF.out]; simp)
        clear HSF
        obtain ⟨A5, c5, AF5, cf5, bO7, hoA, hoF⟩ := HMG.out
        have e2 := bO7.cell 2
        have lO7 := bO7.lt
        simp at e2
        have P1 := hide (bO7.alloc (.cells #[.int .i64 (i : Int), .int .i64 0] 63))
        have P2 := hide (hoA.alloc (.cells #[.int .i64 (i : Int), .int .i64 0] 63))
        have P3 := hide (hoF.alloc (.cells #[.int .i64 (i : Int), .int .i64 0] 63))
        have P5 := hide (HB.out.alloc (by omega) (.cells #[.int .i64 (i : Int), .int .i64 0] 63))
        have HNG := hide (show (Value.slice AF5 r cf5).ownBlock ≠ some O from own_bne hoF bO7 (by decide))
        clear bO7 hoA hoF HMG HB HROW
        go_wp2_with (at_builtin; go_loud (refine wpList_append_own_at _ rfl (.tmp 77) (.tmp 80) 26 rfl (O + 1) 63 i1 _ 2 16 Try.underlying26 hi1 jz0 jz1 jz2 rfl (by omega) (.slice AF5 r cf5) r _ rfl P3.out ⟨wr.heap.size, 0, none⟩ 1 1 (finRow [⟨(i : Int), 0⟩]) rfl (by rfl) (World.news_of_block (cs := (finRow [⟨(i : Int), 0⟩]).toArray) (t := 63) (fr := (0, 0)) (Blk.at_ rfl)) (finRow_one _) (by simp only [maxLen]; omega) (by omega) (by simp <;> omega) ?_; intro v' w6 hown6 hg6 _ hat6; obtain ⟨AF6, cf6, rfl, hkcv, _⟩ := own_value hown6; have HOWN6 := hide hown6; have HG6 := hide hg6; have df6 : w6.frozen? ⟨O, 2, none⟩ = false := far_free hg6 HNG.out P1.out.lt (P1.out.frozen 2); have d6 : w6.cell? ⟨O, 2, none⟩ = some (.slice AF5 r cf5) := far_cell hg6 HNG.out (P1.out.cell 2); have lD6 : O < w6.heap.size := (by have := hg6.size; have := P1.out.lt; omega); clear hown6 hg6 hat6))
        have HMG6 := hide (mg_pushF P1.out P2.out P3.out (by decide) (by decide) (by decide) HG6.out HOWN6.out)
        have HB6 := hide ((P5.out.grown HG6.out (by simp; omega) (fun z hz => by have := (P3.out.lt z hz).1; omega)).setCell (p := ⟨O, 2, none⟩) (by exact Nat.le_refl _) (.slice AF6 (r + 1) cf6))
        have hs6 := HG6.out.size
        simp at hs6
        rw [← HS2.out] at HMG6
        go_roundw
        case rel => exact ⟨i + 1, q', r + 1, by omega, by go_num, by have := Nat.succ_mul i 2000; omega, by omega, HMG6, HB6, by simp [World.setCell]; omega⟩
        case measure => simp [intOf]; omega
  ·
   obtain rfl : S = i := by omega
   obtain ⟨A5, c5, AF5, cf5, bO7, hoA, hoF⟩ := HMG.out
   have hqA := own_lenA hoA
   have hrF := own_lenF hoF
   have HLA := hide hqA
   have HLF := hide hrF
   have HEA := hide (SAp_all m HSS.out)
   have HEF := hide (SFp_all m HSS.out)
   have hq9 : q ≤ 800000 := by have : S * 2000 ≤ 400 * 2000 := Nat.mul_le_mul_right _ hS4; omega
   have e0 := bO7.cell 0
   have e1 := bO7.cell 1
   have e2 := bO7.cell 2
   simp at e0 e1 e2
   have lO7 := bO7.lt
   have HBO := hide bO7
   have HOA := hide hoA
   have HOF := hide hoF
   clear bO7 hoA hoF hqA hrF HMG bX1
   go_upto_region 24 with (go_at_call 69; refine (sorted_big A5 q c5 true (SAp m S) wr wr.heap.size (Nat.le_refl _) HLA.out (by omega) (Rd.of_own HOA.out (HLA.out ▸ fun a b h1 h2 => arcRow_at _ a b h1 h2))).mono ?_; rintro e w8 ⟨A8, c8, rfl, ho8, hb8⟩; have HO8 := hide ho8; have HB8 := hide hb8; have bO8 := hide (HBO.out.below hb8 HBO.out.lt); clear ho8 hb8 e0 e1 e2 lO7; have e0 := bO8.out.cell 0; have e1 := bO8.out.cell 1; have e2 := bO8.out.cell 2; simp at e0 e1 e2; have ef1 := bO8.out.frozen 1; have lO7 := bO8.out.lt)
   have HN8 := hide (show (compact (sameA true) (srtA (SAp m S))).length ≤ 800000 by
    have := compact_len (sameA true) (srtA (SAp m S))
    rw [srtA_len] at this
    have := HLA.out
    omega)
   have HOF8 := hide (show w8.ownsRow (O + 1) 63 2 (.slice AF5 r cf5) r (finRow (SFp m S)) from own_blw HOF.out HB8.out)
   have HO8L := hide (own_low HO8.out (show O + 1 ≤ wr.heap.size by omega))
   have HNA := hide (show (Value.slice A8 (compact (sameA true) (srtA (SAp m S))).length c8).ownBlock ≠ some O from own_bne HO8.out bO8.out (by decide))
   have HNG := hide (show (Value.slice AF5 r cf5).ownBlock ≠ some O from own_bne HOF8.out bO8.out (by decide))
   have HM8 := hide (show MachAt (w8.setCell ⟨O, 1, none⟩ (.slice A8 (compact (sameA true) (srtA (SAp m S))).length c8)) (w8.setCell ⟨O, 1, none⟩ (.slice A8 (compact (sameA true) (srtA (SAp m S))).length c8)).heap.size (.agg #[.int .i64 (S : Int), .slice A8 (compact (sameA true) (srtA (SAp m S))).length c8, .slice AF5 r cf5]) (silO m) by
    have h := mg_at (n0 := (S : Int)) (ownsRow_setCell_other HO8L.out HNA.out (Value.slice A8 (compact (sameA true) (srtA (SAp m S))).length c8) (a := ⟨O, 1, none⟩)) (ownsRow_setCell_other HOF8.out HNG.out (Value.slice A8 (compact (sameA true) (srtA (SAp m S))).length c8) (a := ⟨O, 1, none⟩)) (by have := HN8.out; unfold big; omega) (by unfold big; omega)
    rw [show (⟨(S : Int), compact (sameA true) (srtA (SAp m S)), SFp m S⟩ : Mach) = silO m by unfold silO; rw [HEA.out, HEF.out, compact_silA, HSS.out]] at h
    exact h)
   have HSZ := hide (show Sz (silO m) from by
    have e : (silO m).n.toNat = S := by show m.n.toNat = S; rw [HSS.out]; omega
    refine ⟨by show 0 ≤ m.n; rw [HSS.out]; omega, by show m.n ≤ _; rw [HSS.out]; omega, ?_, ?_, ?_, ?_⟩
    ·
     show (compact eqA (srtA (silA m))).length ≤ _
     have := HN8.out
     rw [HEA.out, compact_silA] at this
     omega
    ·
     show (silF m).length ≤ _
     have := HLF.out
     rw [HEF.out] at this
     omega
    ·
     rw [e]
     intro a ha
     have := silA_rng (by rw [HSS.out]; omega) (by rw [HSS.out]; exact HRNG.out) (mem_silO.1 ha)
     rw [HSS.out] at this
     omega
    ·
     rw [e]
     intro x hx
     obtain ⟨s, hs, _, rfl⟩ := mem_silF.1 (show x ∈ silF m from hx)
     have := HSS.out
     dsimp only
     omega)
   have HTM := hide (show trimOf (silO m) = silM m from (silM_trim (by rw [HSS.out]; omega) (by rw [HSS.out]; exact HRNG.out) (by rw [HSS.out]; exact HFR.out)).symm)
   have HB9 := hide (((HBW.out.trans (HB.out.mono hwO)).trans (HB8.out.mono (by omega))).setCell (p := ⟨O, 1, none⟩) (by exact hwO) (.slice A8 (compact (sameA true) (srtA (SAp m S))).length c8))
   have bR9 := hide (((bR.out.below HB.out hRO).below HB8.out (by omega)).far (p := ⟨O, 1, none⟩) (by exact Ne.symm hOR) (.slice A8 (compact (sameA true) (srtA (SAp m S))).length c8))
   have bO9 := hide (bO8.out.set_ 1 (.slice A8 (compact (sameA true) (srtA (SAp m S))).length c8))
   generalize hl8 : (compact (sameA true) (srtA (SAp m S))).length = n8 at *
   generalize hW9 : World.setCell _ _ _ = W9 at *
   clear hW9 hl8 e0 e1 e2 lO7 HOF8 HO8L HNA HNG HN8 HO8 HB8 bO8 HB HOA HOF HBO ef1
   have e0 := bO9.out.cell 0
   have e1 := bO9.out.cell 1
   have e2 := bO9.out.cell 2
   simp at e0 e1 e2
   have lO9 := bO9.out.lt
   clear bO9
   go_wp2_with fail
   refine (trimmed_gen _ _ _ _ (Nat.le_refl _) HM8.out HSZ.out).mono ?_
   rintro e w9 ⟨v1, rfl, hnew, hb9⟩
   rw [HTM.out] at hnew
   obtain ⟨A9, AF9, n9, c9, nf9, cf9, rfl, _⟩ := hnew.at_
   have hR9 : R < W9.heap.size := bR9.out.lt
   have bR := bR9.out.below hb9 hR9
   have HBE9 := hide (HB9.out.trans (hb9.mono (by omega)))
   have q0 := bR.cell 0
   have q1 := bR.cell 1
   have q2 := bR.cell 2
   have qf := bR.frozen 0
   have qf1 := bR.frozen 1
   have qf2 := bR.frozen 2
   have lR := bR.lt
   simp at q0 q1 q2
   have HNW := hide (((hnew.set (p := ⟨R, 0, none⟩) (by exact hR9) (.int .i64 (silM m).n)).set (p := ⟨R, 1, none⟩) (by exact hR9) (.slice A9 n9 c9)).set (p := ⟨R, 2, none⟩) (by exact hR9) (.slice AF9 nf9 cf9))
   have HBE10 := hide (((HBE9.out.setCell (p := ⟨R, 0, none⟩) (by exact hwR) (.int .i64 (silM m).n)).setCell (p := ⟨R, 1, none⟩) (by exact hwR) (.slice A9 n9 c9)).setCell (p := ⟨R, 2, none⟩) (by exact hwR) (.slice AF9 nf9 cf9))
   clear hb9 hnew bR HBE9
   go_wp21
   exact bodyPost_ret (v := .agg #[.int .i64 (silM m).n, .slice A9 n9 c9, .slice AF9 nf9 cf9]) (by simp [results, Try.results33, go_sem, lR, q0, q1, q2, qf, qf1, qf2]) rfl ⟨_, rfl, HNW.out.mono (by omega), HBE10.out⟩
end Go.Proofs.Ytopakcbhodnipaa
