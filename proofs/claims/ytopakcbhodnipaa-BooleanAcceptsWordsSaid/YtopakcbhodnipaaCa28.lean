/- The texts LgW, LbO, BxP of this proof. No conditions. -/
import Derived.Test.YtopakcbhodnipaaCa27
import Derived.Test.YtopakcbhodnipaaCa17
import Derived.Test.YtopakcbhodnipaaCa14
import Derived.Test.YtopakcbhodnipaaCa19
/- Text LgW. -/
namespace Gm
open Go Go.RowKit
theorem mapIs_atB {w : World} {g : Nat} (hg : g = w.heap.size) : MapIs (w.alloc (.map #[] 0)) cplB okB g [] := by subst hg; exact MapIs.made w cplB okB
end Gm
namespace Go.Proofs.Ytopakcbhodnipaa
open Go.RowKit Gm
set_option linter.unusedSimpArgs false
set_option linter.unusedVariables false
def lngV (S Mb gF : Nat) : Value := .agg #[.map (some Mb), .slice (some ⟨gF, 0, none⟩) S S]
structure LangAt (w : World) (m : Mach) (S Mb gF : Nat) : Prop where
  map : MapIs w cplB okB Mb (mapC m.arcs)
  fin : w.rowIs gF 4 S (fun i => .bool (fnB m.fins m.fins.length i))
theorem LangAt.below {w w' : World} {m : Mach} {S Mb gF : Nat} (h : LangAt w m S Mb gF) (hb : Below w.heap.size w w') : LangAt w' m S Mb gF :=
  ⟨h.map.below hb h.map.lt, h.fin.of_block (hb.block gF h.fin.lt)⟩
set_option maxRecDepth 100000 in
set_option maxHeartbeats 16000000 in
theorem languageOf_any (va : Value) (a : Mach) (w : World) (S : Nat) (ha : MachAt w w.heap.size va a) (hD : DmOk a S) :
    Calls Try.prog 97 #[va] w fun e w' => ∃ Mb gF : Nat, e = .returned (lngV S Mb gF) ∧ LangAt w' a S Mb gF ∧ Below w.heap.size w w' := by
  obtain ⟨A, AF, n, c, nf, cf, rfl, HN, HF, hnc, hnfc, hnb, hnfb, hA, hF⟩ := ha
  have hn4 := hD.len
  have hf4 := hD.flen
  have hS4 := hD.n4
  rw [HN.out] at hn4
  rw [HF.out] at hf4
  have HDM := hide hD
  have HRA := hide hA
  have HRF := hide hF
  unfold big at hnb hnfb
  rw [hD.n]
  have HMKB := hide (fun (W : World) => run_make_row' (P := Try.prog) 24 4 (.bool false) 1 Try.underlying24 bool_info rfl .i64 .i64 S (by omega) (by omega) W)
  clear hA hF hD
  go_enter Try.func97, Try.ntmps97
  have hmk := HMKB.out
  have hmm := @run_makeMap Try.prog
  go_upto_region 3 with fail
  clear hmk hmm
  generalize hW3 : World.alloc _ _ = W3
  obtain ⟨X, hX⟩ : ∃ z, z = w.heap.size := ⟨_, rfl⟩
  obtain ⟨R, hR⟩ : ∃ z, z = w.heap.size + 1 := ⟨_, rfl⟩
  obtain ⟨Mb, hMb⟩ : ∃ z, z = w.heap.size + 1 + 1 := ⟨_, rfl⟩
  obtain ⟨gF, hgF⟩ : ∃ z, z = w.heap.size + 1 + 1 + 1 := ⟨_, rfl⟩
  obtain ⟨O, hO⟩ : ∃ z, z = w.heap.size + 1 + 1 + 1 + 1 := ⟨_, rfl⟩
  have HX0 := hide (show Blk W3 X 28 #[.int .i64 (S : Int), .slice A n c, .slice AF nf cf] by rw [← hW3]; exact ((((Blk.at_ hX).alloc _).alloc _).alloc _).alloc _)
  have HR0 := hide (show Blk W3 R 119 #[.map none, .slice none 0 0] by rw [← hW3]; exact (((Blk.at_ (by simp [hR])).alloc _).alloc _).alloc _)
  have HM0 := hide (show MapIs W3 cplB okB Mb (mapC (a.arcs.take 0)) by rw [← hW3, List.take_zero]; exact ((mapIs_atB (by simp [hMb])).alloc _).alloc _)
  have HF0 := hide (show W3.rowIs gF 4 S (fun _ => .bool false) by rw [← hW3]; exact (rowO_made (by simp [hgF])).alloc _)
  have HO0 := hide (show Blk W3 O 119 #[.map (some Mb), .slice (some ⟨gF, 0, none⟩) S S] by rw [← hW3, hMb, hgF]; exact Blk.at_ (by simp [hO]))
  have HB0 := hide (show Below w.heap.size w W3 by rw [← hW3]; go_grown)
  simp only [← hO]
  try simp only [← hgF]
  try simp only [← hMb]
  try simp only [← hR]
  try simp only [← hX]
  have q1 : w.heap.size ≤ X := by omega
  have q2 : X < R := by omega
  have q3 : R < Mb := by omega
  have q4 : Mb < gF := by omega
  have q5 : gF < O := by omega
  clear hW3 hX hR hMb hgF hO HMKB
  go_loopw [16] (fun iv wr => ∃ i : Nat, i ≤ n ∧ iv = .int .i64 (i : Int) ∧ Hid (MapIs wr cplB okB Mb (mapC (a.arcs.take i))) ∧ Hid (wr.rowIs gF 4 S (fun _ => .bool false)) ∧ Hid (Blk wr O 119 #[.map (some Mb), .slice (some ⟨gF, 0, none⟩) S S]) ∧ Hid (Blk wr X 28 #[.int .i64 (S : Int), .slice A n c, .slice AF nf cf]) ∧ Hid (Blk wr R 119 #[.map none, .slice none 0 0]) ∧ Hid (Below w.heap.size w wr)) (fun iv _ => n - (intOf iv).toNat)
  case atStart => exact ⟨0, by omega, rfl, HM0, HF0, HO0, HX0, HR0, HB0⟩
  case round =>
    clear HM0 HF0 HO0 HX0 HR0 HB0
    obtain ⟨i, hi, rfl, HM, HFr, HO, HX, HR, HB⟩ := hrel
    have hsz := HB.out.size
    by_cases hin : i < n
    · obtain ⟨b, off, x, rfl, hbB, d0, d1, d2, d3, d4, HXx⟩ := arcs_at (HRA.out.below HB.out (Nat.le_refl _)) hin
      have hil : i < a.arcs.length := by rw [HN.out]; exact hin
      have HXA := hide (show a.arcs[i]? = some x by rw [List.getElem?_eq_getElem hil, ← HXx.out]; simp [hil])
      have HTK := hide (show a.arcs.take (i + 1) = a.arcs.take i ++ [x] from take_push hil HXx.out)
      have hxm := List.mem_of_getElem? HXA.out
      obtain ⟨r0, r1, r2, r3⟩ := HDM.out.rng x hxm
      obtain ⟨l0, l1⟩ := HDM.out.lab x hxm
      have HOK := hide (show okB (x.f, x.i) from ⟨by dsimp only; omega, by dsimp only; omega, by dsimp only; omega, by dsimp only; omega⟩)
      have lb : b < wr.heap.size := by omega
      clear HXx hil hxm
      go_upto_region 5 with fail
      generalize hW5 : World.alloc _ _ = W5
      obtain ⟨bx, hbx⟩ : ∃ z, z = wr.heap.size := ⟨_, rfl⟩
      have HX5 := hide (show Blk W5 bx 61 #[.int .i64 x.f, .int .i64 x.t, .int .i64 x.i, .int .i64 x.o, .int .i64 x.w] by rw [← hW5]; exact Blk.at_ hbx)
      have P1 := hide (show MapIs W5 cplB okB Mb (mapC (a.arcs.take i)) by rw [← hW5]; exact HM.out.alloc _)
      have P2 := hide (show W5.rowIs gF 4 S (fun _ => .bool false) by rw [← hW5]; exact HFr.out.alloc _)
      have P3 := hide (show Blk W5 O 119 #[.map (some Mb), .slice (some ⟨gF, 0, none⟩) S S] by rw [← hW5]; exact HO.out.alloc _)
      have P4 := hide (show Blk W5 X 28 #[.int .i64 (S : Int), .slice _ n c, .slice AF nf cf] by rw [← hW5]; exact HX.out.alloc _)
      have P5 := hide (show Blk W5 R 119 #[.map none, .slice none 0 0] by rw [← hW5]; exact HR.out.alloc _)
      have P6 := hide (show Below w.heap.size w W5 by rw [← hW5]; exact HB.out.alloc hsz _)
      simp only [← hbx]
      clear hW5 hbx HM HFr HO HX HR HB d0 d1 d2 d3 d4 lb
      have y0 := HX5.out.cell 0
      have y1 := HX5.out.cell 1
      have y2 := HX5.out.cell 2
      have z0 := P3.out.cell 0
      simp at y0 y1 y2 z0
      have ly : bx < W5.heap.size := HX5.out.lt
      have lz : O < W5.heap.size := P3.out.lt
      go_wp2_with (at_mapUpdate; go_loud (refine wpList_mapup rfl _ _ _ 117 rfl kl_cplB Try.underlying117 rfl P1.out (x.f, x.i) rfl HOK.out (.int .i64 x.t) rfl ?_; intro w7 hm7 hg7 hz7; have HM7 := hide hm7; have HG7 := hide hg7; clear hm7 hg7 hz7))
      have hs7 := HG7.out.size
      go_roundw
      case rel => exact ⟨i + 1, by omega, by go_num, hide (by rw [HTK.out, mapC_snoc]; exact HM7.out), hide (P2.out.of_block (HG7.out.block gF P2.out.lt (by intro e; injection e with e; omega))), hide (P3.out.grown HG7.out (by intro e; injection e with e; omega)), hide (P4.out.grown HG7.out (by intro e; injection e with e; omega)), hide (P5.out.grown HG7.out (by intro e; injection e with e; omega)), hide (P6.out.grown HG7.out P6.out.size (fun z hz => by injection hz with hz; omega))⟩
      case measure => simp [intOf]; omega
    · obtain rfl : n = i := by omega
      have HME := hide (show MapIs wr cplB okB Mb (mapC a.arcs) by have := HM.out; rw [List.take_of_length_le (by rw [HN.out]; exact Nat.le_refl _)] at this; exact this)
      have HFF := hide (show wr.rowIs gF 4 S (fun i => .bool (fnB a.fins 0 i)) by rw [fnB_zero]; exact HFr.out)
      have x2 := HX.out.cell 2
      simp at x2
      have lX : X < wr.heap.size := HX.out.lt
      obtain ⟨W4, hW4⟩ : ∃ z, z = wr := ⟨_, rfl⟩
      rw [← hW4] at HME HFF HO HR HB x2 lX ⊢
      clear hW4 HM HFr HX
      go_upto_region 8 with fail
      clear x2 lX
      go_loopw [33] (fun iv wr => ∃ i : Nat, i ≤ nf ∧ iv = .int .i64 (i : Int) ∧ Hid (wr.rowIs gF 4 S (fun s => .bool (fnB a.fins i s))) ∧ Hid (MapIs wr cplB okB Mb (mapC a.arcs)) ∧ Hid (Blk wr O 119 #[.map (some Mb), .slice (some ⟨gF, 0, none⟩) S S]) ∧ Hid (Blk wr R 119 #[.map none, .slice none 0 0]) ∧ Hid (Below w.heap.size w wr)) (fun iv _ => nf - (intOf iv).toNat)
      case atStart => exact ⟨0, by omega, rfl, HFF, HME, HO, HR, HB⟩
      case round =>
        clear HFF HME HO HR HB hsz
        obtain ⟨i, hi, rfl, HFr, HM, HO, HR, HB⟩ := hrel
        have hsz := HB.out.size
        by_cases hin : i < nf
        · obtain ⟨b, off, x, rfl, hbB, d0, d1, HXx⟩ := fins_at (HRF.out.below HB.out (Nat.le_refl _)) hin
          have hxm := getDF_mem (by rw [HF.out]; exact hin) HXx.out
          obtain ⟨r0, r1⟩ := HDM.out.frng x hxm
          have hkey : x.s.toNat < S := by omega
          have hil : i < a.fins.length := by rw [HF.out]; exact hin
          have HNX := hide (fnB_next (F := a.fins) (i := i) (x := x) (by rw [List.getElem?_eq_getElem hil, ← HXx.out]; simp [hil]) r0)
          have lb : b < wr.heap.size := by omega
          have cF := HFr.out.cell hkey
          have fF := HFr.out.frozen x.s.toNat
          have lFr : gF < wr.heap.size := HFr.out.lt
          have lOr : O < wr.heap.size := HO.out.lt
          have y1 := HO.out.cell 1
          simp at y1
          clear HXx hxm hil
          go_wp2
          go_roundw
          case rel => exact ⟨i + 1, by omega, by go_num, hide (((HFr.out.set x.s.toNat (.bool true)).congr (fun s _ => by rw [← HNX.out]; exact upd_val _ _ _)).alloc _), hide ((HM.out.set_ (p := ⟨gF, x.s.toNat, none⟩) (by show Mb ≠ gF; omega) _).alloc _), hide ((HO.out.far (by show O ≠ gF; omega) _).alloc _), hide ((HR.out.far (by show R ≠ gF; omega) _).alloc _), hide ((HB.out.setCell (p := ⟨gF, x.s.toNat, none⟩) (by show w.heap.size ≤ gF; omega) _).alloc (by simpa using hsz) _)⟩
          case measure => simp [intOf]; omega
        · obtain rfl : nf = i := by omega
          have HFE := hide (show wr.rowIs gF 4 S (fun s => .bool (fnB a.fins a.fins.length s)) by rw [HF.out]; exact HFr.out)
          have y0 := HO.out.cell 0
          have y1 := HO.out.cell 1
          have k0 := HR.out.cell 0
          have k1 := HR.out.cell 1
          have f0 := HR.out.frozen 0
          have f1 := HR.out.frozen 1
          simp at y0 y1 k0 k1
          have lRr := HR.out.lt
          have lOr : O < wr.heap.size := HO.out.lt
          have hOR : O ≠ R := by omega
          clear HFr
          go_wp21
          refine bodyPost_ret (v := lngV S Mb gF) (by simp [results, Try.results97, go_sem, lngV, lRr, k0, k1, f0, f1]) rfl ?_
          exact ⟨Mb, gF, rfl, ⟨(HM.out.set_ (p := ⟨R, 0, none⟩) (by show Mb ≠ R; omega) _).set_ (p := ⟨R, 1, none⟩) (by show Mb ≠ R; omega) _, (HFE.out.setOther (a := ⟨R, 0, none⟩) (by show gF ≠ R; omega) _).setOther (a := ⟨R, 1, none⟩) (by show gF ≠ R; omega) _⟩, (HB.out.setCell (p := ⟨R, 0, none⟩) (by show w.heap.size ≤ R; omega) _).setCell (p := ⟨R, 1, none⟩) (by show w.heap.size ≤ R; omega) _⟩
set_option maxRecDepth 100000 in
set_option maxHeartbeats 4000000 in
theorem next_any (a : Mach) (w : World) (S Mb gF : Nat) (s x : Int) (h : LangAt w a S Mb gF) (hD : DmOk a S) (hs : -1 ≤ s ∧ s ≤ 2000000) (hx : -1 ≤ x ∧ x ≤ 2000000) :
    Calls Try.prog 99 #[lngV S Mb gF, .int .i64 s, .int .i64 x] w fun e w' => e = .returned (.int .i64 (nxI a s x)) ∧ Below w.heap.size w w' := by
  have HL := hide h.map
  have HLK := hide (show (lk (mapC a.arcs) (s, x) = none ∧ nxI a s x = -1) ∨ lk (mapC a.arcs) (s, x) = some (.int .i64 (nxI a s x)) by
    have := lkC (A := a.arcs) (fun y hy => (hD.rng y hy).1) s x a.arcs.length
    rw [List.take_length] at this
    exact this)
  have HOK := hide (show okB (s, x) from ⟨hs.1, hs.2, hx.1, hx.2⟩)
  obtain ⟨r, hr⟩ : ∃ z, z = nxI a s x := ⟨_, rfl⟩
  rw [← hr] at HLK ⊢
  unfold lngV
  clear h hD hr hs hx
  go_enter Try.func99, Try.ntmps99
  rcases HLK.out with ⟨h1, h2⟩ | h1
  · subst h2
    have HN := hide h1
    clear h1
    go_wp2_with (at_lookup; go_loud (refine wpList_look_no rfl _ _ 117 rfl kl_cplB Try.underlying117 zero_intB rfl (HL.out.alloc _) (s, x) rfl HOK.out HN.out ?_))
    exact bodyPost_ret (v := .int .i64 (-1)) (by simp [results, Try.results99, go_sem]) rfl ⟨rfl, by go_grown⟩
  · have HN := hide h1
    clear h1
    go_wp2_with (at_lookup; go_loud (refine wpList_look_yes rfl _ _ 117 rfl kl_cplB Try.underlying117 zero_intB rfl (HL.out.alloc _) (s, x) rfl HOK.out _ HN.out ?_))
    exact bodyPost_ret (v := .int .i64 r) (by simp [results, Try.results99, go_sem]) rfl ⟨rfl, by go_grown⟩
set_option maxRecDepth 100000 in
set_option maxHeartbeats 4000000 in
theorem accl_any (a : Mach) (w : World) (S Mb gF : Nat) (s : Int) (h : LangAt w a S Mb gF) (hD : DmOk a S) :
    Calls Try.prog 98 #[lngV S Mb gF, .int .i64 s] w fun e w' => e = .returned (.bool (acI a s)) ∧ Below w.heap.size w w' := by
  have hS4 := hD.n4
  have hn := hD.n
  have HR := hide h.fin
  unfold acI
  rw [hn]
  unfold lngV
  clear h hD hn
  go_enter Try.func98, Try.ntmps98
  by_cases h0 : 0 ≤ s
  · by_cases h1 : s < (S : Int)
    · have hk : s.toNat < S := by omega
      have cF := (HR.out.alloc (.cells #[.map (some Mb), .slice (some ⟨gF, 0, none⟩) S S] 119)).cell hk
      have lF := (HR.out.alloc (.cells #[.map (some Mb), .slice (some ⟨gF, 0, none⟩) S S] 119)).lt
      have t0 : decide (s ≥ 0) = true := decide_eq_true h0
      have t0' : decide (0 ≤ s) = true := decide_eq_true h0
      have t1 : decide (s < (S : Int)) = true := decide_eq_true h1
      go_wp2
      rw [t0', t1]
      exact bodyPost_ret (v := .bool (fnB a.fins a.fins.length s.toNat)) (by simp [results, Try.results98, go_sem]) rfl ⟨rfl, by go_grown⟩
    · have t0 : decide (s ≥ 0) = true := decide_eq_true h0
      have t0' : decide (0 ≤ s) = true := decide_eq_true h0
      have t1 : decide (s < (S : Int)) = false := decide_eq_false h1
      go_wp2
      try rw [t0', t1]
      exact bodyPost_ret (v := .bool false) (by simp [results, Try.results98, go_sem]) rfl ⟨rfl, by go_grown⟩
  · have t0 : decide (s ≥ 0) = false := decide_eq_false h0
    have t0' : decide (0 ≤ s) = false := decide_eq_false h0
    go_wp2
    try rw [t0']
    exact bodyPost_ret (v := .bool false) (by simp [results, Try.results98, go_sem]) rfl ⟨rfl, by go_grown⟩
end Go.Proofs.Ytopakcbhodnipaa
/- Text LbO. -/
namespace Gm
open Go Go.RowKit
set_option linter.unusedSimpArgs false
set_option linter.unusedVariables false
def toF (c : Int × Int) : Fnl := ⟨c.1, c.2⟩
def cF (L : List (Int × Int)) : List Fnl := L.map toF
theorem cF_snoc (L : List (Int × Int)) (c : Int × Int) : finRow (cF (L ++ [c])) = finRow (cF L) ++ finRow [toF c] := by unfold cF; rw [List.map_append, finRow_append]; rfl
theorem cF_len (L : List (Int × Int)) : (cF L).length = L.length := by unfold cF; rw [List.length_map]
theorem cF_at {L : List (Int × Int)} {i : Nat} {x : Fnl} (hi : i < L.length) (h : (cF L).getD i dF = x) : (x.s, x.w) = L.getD i (-1, -1) := by
  have e : (cF L).getD i dF = toF (L[i]'hi) := by
    unfold cF
    simp [List.getD_eq_getElem?_getD, hi]
  have e2 : L.getD i (-1, -1) = L[i]'hi := by simp [List.getD_eq_getElem?_getD, hi]
  rw [e2, ← h, e]
  rfl
def bRow (L : List Bool) : List Value := L.map Value.bool
theorem bRow_snoc (L : List Bool) (b : Bool) : bRow (L ++ [b]) = bRow L ++ bRow [b] := by unfold bRow; rw [List.map_append]
theorem bRow_one (L : List Bool) : ∀ u ∈ bRow L, u.oneCell' = true := by
  intro u hu
  obtain ⟨b, _, rfl⟩ := List.mem_map.1 (show u ∈ L.map Value.bool from hu)
  rfl
theorem bools_own {w : World} {base n : Nat} {e : TypeId} {v : Value} {L : List Bool} (h : w.ownsRow base e 1 v n (bRow L)) (hn : n ≤ big) : Bools w w.heap.size v L := by
  obtain ⟨A, c, rfl, hnc, _⟩ := own_value h
  have hl : L.length = n := by have := h.1; unfold bRow at this; rw [List.length_map] at this; omega
  refine ⟨A, n, c, rfl, hide hl, hnc, hn, Rd.of_own h (fun i j hi hj => ?_)⟩
  obtain rfl : j = 0 := by omega
  unfold bRow boolCell
  simp [List.getD_eq_getElem?_getD, show i < L.length by omega]
end Gm
namespace Go.Proofs.Ytopakcbhodnipaa
open Go.RowKit Gm
set_option linter.unusedSimpArgs false
set_option linter.unusedVariables false
set_option maxRecDepth 100000 in
set_option maxHeartbeats 16000000 in
theorem labelsOf_any (va : Value) (t : Mach) (w : World) (ha : MachAt w w.heap.size va t) (hn : t.arcs.length ≤ 2000) :
    Calls Try.prog 76 #[va] w fun e w' => ∃ A c, e = .returned (.slice A (setI (t.arcs.map (·.i))).length c) ∧ w'.ownsRow w.heap.size 3 1 (.slice A (setI (t.arcs.map (·.i))).length c) (setI (t.arcs.map (·.i))).length (intRow (setI (t.arcs.map (·.i)))) ∧ Below w.heap.size w w' := by
  obtain ⟨i0, hi0, iz0, iz1, iz2⟩ := info_parts int_info
  obtain ⟨A2, AF2, n2, c2, nf2, cf2, rfl, HN2, HF2, hnc, hnfc, hnb, hnfb, hA, hF⟩ := ha
  rw [HN2.out] at hn
  have HRA := hide hA
  clear hA hF
  go_enter Try.func76, Try.ntmps76
  go_upto_region 3 with fail
  generalize hW3 : World.alloc _ _ = W3
  have HB3 := hide (show Below w.heap.size w W3 by rw [← hW3]; go_grown)
  clear hW3
  have HO0 := hide (World.ownsRow_nil W3 w.heap.size 3 1)
  go_loopw [3, 9] (fun lv iv wr => ∃ i : Nat, i ≤ n2 ∧ iv = .int .i64 (i : Int) ∧ Hid (wr.ownsRow w.heap.size 3 1 lv i (intRow ((t.arcs.take i).map (·.i)))) ∧ Hid (Below w.heap.size w wr)) (fun _ iv _ => n2 - (intOf iv).toNat)
  case atStart => exact ⟨0, by omega, rfl, HO0, HB3⟩
  case round =>
    clear HO0 HB3
    obtain ⟨i, hi, rfl, HO, HBV⟩ := hrel
    by_cases hin : i < n2
    · obtain ⟨b, off, x, rfl, hbB, d0, d1, d2, d3, d4, HX⟩ := arcs_at (HRA.out.below HBV.out (Nat.le_refl _)) hin
      have HTK := hide (show t.arcs.take (i + 1) = t.arcs.take i ++ [x] from take_push (by rw [HN2.out]; exact hin) HX.out)
      have lb : b < wr.heap.size := by have := HBV.out.size; omega
      obtain ⟨Av, cv, hlv, hcv, _⟩ := own_value HO.out
      subst hlv
      clear HX
      go_upto_region 5 with fail
      generalize hW5 : World.alloc _ _ = W5
      obtain ⟨bx, hbx⟩ : ∃ z, z = wr.heap.size := ⟨_, rfl⟩
      have HX5 := hide (show Blk W5 bx 61 #[.int .i64 x.f, .int .i64 x.t, .int .i64 x.i, .int .i64 x.o, .int .i64 x.w] by rw [← hW5]; exact Blk.at_ hbx)
      have HO5 := hide (show W5.ownsRow w.heap.size 3 1 (.slice Av i cv) i (intRow ((t.arcs.take i).map (·.i))) by rw [← hW5]; exact HO.out.alloc _)
      have HB5 := hide (show Below w.heap.size w W5 by rw [← hW5]; exact HBV.out.alloc HBV.out.size _)
      simp only [← hbx]
      clear hW5 hbx HO HBV d0 d1 d2 d3 d4 lb
      have y2 := HX5.out.cell 2
      simp at y2
      have lx5 : bx < W5.heap.size := HX5.out.lt
      have hz5 : w.heap.size ≤ W5.heap.size := HB5.out.size
      go_wp2_with (at_builtin; go_loud (refine wpList_append_own_at _ rfl (.tmp 13) (.tmp 16) 22 rfl w.heap.size 3 i0 _ 1 8 Try.underlying22 hi0 iz0 iz1 iz2 rfl (by omega) (.slice Av i cv) i _ rfl (HO5.out.alloc _) ⟨W5.heap.size, 0, none⟩ 1 1 (intRow [x.i]) rfl (by rfl) (World.news_of_block (cs := (intRow [x.i]).toArray) (t := 3) (fr := (0, 0)) (Blk.at_ rfl)) (intRow_one _) (by simp only [maxLen]; omega) (by omega) (by simp <;> omega) ?_; intro v' w6 hown2 hg2 _ hat2; have HOW2 := hide hown2; have HG2 := hide hg2; clear hown2 hg2 hat2))
      have HON := hide (show w6.ownsRow w.heap.size 3 1 v' (i + 1) (intRow ((t.arcs.take (i + 1)).map (·.i))) by rw [HTK.out, List.map_append, intRow_append]; exact HOW2.out)
      have HBN := hide ((HB5.out.alloc hz5 (Obj.cells #[.int .i64 x.i] 3)).grown HG2.out (by simp; omega) (fun z hz => (HO5.out.lt z hz).1))
      clear HOW2 HG2 HO5 HB5 HX5
      go_roundw
      case rel => exact ⟨i + 1, by omega, by go_num, HON, HBN⟩
      case measure => simp [intOf]; omega
    · obtain rfl : n2 = i := by omega
      have HOL := hide (show wr.ownsRow w.heap.size 3 1 u3 n2 (intRow (t.arcs.map (·.i))) by have := HO.out; rw [List.take_of_length_le (by rw [HN2.out]; exact Nat.le_refl _)] at this; exact this)
      have HLL := hide (show (t.arcs.map (·.i)).length = n2 by rw [List.length_map]; exact HN2.out)
      clear HO
      go_wp2_with (first
        | (go_at_call 54; refine (sorti_any _ n2 w.heap.size u3 wr HLL.out (by omega) HOL.out).mono ?_; rintro e w7 ⟨rfl, ho7, hg7⟩; have HO7 := hide ho7; have HG7 := hide hg7; clear ho7 hg7)
        | (go_at_call 55; refine (compacti_any _ n2 w.heap.size u3 w7 (by rw [List.length_mergeSort, HLL.out]) (by omega) HO7.out).mono ?_; rintro e w8 ⟨A8, c8, rfl, ho8, hob8, hg8⟩; rw [ms_comp] at ho8 hob8 ⊢; have HO8 := hide ho8; have HG8 := hide hg8; clear ho8 hob8 hg8))
      refine bodyPost_ret (v := .slice A8 (setI (t.arcs.map (·.i))).length c8) (by simp [results, Try.results76, go_sem]) rfl ?_
      exact ⟨A8, c8, rfl, HO8.out, (HBV.out.grown HG7.out HBV.out.size (fun z hz => (HOL.out.lt z hz).1)).grown HG8.out (by have := HBV.out.size; have := HG7.out.size; omega) (fun z hz => (HOL.out.lt z hz).1)⟩
end Go.Proofs.Ytopakcbhodnipaa
/- Text BxP. -/
namespace Gm
set_option linter.unusedSimpArgs false
set_option linter.unusedVariables false
theorem labB_ok {l : List Int} (hi : l.Pairwise (· < ·)) (hl : LabOk l) {k : Nat} (hk : k < l.length) : labB l k = none := by
  have e : ∀ j (hj : j < l.length), l.getD j 0 = l[j] := fun j hj => by simp [List.getD_eq_getElem?_getD, hj]
  have h1 := hl _ (List.getElem_mem hk)
  unfold labB
  rw [e k hk, if_neg (by omega), if_neg]
  rintro ⟨h0, h2⟩
  rw [e (k - 1) (by omega)] at h2
  have := List.pairwise_iff_getElem.1 hi (k - 1) k (by omega) hk (by omega)
  omega
theorem idxC_lt {a b : Mach} {l : List Int} {I i : Nat} (hI : (LsC a b l I).length = I) (hi : i < I) {x : Int} (hx : x ∈ l) : (LsC a b l (i + 1)).idxOf (nxI a (cpC a b l i).1 x, nxI b (cpC a b l i).2 x) < I := by
  have hlt : i < (LsC a b l i).length := by
    rcases Nat.lt_or_ge i (LsC a b l i).length with g | g
    · exact g
    · exfalso
      have : ∀ d, LsC a b l (i + d) = LsC a b l i := by
        intro d
        induction d with
        | zero => rfl
        | succ d ih =>
          show (bfsGo _ _ (i + d + 1) 0 _ _).1.1 = _
          rw [bfsGo_succ]
          have h2 : (StC a b l (i + d)).1.1.length ≤ 0 + (i + d) := by
            have := congrArg List.length ih
            unfold LsC at this g
            omega
          have := bfsGo_none (stp := stpC a b l) (fin := fun _ => false) h2 (F := (StC a b l (i + d)).2) 1
          rw [show bfsGo (stpC a b l) (fun _ => false) (i + d) 0 ([(s0I a, s0I b)], []) [] = StC a b l (i + d) from rfl]
          rw [show ((StC a b l (i + d)).1, (StC a b l (i + d)).2) = StC a b l (i + d) from rfl] at this
          rw [this]
          exact ih
      have h3 := this (I - i)
      rw [show i + (I - i) = I by omega] at h3
      rw [h3] at hI
      omega
  have h := List.idxOf_lt_length_of_mem (lsC_step hlt hx)
  obtain ⟨k, hk⟩ := lsC_pre (a := a) (b := b) (l := l) (show i + 1 ≤ I by omega)
  have h2 := congrArg List.length hk
  rw [List.length_append, hI] at h2
  have h3 : (LsC a b l (i + 1)).idxOf (nxI a (cpC a b l i).1 x, nxI b (cpC a b l i).2 x) < (LsC a b l (i + 1)).length := by
    rw [idx_inst]; exact h
  omega
theorem joinTab {a b : Mach} {l : List Int} {K : Bool → Bool → Bool} {I : Nat} (hI : (LsC a b l I).length = I) (hI2 : I ≤ 20000) (hi : l.Pairwise (· < ·)) (hl : LabOk l) (h3 : l.length ≤ 300) : tblF l (rowsC a b l I) (finsC a b l K I).length = (0, 0) := by
  have hlen : (rowsC a b l I).length = I := by unfold rowsC; rw [List.length_map, List.length_range]
  rw [tblF_end (by omega) (fun j hj => labB_ok hi hl hj) (by omega) (fun j hj => ?_)]
  · rw [if_neg]
    unfold finsC
    rw [List.length_map, List.length_range, hlen]
    simp
  · rw [hlen] at hj ⊢
    have e : (rowsC a b l I).getD j [] = rowC a b l j := by
      unfold rowsC
      simp [List.getD_eq_getElem?_getD, hj]
    unfold rowB
    rw [e, rowC_len, if_neg (by simp), if_pos]
    intro t ht
    unfold rowC at ht
    obtain ⟨x, hx, rfl⟩ := List.mem_map.1 ht
    have := idxC_lt hI hj hx
    omega
theorem join_lim {a b : Mach} {l : List Int} {K : Bool → Bool → Bool} {r : Mach × (Int × Int)} (hi : l.Pairwise (· < ·)) (hl : LabOk l) (h3 : l.length ≤ 300) (h : JoinR a b l K r) :
    (r = (emptyM, (17, -1)) ∧ ∃ i, 20000 < (LsC a b l i).length) ∨ ∃ N, Reg l (jnL a b l K) N ∧ N = (rowsC a b l N).length ∧ r = limR (canonM l (jnL a b l K) N) := by
  rcases h with h | ⟨I, hI, hI2, e⟩
  · exact .inl h
  · refine .inr ⟨I, ?_⟩
    have hI0 : 0 < I := by
      obtain ⟨k, hk⟩ := lsC_pre (a := a) (b := b) (l := l) (Nat.zero_le I)
      have h0 : (LsC a b l 0).length = 1 := rfl
      rw [← hI, hk, List.length_append, h0]
      omega
    have ht0 := joinTab (K := K) hI hI2 hi hl h3
    have hT := (tblF_zero (by rw [ht0])).2
    rw [leastR_ok ht0] at e
    have hS := hT.sm
    have hlen : (rowsC a b l I).length = I := by unfold rowsC; rw [List.length_map, List.length_range]
    have hL : accS (tstp l (rowOf (rowsC a b l I))) (finOf (finsC a b l K I)) 0 = jnL a b l K := by
      funext w
      refine propext ((rowsC_lang hI hT.inc w 0 hI0).trans ?_)
      have hc : cpC a b l 0 = (s0I a, s0I b) := rfl
      rw [hc]
      exact Iff.rfl
    have hreg := reg_tab (fin := finOf (finsC a b l K I)) hS.inc hS.pos hS.rngs (s := 0) (by rw [hlen]; exact hI0)
    rw [hL, hlen] at hreg
    refine ⟨hreg, hlen.symm, ?_⟩
    rw [e]
    unfold canT
    rw [hL, hlen]
theorem prod_len {α : Type} (f : Nat → Nat → α) (n m : Nat) : ((List.range n).flatMap fun i => (List.range m).map (f i)).length = n * m := by
  induction n with
  | zero => simp
  | succ n ih => rw [flat_succ, List.length_append, ih, List.length_map, List.length_range, Nat.succ_mul]
theorem lsC_bound {a b : Mach} {l : List Int} {Sa Sb : Nat} (ha : DmOk a Sa) (hb : DmOk b Sb) (i : Nat) : (LsC a b l i).length ≤ (Sa + 1) * (Sb + 1) := by
  have hall : ∀ c ∈ LsC a b l i, (-1 ≤ c.1 ∧ c.1 < (Sa : Int)) ∧ (-1 ≤ c.2 ∧ c.2 < (Sb : Int)) := by
    refine stB_all (P := fun c : Int × Int => (-1 ≤ c.1 ∧ c.1 < (Sa : Int)) ∧ (-1 ≤ c.2 ∧ c.2 < (Sb : Int))) ?_ (fun s _ e he => ?_) i
    · have h1 := ha.n
      have h2 := hb.n
      unfold s0I
      dsimp only
      constructor <;> split <;> omega
    · obtain ⟨x, _, rfl⟩ := List.mem_map.1 he
      have h1 := nxI_rng ha s.1 x
      have h2 := nxI_rng hb s.2 x
      dsimp only
      omega
  rw [← prod_len (fun i j => (((i : Int) - 1, (j : Int) - 1) : Int × Int)) (Sa + 1) (Sb + 1)]
  refine nodup_sub_len (stB_nodup i) fun c hc => ?_
  have h := hall c hc
  obtain ⟨p, q⟩ := c
  dsimp only at h
  rw [List.mem_flatMap]
  refine ⟨(p + 1).toNat, List.mem_range.2 (by omega), List.mem_map.2 ⟨(q + 1).toNat, List.mem_range.2 (by omega), ?_⟩⟩
  rw [Prod.mk.injEq]
  omega
theorem labD_ok {m : Mach} {S : Nat} (h : DmOk m S) : LabOk (labD m) := fun x hx => by
  obtain ⟨a, ha, rfl⟩ := List.mem_map.1 ((setI_mem _ _).1 hx)
  exact h.lab a ha
theorem lim_uniq {l : List Int} {L L' : Lang} {N : Nat} {r : Mach} (h : Reg l L N) (hr : ResL r L') (e : ∀ w, L w ↔ L' w) : limR (canonM l L N) = (r, (0, 0)) := by
  obtain ⟨ls', N', hr', _, e2⟩ := hr.can
  have : canonM l L N = r := by rw [e2]; exact (canon_iff h hr' (Nat.le_refl _) (Nat.le_refl _)).2 e
  rw [this]
  unfold limR
  rw [if_neg (by have := hr.n4; have := hr.len; omega)]
theorem accA_mono {A A' : List Arc} {F F' : List Fnl} (hA : ∀ a ∈ A, a ∈ A') (hF : ∀ x ∈ F, x ∈ F') {s : Int} {w : List Int} (h : accA A F s w) : accA A' F' s w := by
  obtain ⟨t, hp, x, hx, hs⟩ := h
  refine ⟨t, ?_, x, hF x hx, hs⟩
  clear hx hs
  induction hp with
  | nil => exact .nil
  | eps ha hi _ ih => exact .eps (hA _ ha) hi ih
  | lab ha hi _ ih => exact .lab (hA _ ha) hi ih
def twoM : Mach := ⟨2, [⟨0, 1, 97, 97, 0⟩, ⟨0, 1, 98, 98, 0⟩], [⟨1, 0⟩]⟩
def oneM : Mach := ⟨1, [⟨0, 0, 97, 97, 0⟩], [⟨0, 0⟩]⟩
theorem empty_bA (w : List Int) : bA emptyM w = false := by
  by_cases h : bA emptyM w = true
  · exact absurd (bA_iff.1 h) (empty_words 0 w)
  · simpa using h
theorem letM_done : accF letM = (0, 0) ∧ detW letM = (letM, (0, 0)) ∧ ResL letM (fun w => bA letM w = true) := by
  have h := dblM_min
  have h2 : (minW dblM).2 = (0, 0) := by rw [h]
  obtain ⟨g1, _, g3, g4, _⟩ := least_done h2
  rw [h] at g1 g3 g4
  dsimp only at g1 g3 g4
  have := minW_res (m := letM) (by rw [g4])
  rw [g4] at this
  exact ⟨g1, g3, this⟩
def stp2 (s : Nat) : List (Int × Nat) := if s = 0 then [(97, 1), (98, 1)] else []
def fin2 (s : Nat) : Bool := decide (s = 1)
theorem br2 {v : Nat} : v ∈ [0, 1] ↔ BR stp2 0 v := by
  constructor
  · intro h
    rcases List.mem_cons.1 h with rfl | h
    · exact .base
    · rw [List.mem_singleton.1 h]
      exact .step (s := 0) (x := 97) .base (by decide)
  · intro h
    induction h with
    | base => simp
    | @step s u x _ hx ih =>
      have : s = 0 ∨ s = 1 := by simpa using ih
      rcases this with rfl | rfl
      · have : (x, u) ∈ [((97 : Int), 1), (98, 1)] := hx
        simp at this
        simp; omega
      · have : (x, u) ∈ ([] : List (Int × Nat)) := hx
        cases this
theorem two_bfs : BfsL stp2 fin2 0 [0, 1] where
  nod := by decide
  first := rfl
  mem := fun v => br2
  inc := fun s hs => by
    have : s = 0 ∨ s = 1 := by simpa using br2.2 hs
    rcases this with rfl | rfl
    · show List.Pairwise _ [((97 : Int), 1), (98, 1)]
      simp
    · exact .nil
  lab := fun s hs e he => by
    have : s = 0 ∨ s = 1 := by simpa using br2.2 hs
    rcases this with rfl | rfl
    · have : e ∈ [((97 : Int), 1), (98, 1)] := he
      simp at this
      rcases this with rfl | rfl <;> decide
    · have : e ∈ ([] : List (Int × Nat)) := he
      cases this
  use := fun s hs => by
    have : s = 0 ∨ s = 1 := by simpa using br2.2 hs
    rcases this with rfl | rfl
    · exact ⟨[97], 1, by decide, rfl⟩
    · exact ⟨[], rfl⟩
  bfs := fun f hf => by
    rw [bfsM_fuel (Z := [0, 1]) (fun v hv => br2.2 hv) hf (show [0, 1].length ≤ 2 by decide)]
    rfl
theorem two_det : accF twoM = (0, 0) ∧ detW twoM = (twoM, (0, 0)) := by
  have e : lstM stp2 fin2 [0, 1] = twoM := rfl
  have h := two_bfs.detW (by decide) (by rw [e]; decide)
  rw [e] at h
  exact ⟨by decide, h⟩
theorem empty_det : accF emptyM = (0, 0) ∧ detW emptyM = (emptyM, (0, 0)) := by
  have h0 : accF emptyM = (0, 0) := by decide
  have h1 : silM emptyM = emptyM := silM_zero h0 (by
    have val := valid_of (accF_val h0)
    rw [silM_trim val.n0 val.inRange val.finRange]
    rfl)
  have h2 : silR emptyM = (emptyM, (0, 0)) := by
    unfold silR
    rw [if_neg (fun g => g h0), h1, if_neg (by decide)]
  refine ⟨h0, ?_⟩
  unfold detW
  rw [h2, if_neg (fun g => g rfl)]
  exact if_pos rfl
def oneL : Lang := fun w => ∀ x ∈ w, x = 97
open Classical in
theorem one_can : Reg [97] oneL 1 ∧ canonM [97] oneL 1 = oneM := by
  have hq : ∀ x U, (x, U) ∈ stpQ [97] oneL ↔ x = 97 ∧ U = oneL := by
    intro x U
    rw [mem_stpQ, List.mem_singleton]
    constructor
    · rintro ⟨rfl, _, rfl⟩
      refine ⟨rfl, funext fun w => propext ⟨fun h x hx => h x (List.mem_cons_of_mem _ hx), fun h x hx => ?_⟩⟩
      rcases List.mem_cons.1 hx with rfl | hx
      · rfl
      · exact h x hx
    · rintro ⟨rfl, rfl⟩
      refine ⟨rfl, ⟨[], fun x hx => by simpa using hx⟩, funext fun w => propext ⟨fun h x hx => ?_, fun h x hx => h x (List.mem_cons_of_mem _ hx)⟩⟩
      rcases List.mem_cons.1 hx with rfl | hx
      · rfl
      · exact h x hx
  refine ⟨⟨by simp, fun x hx => by rw [List.mem_singleton.1 hx]; decide, fun w hw x hx => by rw [hw x hx]; simp, ⟨[oneL], by simp, fun Q hQ => ?_⟩⟩, ?_⟩
  · have : Q = oneL := by
      induction hQ with
      | base => rfl
      | @step s u x _ hx ih =>
        rw [ih] at hx
        exact ((hq x u).1 hx).2
    rw [this]; simp
  · unfold canonM
    rw [if_pos ⟨[], fun x hx => by cases hx⟩]
    have key := bfsM_like (R := fun (Q : Lang) (s : Nat) => Q = oneL ∧ s = 0) (fun a b a' b' h h' => by
      obtain ⟨rfl, rfl⟩ := h
      obtain ⟨rfl, rfl⟩ := h'
      exact ⟨fun _ => rfl, fun _ => rfl⟩) (stp := stpQ [97]) (stp' := fun _ => [((97 : Int), 0)]) (fin := finQ) (fin' := fun _ => true) (fun Q s h => by
      obtain ⟨rfl, rfl⟩ := h
      refine F2_of (R := fun (Q : Lang) (s : Nat) => Q = oneL ∧ s = 0) (incS_stpQ (by simp) _) (by simp [incS]) (fun x => ?_) (fun x U v hU hv => ?_)
      · constructor
        · rintro ⟨U, hU⟩
          obtain ⟨rfl, _⟩ := (hq x U).1 hU
          exact ⟨0, by simp⟩
        · rintro ⟨v, hv⟩
          have hv : (x, v) = ((97 : Int), 0) := by simpa using hv
          injection hv with h1 h2
          exact ⟨oneL, (hq x oneL).2 ⟨h1, rfl⟩⟩
      · have hv : (x, v) = ((97 : Int), 0) := by simpa using hv
        injection hv with h1 h2
        exact ⟨((hq x U).1 hU).2, h2⟩) (fun Q s h => by
      obtain ⟨rfl, rfl⟩ := h
      unfold finQ
      exact decide_eq_true (fun x hx => by cases hx)) (s0 := oneL) (t0 := 0) ⟨rfl, rfl⟩ 1
    exact key.trans rfl
theorem one_res : ResL oneM oneL := ⟨⟨[97], 1, one_can.1, fun x hx => by rw [List.mem_singleton.1 hx]; decide, one_can.2.symm⟩, by decide, by decide⟩
theorem intR_lim {a b : Mach} {K : Bool → Bool → Bool} {r : Mach × (Int × Int)} (h : IntR a b K r) (hz : bothF a b = (0, 0)) (hK : ∀ q, K false q = false) :
    (r = (emptyM, (17, -1)) ∧ ∃ i, 20000 < (LsC (detW a).1 (detW b).1 (labD (detW a).1) i).length) ∨ ∃ N, Reg (labD (detW a).1) (fun w => K (bA a w) (bA b w) = true) N ∧ r = limR (canonM (labD (detW a).1) (fun w => K (bA a w) (bA b w) = true) N) := by
  rcases h with ⟨h1, _⟩ | ⟨_, hj⟩
  · exact absurd hz h1
  · obtain ⟨_, _, ha, hb, h3⟩ := bothF_zero hz
    obtain ⟨Sa, hSa⟩ := dmOk_det ha
    have hL : jnL (detW a).1 (detW b).1 (labD (detW a).1) K = (fun w => K (bA a w) (bA b w) = true) := by
      funext w
      unfold jnL
      rw [acR_det ha, acR_det hb]
      refine propext ⟨fun h => h.2, fun h => ⟨?_, h⟩⟩
      by_cases hw : bA a w = true
      · exact det_over ha (bA_iff.1 hw)
      · rw [Bool.not_eq_true] at hw
        rw [hw, hK] at h
        cases h
    rcases join_lim (show (labD (detW a).1).Pairwise (· < ·) from setI_sorted _) (labD_ok hSa) h3 hj with h | ⟨N, h1, _, h2⟩
    · exact .inl h
    · rw [hL] at h1 h2
      exact .inr ⟨N, h1, h2⟩
theorem cmpR_lim {m : Mach} {l : List Int} {r : Mach × (Int × Int)} (h : CmpR m l r) (h0 : accF m = (0, 0)) (h1 : alphF l (-2) = (0, 0)) (h2 : (detW m).2 = (0, 0)) (hi : l.Pairwise (· < ·)) (hl : LabOk l) (h3 : l.length ≤ 300) :
    ∃ N, Reg l (fun w => (∀ x ∈ w, x ∈ l) ∧ bA m w = false) N ∧ r = limR (canonM l (fun w => (∀ x ∈ w, x ∈ l) ∧ bA m w = false) N) := by
  rcases h with ⟨g, _⟩ | ⟨_, g, _⟩ | ⟨_, _, g, _⟩ | ⟨_, _, _, hj⟩
  · exact absurd h0 g
  · exact absurd h1 g
  · exact absurd h2 g
  · obtain ⟨S, hS⟩ := dmOk_det h2
    have hL : jnL (detW m).1 emptyM l (fun p _ => !p) = (fun w => (∀ x ∈ w, x ∈ l) ∧ bA m w = false) := by
      funext w
      unfold jnL
      rw [acR_det h2]
      refine propext (and_congr_right fun _ => ?_)
      simp
    rcases join_lim hi hl h3 hj with ⟨_, i, hb⟩ | ⟨N, g1, _, g2⟩
    · have := lsC_bound (l := l) hS dmOk_empty i
      have := hS.n4
      omega
    · rw [hL] at g1 g2
      exact ⟨N, g1, g2⟩
theorem both_ex {a b : Mach} (ha : accF a = (0, 0)) (hb : accF b = (0, 0)) (h1 : detW a = (a, (0, 0))) (h2 : detW b = (b, (0, 0))) (h3 : (labD a).length ≤ 300) : bothF a b = (0, 0) := by
  unfold bothF
  rw [if_neg (fun g => g ha), if_neg (fun g => g hb), h1, h2, if_neg (fun g => g rfl), if_neg (fun g => g rfl), if_neg (by dsimp only; omega)]
theorem dm_two : DmOk twoM 2 := by
  obtain ⟨S, hS⟩ := dmOk_det (m := twoM) (by rw [two_det.2])
  rw [two_det.2] at hS
  have : S = 2 := by have := hS.n; have e : twoM.n = 2 := rfl; dsimp only at this; omega
  rw [this] at hS
  exact hS
theorem dm_let : DmOk letM 2 := by
  obtain ⟨S, hS⟩ := dmOk_det (m := letM) (by rw [letM_done.2.1])
  rw [letM_done.2.1] at hS
  have : S = 2 := by have := hS.n; have e : letM.n = 2 := rfl; dsimp only at this; omega
  rw [this] at hS
  exact hS
theorem ex_int {r : Mach × (Int × Int)} (h : IntR twoM letM (fun p q => p && q) r) : r = (letM, (0, 0)) := by
  have hz := both_ex two_det.1 letM_done.1 two_det.2 letM_done.2.1 (by decide)
  rcases intR_lim h hz (fun q => rfl) with ⟨_, i, hb⟩ | ⟨N, h1, h2⟩
  · rw [two_det.2, letM_done.2.1] at hb
    have := lsC_bound (l := labD twoM) dm_two dm_let i
    dsimp only at hb
    omega
  · rw [h2]
    refine lim_uniq h1 letM_done.2.2 fun w => ?_
    rw [Bool.and_eq_true]
    refine ⟨fun h => h.2, fun h => ⟨?_, h⟩⟩
    rw [bA_iff] at h ⊢
    exact accA_mono (fun a ha => by
      have : a = ⟨0, 1, 97, 97, 0⟩ := by simpa [letM] using ha
      rw [this]; simp [twoM]) (fun x hx => by simpa [letM, twoM] using hx) h
theorem ex_sub {r : Mach × (Int × Int)} (h : IntR letM emptyM (fun p q => p && !q) r) : r = (letM, (0, 0)) := by
  have hz := both_ex letM_done.1 empty_det.1 letM_done.2.1 empty_det.2 (by decide)
  rcases intR_lim h hz (fun q => rfl) with ⟨_, i, hb⟩ | ⟨N, h1, h2⟩
  · rw [empty_det.2, letM_done.2.1] at hb
    have := lsC_bound (l := labD letM) dm_let dmOk_empty i
    dsimp only at hb
    omega
  · rw [h2]
    refine lim_uniq h1 letM_done.2.2 fun w => ?_
    rw [empty_bA]
    simp
theorem ex_cmp {r : Mach × (Int × Int)} (h : CmpR emptyM [97] r) : r = (oneM, (0, 0)) := by
  obtain ⟨N, h1, h2⟩ := cmpR_lim h empty_det.1 (by decide) (by rw [empty_det.2]) (by simp) (fun x hx => by rw [List.mem_singleton.1 hx]; decide) (by decide)
  rw [h2]
  refine lim_uniq h1 one_res fun w => ?_
  rw [empty_bA]
  simp [oneL]
end Gm
