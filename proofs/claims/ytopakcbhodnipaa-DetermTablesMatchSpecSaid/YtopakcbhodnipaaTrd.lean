/- The reference's Trimmed: a valid machine without the states that are on no path. -/
import Derived.Test.YtopakcbhodnipaaPart
import Derived.Test.YtopakcbhodnipaaPlR
import Derived.Test.YtopakcbhodnipaaMF
namespace Go.Proofs.Ytopakcbhodnipaa
open Go.RowKit Gm
set_option linter.unusedSimpArgs false
theorem rstart0 {l : List Arc} {S : Nat} (hl : inRange l S) : RInv false l [0] S 0 (upd (fun _ => false) 0) := by
  rcases Nat.lt_or_ge 0 S with h0 | h0
  · refine RInv.start hl (fun s _ => ?_) (by simp; omega)
    unfold upd
    constructor
    · intro h; split at h
      · rename_i e; subst e; simp
      · cases h
    · intro h; simp at h; rw [if_pos h]
  · refine ⟨fun s hs => by omega, by simp [upd], .inl fun a ha => ?_⟩
    have := hl a ha
    omega
theorem nF_step {l : List Arc} {I : List Int} {S q : Nat} {T0 T : Nat → Bool} {a : Arc} (hl : inRange l S) (h : Hid (NInv false l I S T0 q T)) (ht : Hid (l.take (q + 1) = l.take q ++ [a])) (ha : a ∈ l) (hk : T a.f.toNat = true) : Hid (NInv false l I S T0 (q + 1) (upd T a.t.toNat)) :=
  hide (NInv.step hl h.out ht.out ha hk)
theorem nF_skip {l : List Arc} {I : List Int} {S q : Nat} {T0 T : Nat → Bool} {a : Arc} (h : Hid (NInv false l I S T0 q T)) (ht : Hid (l.take (q + 1) = l.take q ++ [a])) (hk : T a.f.toNat = false) : Hid (NInv false l I S T0 (q + 1) T) :=
  hide (NInv.skip h.out ht.out hk)
theorem nB_step {l : List Arc} {I : List Int} {S q : Nat} {T0 T : Nat → Bool} {a : Arc} (hl : inRange l S) (h : Hid (NInv true l I S T0 q T)) (ht : Hid (l.take (q + 1) = l.take q ++ [a])) (ha : a ∈ l) (hk : T a.t.toNat = true) : Hid (NInv true l I S T0 (q + 1) (upd T a.f.toNat)) :=
  hide (NInv.step hl h.out ht.out ha hk)
theorem nB_skip {l : List Arc} {I : List Int} {S q : Nat} {T0 T : Nat → Bool} {a : Arc} (h : Hid (NInv true l I S T0 q T)) (ht : Hid (l.take (q + 1) = l.take q ++ [a])) (hk : T a.t.toNat = false) : Hid (NInv true l I S T0 (q + 1) T) :=
  hide (NInv.skip h.out ht.out hk)
theorem upd_val (T : Nat → Bool) (x i : Nat) : (if i = x then Value.bool true else .bool (T i)) = .bool (upd T x i) := by unfold upd; split <;> rfl
theorem and_step {T E : Nat → Bool} {j : Nat} {x : Bool} (h : (T j && E j) = x) (i : Nat) : (if i = j then Value.bool x else .bool (if i < j then T i && E i else T i)) = .bool (if i < j + 1 then T i && E i else T i) := by
  by_cases e : i = j
  · subst e; rw [if_pos rfl, if_pos (by omega), h]
  · rw [if_neg e]
    by_cases e2 : i < j
    · rw [if_pos e2, if_pos (by omega)]
    · rw [if_neg e2, if_neg (by omega)]
theorem two_made (w : World) (X R : Array Value) (S : Nat) (W : World) (hW : W = ((((w.alloc (Obj.cells X 28)).alloc (Obj.cells R 28)).alloc (Obj.cells (madeCells #[.bool false] S) 4)).alloc (Obj.cells (madeCells #[.bool false] S) 4)).drew) :
    W.rowIs (w.heap.size + 1 + 1) 4 S (fun _ => .bool false) ∧ W.rowIs (w.heap.size + 1 + 1 + 1) 4 S (fun _ => .bool false) ∧ Blk W w.heap.size 28 X ∧ Blk W (w.heap.size + 1) 28 R := by
  subst hW
  refine ⟨?_, ?_, ?_, ?_⟩
  · have e : ((w.alloc (Obj.cells X 28)).alloc (Obj.cells R 28)).heap.size = w.heap.size + 1 + 1 := by simp
    rw [← e]
    exact (World.rowIs_made _ (.bool false) S 4).alloc _
  · have e : (((w.alloc (Obj.cells X 28)).alloc (Obj.cells R 28)).alloc (Obj.cells (madeCells #[.bool false] S) 4)).heap.size = w.heap.size + 1 + 1 + 1 := by simp
    rw [← e]
    exact World.rowIs_made _ (.bool false) S 4
  · exact (((Blk.at_ rfl).alloc _).alloc _).alloc _
  · exact ((Blk.at_ (by simp)).alloc _).alloc _
/-- Within bounds, whether valid or not. -/
structure Sz (m : Mach) : Prop where
  n0 : 0 ≤ m.n
  n4 : m.n ≤ 100000
  len : m.arcs.length ≤ 1000000
  finLen : m.fins.length ≤ 1000000
  inRange : inRange m.arcs m.n.toNat
  finRange : ∀ x ∈ m.fins, 0 ≤ x.s ∧ x.s < (m.n.toNat : Int)
theorem _root_.Gm.Valid.sz {m : Mach} (h : Valid m) : Sz m := ⟨h.n0, by have := h.n4; omega, by have := h.len; omega, by have := h.finLen; omega, h.inRange, h.finRange⟩
set_option maxRecDepth 100000 in
set_option maxHeartbeats 4000000 in
theorem trimmed_gen (v : Value) (m : Mach) (w : World) (B : Nat) (hB : B ≤ w.heap.size) (h : MachAt w B v m) (val : Sz m) :
    Calls Try.prog 49 #[v] w fun e w' => ∃ v1, e = .returned v1 ∧ MachNew w.heap.size w' v1 (trimOf m) ∧ Below w.heap.size w w' := by
  have H0 := hide h
  obtain ⟨A, AF, n, c, nf, cf, rfl, HN, HF, hnc, hnfc, hnb, hnfb, hA, hF⟩ := h
  have hfl := val.finLen
  rw [HF.out] at hfl
  have hl := val.len
  rw [HN.out] at hl
  obtain ⟨S, hS⟩ : ∃ S : Nat, m.n = (S : Int) := ⟨m.n.toNat, by have := val.n0; omega⟩
  have hS4 : S ≤ 100000 := by have := val.n4; omega
  have VAL := hide val
  have HS := hide hS
  have hrng := val.inRange
  have hfr := val.finRange
  rw [hS] at hrng hfr H0
  rw [hS]
  have HRNG := hide hrng
  have HFR := hide hfr
  clear hS hrng hfr hnb hnfb val
  have hmk := fun (W : World) => run_make_row' (P := Try.prog) 24 4 (.bool false) 1 Try.underlying24 bool_info rfl .i64 .i64 S (by omega) (by omega) W
  go_enter Try.func49, Try.ntmps49
  go_upto_region 1 with fail
  go_cut [3, 4] from 3 to 15 (fun s3 s4 wx => ∃ gT gB, s3 = .slice (some ⟨gT, 0, none⟩) S S ∧ s4 = .slice (some ⟨gB, 0, none⟩) S S ∧ gT ≠ gB ∧ w.heap.size + 1 < gT ∧ w.heap.size + 1 < gB ∧ wx.rowIs gT 4 S (fun _ => .bool false) ∧ wx.rowIs gB 4 S (fun _ => .bool false) ∧
    Blk wx w.heap.size 28 #[.int .i64 (S : Int), .slice A n c, .slice AF nf cf] ∧ Blk wx (w.heap.size + 1) 28 #[.int .i64 0, .slice none 0 0, .slice none 0 0] ∧ Below w.heap.size w wx)
  case first =>
    go_wp2
    go_region
    all_goals clear hmk
    all_goals go_wp2
    all_goals go_meet
    · exact ⟨_, _, rfl, rfl, by simp, by simp, by simp, (two_made w _ _ S _ rfl).1, (two_made w _ _ S _ rfl).2.1, (two_made w _ _ S _ rfl).2.2.1, (two_made w _ _ S _ rfl).2.2.2, by go_grown⟩
    · exact ⟨_, _, rfl, rfl, by simp, by simp, by simp, (two_made w _ _ S _ rfl).2.1, (two_made w _ _ S _ rfl).1, (two_made w _ _ S _ rfl).2.2.1, (two_made w _ _ S _ rfl).2.2.2, by go_grown⟩
  case rest => 
    obtain ⟨gT, gB, rfl, rfl, hne, hgT, hgB, rT, rB, bX, bR, hb⟩ := hcut
    clear hmk
    have x0 := bX.cell 0
    simp at x0
    have xl := bX.lt
    go_upto_if 18 with fail
    go_cut [] from 19 to 20 (fun wx => wx.rowIs gT 4 S (fun i => .bool (upd (fun _ => false) 0 i)) ∧ wx.rowIs gB 4 S (fun _ => .bool false) ∧
      Blk wx w.heap.size 28 #[.int .i64 (S : Int), .slice A n c, .slice AF nf cf] ∧ Blk wx (w.heap.size + 1) 28 #[.int .i64 0, .slice none 0 0, .slice none 0 0] ∧ Below w.heap.size w wx)
    case first =>
      rcases Nat.lt_or_ge 0 S with h0 | h0
      · have t0 := rT.cell h0
        have tf := rT.frozen 0
        have tl := rT.lt
        have hz : decide (0 < S) = true := by simp [h0]
        go_wp2
        go_meet
        exact ⟨(rT.set 0 (.bool true)).congr (fun i _ => by unfold upd; split <;> simp), rB.setOther (by simp; omega) _, bX.far (by simp; omega) _, bR.far (by simp; omega) _, hb.setCell (by simp; omega) _⟩
      · have hz : decide (0 < S) = false := by simp; omega
        go_wp2
        go_meet
        exact ⟨rT.congr (fun i hi => by omega), rB, bX, bR, hb⟩
    case rest =>
      clear x0 xl rT rB bX bR hb
      obtain ⟨rT, rB, bX, bR, hb⟩ := hcut
      have x2 := bX.cell 2
      simp at x2
      have xl := bX.lt
      go_wp2
      clear x2 xl
      go_loopw [24] (fun i wr => ∃ (k : Nat) (E : Nat → Bool), k ≤ nf ∧ i = .int .i64 k ∧ wr.rowIs gT 4 S (fun i => .bool (upd (fun _ => false) 0 i)) ∧ wr.rowIs gB 4 S (fun i => .bool (E i)) ∧ (∀ s, E s = true ↔ (s : Int) ∈ finStates (m.fins.take k)) ∧
        Blk wr w.heap.size 28 #[.int .i64 (S : Int), .slice A n c, .slice AF nf cf] ∧ Blk wr (w.heap.size + 1) 28 #[.int .i64 0, .slice none 0 0, .slice none 0 0] ∧ Below w.heap.size w wr) (fun i _ => nf - (intOf i).toNat)
      case atStart => exact ⟨0, fun _ => false, by omega, rfl, rT, rB, by simp [finStates], bX, bR, hb⟩
      case round =>
        clear rT rB bX bR hb
        obtain ⟨k, E, hk, rfl, rT, rB, hE, bX, bR, hb⟩ := hrel
        have hEE := hide hE
        clear hE
        by_cases hkn : k < nf
        · obtain ⟨b, off, x, rfl, hbB, c0, c1, HA⟩ := fins_at (hF.below hb hB) hkn
          have hbw' : b < wr.heap.size := by have := hb.size; omega
          obtain ⟨r0, r1⟩ := HFR.out x (getDF_mem (by rw [HF.out]; exact hkn) HA.out)
          simp at r1
          have t0 := rB.cell (show x.s.toNat < S by omega)
          have tf := rB.frozen x.s.toNat
          have tl := rB.lt
          have HTP := hide (takeF_push (by rw [HF.out]; exact hkn) HA.out)
          go_wp2
          go_roundw
          case rel => exact ⟨k + 1, upd E x.s.toNat, by omega, by go_num, (rT.setOther (by simp; omega) _).alloc _, ((rB.set x.s.toNat (.bool true)).congr (fun i _ => by unfold upd; split <;> rfl)).alloc _,
            fun s => by
              rw [HTP.out, finStates_snoc, List.mem_append, ← hEE.out s]
              unfold upd
              constructor
              · intro h
                split at h
                · right; simp; omega
                · exact .inl h
              · intro h
                split
                · rfl
                · rcases h with h | h
                  · exact h
                  · simp at h; omega,
            (bX.far (by simp; omega) _).alloc _, (bR.far (by simp; omega) _).alloc _, (hb.setCell (by simp; omega) _).alloc (by simpa using hb.size) _⟩
          case measure => simp [intOf]; omega
        · obtain rfl : k = nf := by omega
          have hend : m.fins.take k = m.fins := List.take_of_length_le (by rw [HF.out]; omega)
          have hIr : ∀ x ∈ finStates m.fins, 0 ≤ x ∧ x < (S : Int) := by
            intro x hx
            obtain ⟨y, hy, rfl⟩ := List.mem_map.1 hx
            simpa using HFR.out y hy
          have hrng : inRange m.arcs S := by simpa using HRNG.out
          have RE := hide (RInv.start (back := true) (l := m.arcs) (I := finStates m.fins) (S := S) (T := E) hrng (fun s _ => by rw [hEE.out s, hend]) hIr)
          have HIR := hide hIr
          have HRN := hide hrng
          have RT := hide (rstart0 hrng)
          clear hend hIr hrng hEE
          have x0 := bX.cell 0
          simp at x0
          have xl := bX.lt
          go_wp2
          clear x0 xl
          go_loopw [35] (fun i wr => ∃ (r : Nat) (T E : Nat → Bool), r ≤ S ∧ i = .int .i64 r ∧ wr.rowIs gT 4 S (fun i => .bool (T i)) ∧ wr.rowIs gB 4 S (fun i => .bool (E i)) ∧ Hid (RInv false m.arcs [0] S r T) ∧ Hid (RInv true m.arcs (finStates m.fins) S r E) ∧
            Blk wr w.heap.size 28 #[.int .i64 (S : Int), .slice A n c, .slice AF k cf] ∧ Blk wr (w.heap.size + 1) 28 #[.int .i64 0, .slice none 0 0, .slice none 0 0] ∧ Below w.heap.size w wr) (fun i _ => S - (intOf i).toNat)
          case atStart => exact ⟨0, _, E, by omega, rfl, rT, rB, RT, RE, bX, bR, hb⟩
          case round =>
            clear rT rB bX bR hb RT RE
            obtain ⟨r, T, E, hr, rfl, rT, rB, RT, RE, bX, bR, hb⟩ := hrel
            by_cases hrS : r < S
            · have x1 := bX.cell 1
              simp at x1
              have xl := bX.lt
              go_wp2
              clear x1 xl
              go_loopw [40] (fun i wr => ∃ (q : Nat) (T' E' : Nat → Bool), q ≤ n ∧ i = .int .i64 q ∧ wr.rowIs gT 4 S (fun i => .bool (T' i)) ∧ wr.rowIs gB 4 S (fun i => .bool (E' i)) ∧ Hid (NInv false m.arcs [0] S T q T') ∧ Hid (NInv true m.arcs (finStates m.fins) S E q E') ∧
                Blk wr w.heap.size 28 #[.int .i64 (S : Int), .slice A n c, .slice AF k cf] ∧ Blk wr (w.heap.size + 1) 28 #[.int .i64 0, .slice none 0 0, .slice none 0 0] ∧ Below w.heap.size w wr) (fun i _ => n - (intOf i).toNat)
              case atStart => exact ⟨0, T, E, by omega, rfl, rT, rB, hide (NInv.start RT.out), hide (NInv.start RE.out), bX, bR, hb⟩
              case round =>
                clear rT rB bX bR hb
                obtain ⟨q, T', E', hq, rfl, rT, rB, NT, NE, bX, bR, hb⟩ := hrel
                by_cases hqn : q < n
                · obtain ⟨b, off, a, rfl, hbB, c0, c1, c2, c3, c4, HA⟩ := arcs_at (hA.below hb hB) hqn
                  have hbw' : b < wr.heap.size := by have := hb.size; omega
                  have ham := getD_mem (by rw [HN.out]; exact hqn) HA.out
                  obtain ⟨r0, r1, r2, r3⟩ := HRN.out a ham
                  have HTP := hide (take_push (by rw [HN.out]; exact hqn) HA.out)
                  have t1 := rT.cell (show a.f.toNat < S by omega)
                  have t2 := rT.cell (show a.t.toNat < S by omega)
                  have e1 := rB.cell (show a.t.toNat < S by omega)
                  have e2 := rB.cell (show a.f.toNat < S by omega)
                  have tf := rT.frozen a.t.toNat
                  have ef := rB.frozen a.f.toNat
                  have tl := rT.lt
                  have el := rB.lt
                  have hAM := hide ham
                  clear ham
                  cases h1 : T' a.f.toNat
                  · rw [h1] at t1
                    cases h2 : E' a.t.toNat
                    · rw [h2] at e1
                      go_wp2
                      go_roundw
                      case rel => exact ⟨q + 1, T', E', by omega, by go_num, rT.alloc _, rB.alloc _, nF_skip NT HTP h1, nB_skip NE HTP h2, bX.alloc _, bR.alloc _, hb.alloc hb.size _⟩
                      case measure => simp [intOf]; omega
                    · rw [h2] at e1
                      go_wp2
                      go_roundw
                      case rel => exact ⟨q + 1, T', upd E' a.f.toNat, by omega, by go_num, (rT.setOther (by simp; omega) _).alloc _, ((rB.set a.f.toNat (.bool true)).congr (fun i _ => upd_val _ _ _)).alloc _, nF_skip NT HTP h1, nB_step HRN.out NE HTP hAM.out h2,
                        (bX.far (by simp; omega) _).alloc _, (bR.far (by simp; omega) _).alloc _, (hb.setCell (by simp; omega) _).alloc (by simpa using hb.size) _⟩
                      case measure => simp [intOf]; omega
                  · rw [h1] at t1
                    cases h2 : E' a.t.toNat
                    · rw [h2] at e1
                      go_wp2
                      go_roundw
                      case rel => exact ⟨q + 1, upd T' a.t.toNat, E', by omega, by go_num, ((rT.set a.t.toNat (.bool true)).congr (fun i _ => upd_val _ _ _)).alloc _, (rB.setOther (by simp; omega) _).alloc _, nF_step HRN.out NT HTP hAM.out h1, nB_skip NE HTP h2,
                        (bX.far (by simp; omega) _).alloc _, (bR.far (by simp; omega) _).alloc _, (hb.setCell (by simp; omega) _).alloc (by simpa using hb.size) _⟩
                      case measure => simp [intOf]; omega
                    · rw [h2] at e1
                      go_wp2
                      go_roundw
                      case rel => exact ⟨q + 1, upd T' a.t.toNat, upd E' a.f.toNat, by omega, by go_num, (((rT.set a.t.toNat (.bool true)).congr (fun i _ => upd_val _ _ _)).setOther (by simp; omega) _).alloc _,
                        (((rB.setOther (by simp; omega) _).set a.f.toNat (.bool true)).congr (fun i _ => upd_val _ _ _)).alloc _, nF_step HRN.out NT HTP hAM.out h1, nB_step HRN.out NE HTP hAM.out h2,
                        ((bX.far (by simp; omega) _).far (by simp; omega) _).alloc _, ((bR.far (by simp; omega) _).far (by simp; omega) _).alloc _, ((hb.setCell (by simp; omega) _).setCell (by simp; omega) _).alloc (by simpa using hb.size) _⟩
                      case measure => simp [intOf]; omega
                · obtain rfl : q = n := by omega
                  have hend : Hid (m.arcs.take q = m.arcs) := hide (List.take_of_length_le (by rw [HN.out]; omega))
                  go_wp2
                  go_roundw
                  case rel => exact ⟨r + 1, T', E', by omega, by go_num, rT, rB, hide (RInv.next HRN.out RT.out NT.out hend.out), hide (RInv.next HRN.out RE.out NE.out hend.out), bX, bR, hb⟩
                  case measure => simp [intOf]; omega
            · obtain rfl : r = S := by omega
              go_wp2
              go_loopw [66] (fun i wr => ∃ j : Nat, j ≤ r ∧ i = .int .i64 j ∧ wr.rowIs gT 4 r (fun i => .bool (if i < j then T i && E i else T i)) ∧ wr.rowIs gB 4 r (fun i => .bool (E i)) ∧
                Blk wr w.heap.size 28 #[.int .i64 (r : Int), .slice A n c, .slice AF k cf] ∧ Blk wr (w.heap.size + 1) 28 #[.int .i64 0, .slice none 0 0, .slice none 0 0] ∧ Below w.heap.size w wr) (fun i _ => r - (intOf i).toNat)
              case atStart => exact ⟨0, by omega, rfl, rT.congr (fun i _ => by rw [if_neg (by omega)]), rB, bX, bR, hb⟩
              case round =>
                clear rT rB bX bR hb
                obtain ⟨j, hj, rfl, rT, rB, bX, bR, hb⟩ := hrel
                by_cases hjS : j < r
                · have t1 := rT.cell hjS
                  have e1 := rB.cell hjS
                  have tf := rT.frozen j
                  have tl := rT.lt
                  have el := rB.lt
                  rw [if_neg (by omega)] at t1
                  cases h1 : T j
                  · rw [h1] at t1
                    have hx : (T j && E j) = false := by rw [h1]; rfl
                    have HX := hide hx
                    clear hx
                    go_wp2
                    go_roundw
                    case rel => exact ⟨j + 1, by omega, by go_num, (rT.set j (.bool false)).congr (fun i _ => and_step HX.out i), rB.setOther (by simp; omega) _, bX.far (by simp; omega) _, bR.far (by simp; omega) _, hb.setCell (by simp; omega) _⟩
                    case measure => simp [intOf]; omega
                  · rw [h1] at t1
                    have hx : (T j && E j) = E j := by rw [h1]; rfl
                    have HX := hide hx
                    clear hx
                    go_wp2
                    go_roundw
                    case rel => exact ⟨j + 1, by omega, by go_num, (rT.set j (.bool (E j))).congr (fun i _ => and_step HX.out i), rB.setOther (by simp; omega) _, bX.far (by simp; omega) _, bR.far (by simp; omega) _, hb.setCell (by simp; omega) _⟩
                    case measure => simp [intOf]; omega
                · obtain rfl : j = r := by omega
                  obtain ⟨K, hKd⟩ : ∃ K : Nat → Bool, K = fun s => T s && E s := ⟨_, rfl⟩
                  have hK : ∀ s, s < j → K s = keepK m s := fun s hs => by
                    have hT := RT.out.done HRN.out (by simp; omega) s hs
                    have hE := RE.out.done HRN.out HIR.out s hs
                    rw [hKd, Bool.eq_iff_iff, keepK_iff, Bool.and_eq_true, hT, hE]
                  have hres : partOf m K = trimOf m := by
                    unfold partOf trimOf
                    by_cases hn : m.n = 0
                    · rw [if_pos (.inl hn), if_pos (.inl hn)]
                    · have hj0 : 0 < j := by have := HS.out; omega
                      rw [hK 0 hj0]
                      split
                      · rfl
                      · exact part_congr VAL.out.inRange VAL.out.finRange (fun i hi => hK i (by rw [HS.out] at hi; simpa using hi))
                  have HRES := hide hres
                  have rT := rT.congr (g := fun i => .bool (K i)) (fun i hi => by rw [if_pos hi, hKd])
                  clear hres hK hKd
                  have x0 := bX.cell 0
                  have x1 := bX.cell 1
                  have x2 := bX.cell 2
                  simp at x0 x1 x2
                  have xl := bX.lt
                  go_wp2_with fail
                  refine (part_any _ m _ B j gT K (by have := hb.size; omega) (H0.out.below hb hB) HS.out hS4 (by rw [HN.out]; exact hl) (by rw [HF.out]; exact hfl) HRN.out (by simpa using HFR.out) rT).mono ?_
                  rintro e w2 ⟨v1, rfl, hM, hb2⟩
                  have HM := hide hM
                  obtain ⟨Av, AFv, nv, cv, nfv, cfv, rfl, _⟩ := hM.at_
                  have bR2 := bR.below hb2 bR.lt
                  have hbw := hb.trans (hb2.mono hb.size)
                  have hrl := bR.lt
                  clear hM hb2 x0 x1 x2 xl rT rB bX bR
                  have q0 := bR2.cell 0
                  have q1 := bR2.cell 1
                  have q2 := bR2.cell 2
                  have qf := bR2.frozen 0
                  have qf1 := bR2.frozen 1
                  have qf2 := bR2.frozen 2
                  simp at q0 q1 q2
                  have hs3 := bR2.lt
                  go_wp2
                  exact bodyPost_ret (v := .agg #[.int .i64 (partOf m K).n, .slice Av nv cv, .slice AFv nfv cfv]) (by simp [results, Try.results49, go_sem, q0, q1, q2, qf, qf1, qf2, hs3]) rfl
                    ⟨_, rfl, HRES.out ▸ (((HM.out.set (by simp; omega) _).set (by simp; omega) _).set (by simp; omega) _).mono (by have := hb.size; omega), (by go_grown : Below w.heap.size w _)⟩
theorem trimmed_any (v : Value) (m : Mach) (w : World) (B : Nat) (hB : B ≤ w.heap.size) (h : MachAt w B v m) (val : Valid m) :
    Calls Try.prog 49 #[v] w fun e w' => ∃ v1, e = .returned v1 ∧ MachNew w.heap.size w' v1 (trimOf m) ∧ Below w.heap.size w w' := trimmed_gen v m w B hB h val.sz
end Go.Proofs.Ytopakcbhodnipaa
