/- letters.Encode, the reference's Text, and Numbers of package glosswrightequal. -/
import Derived.Test.YtcchpijadlgagaaDoorTxE2
namespace Gm
open Go Go.RowKit
def firstBad : List Int → Nat → Option Nat
  | [], _ => none
  | p :: ps, k => if scal p = true then firstBad ps (k + 1) else some k
theorem firstBad_ok {ps : List Int} {k : Nat} (h : k < ps.length) (hs : scal (ps.getD k 0) = true) : firstBad (ps.drop k) k = firstBad (ps.drop (k + 1)) (k + 1) := by
  rw [List.drop_eq_getElem_cons h, firstBad, if_pos (by simpa [h] using hs)]
theorem firstBad_bad {ps : List Int} {k : Nat} (h : k < ps.length) (hs : scal (ps.getD k 0) = false) : firstBad (ps.drop k) k = some k := by
  rw [List.drop_eq_getElem_cons h, firstBad, if_neg]
  simp only [List.getD, List.getElem?_eq_getElem h, Option.getD_some] at hs
  rw [hs]; simp
theorem firstBad_end {ps : List Int} {k : Nat} (h : ¬ k < ps.length) : firstBad (ps.drop k) k = none := by
  rw [List.drop_eq_nil_of_le (by omega)]; rfl
theorem firstBad_none : ∀ {ps : List Int} {k : Nat}, firstBad ps k = none → allS ps
  | [], _, _ => fun _ h => by simp at h
  | p :: ps, k, h => by
    unfold firstBad at h
    split at h
    · rename_i hp
      intro q hq
      rcases List.mem_cons.1 hq with rfl | hq
      · exact hp
      · exact firstBad_none h q hq
    · cases h
theorem firstBad_all : ∀ {ps : List Int} {k : Nat}, allS ps → firstBad ps k = none
  | [], _, _ => rfl
  | p :: ps, k, h => by
    unfold firstBad
    rw [if_pos (h p (by simp))]
    exact firstBad_all (fun q hq => h q (by simp [hq]))
def encB (ps : List Int) : Option Nat → (Int × Int) × List UInt8
  | some k => ((3, (k : Int)), [])
  | none => if 4000 < (encL ps).length then ((1, -1), []) else ((0, 0), encL ps)
def encR (ps : List Int) : (Int × Int) × List UInt8 := if 4000 < ps.length then ((2, -1), []) else encB ps (firstBad ps 0)
theorem encR_ok {ps : List Int} {l : List UInt8} (h : encR ps = ((0, 0), l)) : allS ps ∧ l = encL ps ∧ (encL ps).length ≤ 4000 := by
  unfold encR at h
  split at h
  · have := congrArg (fun x => x.1.1) h; simp at this
  · cases hf : firstBad ps 0 with
    | some k => rw [hf] at h; have := congrArg (fun x => x.1.1) h; simp [encB] at this
    | none =>
      rw [hf] at h
      unfold encB at h
      simp only at h
      split at h
      · have := congrArg (fun x => x.1.1) h; simp at this
      · exact ⟨firstBad_none hf, (congrArg Prod.snd h).symm, by omega⟩
theorem encR_enc {ps : List Int} (h : allS ps) (hl : (encL ps).length ≤ 4000) : encR ps = ((0, 0), encL ps) := by
  unfold encR
  have := encL_len_le ps
  rw [if_neg (by omega), firstBad_all h]
  unfold encB
  simp only
  rw [if_neg (by omega)]
theorem encR_cases (ps : List Int) : (∃ l, encR ps = ((0, 0), l)) ∨ ((encR ps).1.1 ≠ 0 ∧ (encR ps).2 = []) := by
  unfold encR
  split
  · exact .inr ⟨by simp, rfl⟩
  · cases firstBad ps 0 with
    | some k => exact .inr ⟨by simp [encB], rfl⟩
    | none =>
      unfold encB
      simp only
      split
      · exact .inr ⟨by simp, rfl⟩
      · exact .inl ⟨_, rfl⟩
end Gm
namespace Go.Proofs.YtcchpijadlgagaaDoor
open Go.RowKit Gm
set_option linter.unusedSimpArgs false
theorem encode_large (A : Option Addr) (n c : Nat) (w : World) (h : 4000 < n) (hn : n ≤ big) :
    Calls Tryd.prog 41 #[.slice A n c] w fun e w' => e = .returned (.tuple #[.string ⟨#[]⟩, .agg #[.int .i64 2, .int .i64 (-1)]]) ∧ Below w.heap.size w w' := by
  unfold big at hn
  go_enter Tryd.func41, Tryd.ntmps41
  go_wp2_with fail
  refine (lfault_any _ _ _).mono ?_
  rintro e w1 ⟨rfl, hb1⟩
  have hz : w.heap.size < w1.heap.size := by have := hb1.size; simp at this; omega
  have q0 : w1.cell? ⟨w.heap.size, 0, none⟩ = some (.int .i64 0) := keep_cell hb1 (by simp) (by simp)
  have q1 : w1.cell? ⟨w.heap.size, 1, none⟩ = some (.int .i64 0) := keep_cell hb1 (by simp) (by simp)
  have f0 : w1.frozen? ⟨w.heap.size, 0, none⟩ = false := keep_free hb1 (by simp) (by simp)
  have f1 : w1.frozen? ⟨w.heap.size, 1, none⟩ = false := keep_free hb1 (by simp) (by simp)
  have hbw : Below w.heap.size w w1 := ((Below.refl _ _).alloc (Nat.le_refl _) _).trans (hb1.mono (by simp))
  go_wp2
  exact bodyPost_ret (v := .tuple #[.string ⟨#[]⟩, .agg #[.int .i64 2, .int .i64 (-1)]]) (by simp [results, Tryd.results41, go_sem, q0, q1, f0, f1, hz]) rfl ⟨rfl, by go_grown⟩
set_option maxHeartbeats 1000000 in
theorem encode_small (A : Option Addr) (n c : Nat) (ps : List Int) (w : World) (B : Nat) (hn : ps.length = n) (hl : n ≤ 4000) (hB : B ≤ w.heap.size) (h : Rd w B 1 A n (intCell ps)) (tot : Option Nat) (ht : tot = firstBad ps 0) :
    Calls Tryd.prog 41 #[.slice A n c] w fun e w' => e = .returned (.tuple #[.string ⟨(encB ps tot).2.toArray⟩, .agg #[.int .i64 (encB ps tot).1.1, .int .i64 (encB ps tot).1.2]]) ∧ Below w.heap.size w w' := by
  have HL := hide hn
  have HT := hide ht
  clear hn ht
  go_enter Tryd.func41, Tryd.ntmps41
  go_wp2
  generalize hW : w.alloc (Obj.cells #[Value.int IntKind.i64 0, Value.int IntKind.i64 0] 25) = W0
  have hbw : Below w.heap.size w W0 := by rw [← hW]; go_grown
  have bx : Blk W0 w.heap.size 25 #[.int .i64 0, .int .i64 0] := by rw [← hW]; exact Blk.new _ _ _
  have h := h.below hbw hB
  clear hW
  have q0 : W0.cell? ⟨w.heap.size, 0, none⟩ = some (.int .i64 0) := bx.cell 0
  have q1 : W0.cell? ⟨w.heap.size, 1, none⟩ = some (.int .i64 0) := bx.cell 1
  have f0 : W0.frozen? ⟨w.heap.size, 0, none⟩ = false := bx.frozen 0
  have f1 : W0.frozen? ⟨w.heap.size, 1, none⟩ = false := bx.frozen 1
  have hz := bx.lt
  go_loop [12] (fun iv => ∃ (k : Nat), k ≤ n ∧ iv = .int .i64 k ∧ Hid (tot = firstBad (ps.drop k) k)) (fun iv => n - (intOf iv).toNat)
  case atStart => exact ⟨0, by omega, rfl, HT⟩
  case round =>
    obtain ⟨k, hk, rfl, HR⟩ := hrel
    by_cases hkn : k < n
    · obtain ⟨b, off, rfl, hB2, hc1⟩ := h.at1 hkn
      have hkl : k < ps.length := by rw [HL.out]; exact hkn
      obtain ⟨p, hp'⟩ : ∃ p, p = ps.getD k 0 := ⟨_, rfl⟩
      simp only [intCell, ← hp'] at hc1
      clear h
      by_cases hs : scal p = true
      · have he := HR.out.trans (firstBad_ok hkl (by rw [← hp']; exact hs))
        have HE := hide he
        have HS := hide hs
        clear he hs hp' HR hkl
        go_wp2_with (go_at_call 49; refine (scalar_at _ _ HS.out _).mono ?_; rintro e w' ⟨rfl, rfl⟩)
        go_round
        case rel => exact ⟨k + 1, by omega, by go_num, HE⟩
        case measure => simp [intOf]; omega
      · have hs' : scal p = false := by simpa using hs
        have he := HR.out.trans (firstBad_bad hkl (by rw [← hp']; exact hs'))
        have HE := hide he
        have HS := hide hs'
        clear he hs hs' hp' HR hkl
        go_wp2_with (go_at_call 49; refine (scalar_at _ _ HS.out _).mono ?_; rintro e w' ⟨rfl, rfl⟩)
        refine (lfault_any _ _ _).mono ?_
        rintro e w1 ⟨rfl, hb1⟩
        have hz1' : w.heap.size < w1.heap.size := by have := hb1.size; omega
        have q0 := keep_cell hb1 q0 hz
        have q1 := keep_cell hb1 q1 hz
        have f0 := keep_free hb1 f0 hz
        have f1 := keep_free hb1 f1 hz
        have hbw2 : Below w.heap.size w w1 := hbw.trans (hb1.mono (by omega))
        go_wp2
        rw [HE.out]
        exact bodyPost_ret (v := .tuple #[.string ⟨#[]⟩, .agg #[.int .i64 3, .int .i64 k]]) (by simp [results, Tryd.results41, go_sem, q0, q1, f0, f1, hz1']) rfl ⟨rfl, by go_grown⟩
    · have he := HR.out.trans (firstBad_end (by rw [HL.out]; exact hkn))
      have ha := firstBad_none (HT.out.symm.trans he)
      have HE := hide he
      have hlen := encL_le ps
      have HZ := size_any A n c ps W0 B HL.out (by omega) h ha
      have HWr := write_any A n c ps W0 B HL.out (by omega) (by have := hbw.size; omega) h ha
      obtain ⟨L, hL⟩ : ∃ L, L = (encL ps).length := ⟨_, rfl⟩
      rw [← hL] at HZ hlen
      have hnl : ps.length = n := HL.out
      rw [hnl] at hlen
      have HLL := hide hL
      clear HR HT he ha hnl hL
      have HWr := hide HWr
      by_cases hbig : 4000 < L
      · go_wp2_with fail
        refine HZ.mono ?_
        rintro e w' ⟨rfl, rfl⟩
        clear HZ
        go_wp2_with fail
        refine (lfault_any _ _ _).mono ?_
        rintro e w1 ⟨rfl, hb1⟩
        have hz1' : w.heap.size < w1.heap.size := by have := hb1.size; omega
        have q0 := keep_cell hb1 q0 hz
        have q1 := keep_cell hb1 q1 hz
        have f0 := keep_free hb1 f0 hz
        have f1 := keep_free hb1 f1 hz
        have hbw2 : Below w.heap.size w w1 := hbw.trans (hb1.mono (by omega))
        have e1 : encB ps none = ((1, -1), []) := by unfold encB; simp only; rw [if_pos (by rw [← HLL.out]; exact hbig)]
        have E1 := hide e1
        clear e1
        go_wp2
        rw [HE.out, E1.out]
        exact bodyPost_ret (v := .tuple #[.string ⟨#[]⟩, .agg #[.int .i64 1, .int .i64 (-1)]]) (by simp [results, Tryd.results41, go_sem, q0, q1, f0, f1, hz1']) rfl ⟨rfl, by go_grown⟩
      · go_wp2_with fail
        refine HZ.mono ?_
        rintro e w' ⟨rfl, rfl⟩
        clear HZ
        go_wp2_with fail
        refine HWr.out.mono ?_
        rintro e w1 ⟨rfl, hb1⟩
        have hz1' : w.heap.size < w1.heap.size := by have := hb1.size; omega
        have q0 := keep_cell hb1 q0 hz
        have q1 := keep_cell hb1 q1 hz
        have f0 := keep_free hb1 f0 hz
        have f1 := keep_free hb1 f1 hz
        have hbw2 : Below w.heap.size w w1 := hbw.trans (hb1.mono (by omega))
        have e1 : encB ps none = ((0, 0), encL ps) := by unfold encB; simp only; rw [if_neg (by rw [← HLL.out]; exact hbig)]
        have E1 := hide e1
        clear e1
        go_wp2
        rw [HE.out, E1.out]
        exact bodyPost_ret (v := .tuple #[.string ⟨(encL ps).toArray⟩, .agg #[.int .i64 0, .int .i64 0]]) (by simp [results, Tryd.results41, go_sem, q0, q1, f0, f1, hz1']) rfl ⟨rfl, by go_grown⟩
theorem encode_any (A : Option Addr) (n c : Nat) (ps : List Int) (w : World) (B : Nat) (hn : ps.length = n) (hl : n ≤ big) (hB : B ≤ w.heap.size) (h : Rd w B 1 A n (intCell ps)) :
    Calls Tryd.prog 41 #[.slice A n c] w fun e w' => e = .returned (.tuple #[.string ⟨(encR ps).2.toArray⟩, .agg #[.int .i64 (encR ps).1.1, .int .i64 (encR ps).1.2]]) ∧ Below w.heap.size w w' := by
  by_cases hb : 4000 < n
  · have e : encR ps = ((2, -1), []) := by unfold encR; rw [if_pos (by omega)]
    rw [e]; exact encode_large A n c w hb hl
  · have e : encR ps = encB ps (firstBad ps 0) := by unfold encR; rw [if_neg (by omega)]
    rw [e]; exact encode_small A n c ps w B hn (by omega) hB h _ rfl
end Go.Proofs.YtcchpijadlgagaaDoor
