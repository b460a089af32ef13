/- A word of labels is checked: machine.word, the reference's WordFault, rational.right. -/
import Derived.Test.YtmgpcnkmmgkjgaaCmp
import Derived.Test.YtmgpcnkmmgkjgaaOwn
import Derived.Deep.LoopGhost
namespace Gm
open Go Go.RowKit
/-- The list of numbers l, as a value; it lies below block B. -/
def Nums (w : World) (B : Nat) (v : Value) (l : List Int) : Prop :=
  ∃ A n c, v = .slice A n c ∧ Hid (l.length = n) ∧ n ≤ c ∧ n ≤ big ∧ Rd w B 1 A n (intCell l)
theorem Nums.below {w w' : World} {B B' : Nat} {v : Value} {l : List Int} (h : Nums w B v l) (hb : Below B' w w') (hB : B ≤ B') : Nums w' B v l := by
  obtain ⟨A, n, c, h1, h2, h3, h4, h5⟩ := h
  exact ⟨A, n, c, h1, h2, h3, h4, h5.below hb hB⟩
theorem Nums.mono {w : World} {B B' : Nat} {v : Value} {l : List Int} (h : Nums w B v l) (hB : B ≤ B') : Nums w B' v l := by
  obtain ⟨A, n, c, h1, h2, h3, h4, h5⟩ := h
  exact ⟨A, n, c, h1, h2, h3, h4, h5.mono hB⟩
theorem num_at {w : World} {B n : Nat} {A : Option Addr} {l : List Int} (h : Rd w B 1 A n (intCell l)) {k : Nat} (hk : k < n) :
    ∃ b off x, A = some ⟨b, off, none⟩ ∧ b < B ∧ w.cell? ⟨b, off + k, none⟩ = some (.int .i64 x) ∧ Hid (l.getD k 0 = x) := by
  obtain ⟨b, off, h1, h2, h3⟩ := h.at1 hk
  exact ⟨b, off, l.getD k 0, h1, h2, h3, hide rfl⟩
def okL (x : Int) : Prop := 1 ≤ x ∧ x ≤ 1114111
instance (x : Int) : Decidable (okL x) := inferInstanceAs (Decidable (1 ≤ x ∧ x ≤ 1114111))
/-- The fault of a word. -/
def wordF (l : List Int) (ix : Int) : Int × Int := if 30 < l.length then (2, ix) else if ∀ x ∈ l, okL x then (0, 0) else (3, ix)
theorem take_snoc {l : List Int} {k : Nat} {x : Int} (hk : k < l.length) (hx : l.getD k 0 = x) : l.take (k + 1) = l.take k ++ [x] := by
  subst hx
  rw [List.take_add_one]
  congr 1
  simp [List.getD, hk]
theorem wordF_zero {l : List Int} {ix : Int} (h : (wordF l ix).1 = 0) : wordF l ix = (0, 0) ∧ l.length ≤ 30 ∧ ∀ x ∈ l, okL x := by
  unfold wordF at h ⊢
  by_cases h1 : 30 < l.length
  · rw [if_pos h1] at h; cases h
  · rw [if_neg h1] at h ⊢
    by_cases h2 : ∀ x ∈ l, okL x
    · rw [if_pos h2]; exact ⟨rfl, by omega, h2⟩
    · rw [if_neg h2] at h; cases h
end Gm
namespace Go.Proofs.Ytmgpcnkmmgkjgaa
open Go.RowKit Gm
set_option linter.unusedSimpArgs false
set_option linter.unusedVariables false
theorem qfault_any (a b : Int) (w : World) :
    Calls Try.prog 56 #[.int .i64 a, .int .i64 b] w fun e w' => e = .returned (.agg #[.int .i64 a, .int .i64 b]) ∧ Below w.heap.size w w' := by
  go_enter Try.func56, Try.ntmps56
  go_wp2
  exact bodyPost_ret (v := .agg #[.int .i64 a, .int .i64 b]) (by simp [results, Try.results56, go_sem]) rfl ⟨rfl, (Below.refl _ _).alloc (Nat.le_refl _) _⟩
set_option maxRecDepth 100000 in
set_option maxHeartbeats 2000000 in
theorem word_any (v : Value) (l : List Int) (ix : Int) (w : World) (B : Nat) (hB : B ≤ w.heap.size) (h : Nums w B v l) :
    Calls Try.prog 66 #[v, .int .i64 ix] w fun e w' => e = .returned (.agg #[.int .i64 (wordF l ix).1, .int .i64 (wordF l ix).2]) ∧ Below w.heap.size w w' := by
  obtain ⟨A, n, c, rfl, HN, hnc, hnb, hrd⟩ := h
  unfold big at hnb
  by_cases h30 : 30 < n
  · have e : wordF l ix = (2, ix) := by unfold wordF; rw [if_pos (by rw [HN.out]; exact h30)]
    rw [e]
    clear hrd e HN
    go_enter Try.func66, Try.ntmps66
    go_wp2_with fail
    refine (mfault_any _ _ _).mono ?_
    rintro e w1 ⟨rfl, hb1⟩
    have bR := (Blk.new w 28 #[.int .i64 0, .int .i64 0]).below hb1 (by simp)
    have q0 : w1.cell? ⟨w.heap.size, 0, none⟩ = some (.int .i64 0) := bR.cell 0
    have q1 : w1.cell? ⟨w.heap.size, 1, none⟩ = some (.int .i64 0) := bR.cell 1
    have f0 := bR.frozen 0
    have f1 := bR.frozen 1
    have hz := bR.lt
    have hbw : Below w.heap.size w w1 := ((Below.refl _ _).alloc (Nat.le_refl _) _).trans (hb1.mono (by simp))
    clear bR hb1
    go_wp2
    exact bodyPost_ret (v := .agg #[.int .i64 2, .int .i64 ix]) (by simp [results, Try.results66, go_sem, q0, q1, f0, f1, hz]) rfl ⟨rfl, by go_grown⟩
  · have he : wordF l ix = if ∀ x ∈ l, okL x then (0, 0) else (3, ix) := by unfold wordF; rw [if_neg (by rw [HN.out]; exact h30)]
    have HE := hide he
    clear he
    go_enter Try.func66, Try.ntmps66
    go_wp2
    generalize hW : World.alloc _ _ = W0
    have hbw : Below w.heap.size w W0 := by rw [← hW]; go_grown
    have bR : Blk W0 w.heap.size 28 #[.int .i64 0, .int .i64 0] := by rw [← hW]; exact Blk.new _ _ _
    have hrd0 := hrd.below hbw hB
    have hz0 := bR.lt
    clear hW hrd
    go_loopg [14] n (fun gk iv wr => ∃ k : Nat, k + gk = n ∧ iv = .int .i64 (k : Int) ∧ Below W0.heap.size W0 wr ∧ Hid (∀ x ∈ l.take k, okL x))
    case atStart => exact ⟨0, by omega, rfl, Below.refl _ _, hide (by simp)⟩
    case round =>
      obtain ⟨k, hkg, rfl, hb, HK⟩ := hrel
      have bRc := bR.below hb hz0
      have q0 : wr.cell? ⟨w.heap.size, 0, none⟩ = some (.int .i64 0) := bRc.cell 0
      have q1 : wr.cell? ⟨w.heap.size, 1, none⟩ = some (.int .i64 0) := bRc.cell 1
      have f0 := bRc.frozen 0
      have f1 := bRc.frozen 1
      have hzc := bRc.lt
      have hbwc : Below w.heap.size w wr := hbw.trans (hb.mono hbw.size)
      clear bRc
      by_cases hkn : k < n
      · obtain ⟨b, off, x, rfl, hbB, c0, HX⟩ := num_at (hrd0.below hb (by omega)) hkn
        have hkl : k < l.length := by rw [HN.out]; exact hkn
        have HT := hide (take_snoc hkl HX.out)
        by_cases hx : okL x
        · have HK2 := hide (show ∀ y ∈ l.take (k + 1), okL y by
            rw [HT.out]
            intro y hy
            rcases List.mem_append.1 hy with hy | hy
            · exact HK.out y hy
            · rw [List.mem_singleton.1 hy]; exact hx)
          obtain ⟨hx1, hx2⟩ := hx
          have hin : inR x 1 1114111 = true := inR_iff.2 ⟨hx1, hx2⟩
          have hI := fun W => in_any x 1 1114111 W
          rw [hin] at hI
          have HI := hide hI
          clear hI hin HK HT HX
          go_wp2_with (go_at_call 57; refine (HI.out _).mono ?_; rintro e w' ⟨rfl, rfl⟩)
          go_roundg (gk - 1)
          case measure => omega
          case rel => exact ⟨k + 1, by omega, by go_num, hb, HK2⟩
        · have hall : ¬ ∀ x ∈ l, okL x := fun h => hx (by rw [← HX.out]; exact h _ (by simp [List.getD, hkl]))
          have HV := hide (show wordF l ix = (3, ix) by rw [HE.out, if_neg hall])
          unfold okL at hx
          clear HE hall HK HT HX
          have hin : inR x 1 1114111 = false := inR_not.2 hx
          have hI := fun W => in_any x 1 1114111 W
          rw [hin] at hI
          have HI := hide hI
          clear hI hin
          go_wp2_with (first | (go_at_call 57; refine (HI.out _).mono ?_; rintro e w' ⟨rfl, rfl⟩) | fail)
          refine (mfault_any _ _ _).mono ?_
          rintro e w5 ⟨rfl, hb5⟩
          have hz5 : w.heap.size < w5.heap.size := by have := hb5.size; omega
          have hbr5 : Below wr.heap.size wr w5 := hb5
          have q0 := keep_cell hbr5 q0 hzc
          have q1 := keep_cell hbr5 q1 hzc
          have f0 := keep_free hbr5 f0 hzc
          have f1 := keep_free hbr5 f1 hzc
          have hbw5 : Below w.heap.size w w5 := hbwc.trans (hbr5.mono hbwc.size)
          clear hb5
          go_wp2
          rw [HV.out]
          exact bodyPost_ret (v := .agg #[.int .i64 3, .int .i64 ix]) (by simp [results, Try.results66, go_sem, q0, q1, f0, f1, hz5]) rfl ⟨rfl, by go_grown⟩
      · have hall : ∀ x ∈ l, okL x := by have := HK.out; rwa [List.take_of_length_le (by rw [HN.out]; omega)] at this
        have HV := hide (show wordF l ix = (0, 0) by rw [HE.out, if_pos hall])
        obtain rfl : n = k := by omega
        clear HE hall HK
        go_wp2
        rw [HV.out]
        exact bodyPost_ret (v := .agg #[.int .i64 0, .int .i64 0]) (by simp [results, Try.results66, go_sem, q0, q1, f0, f1, hzc]) rfl ⟨rfl, by go_grown⟩
end Go.Proofs.Ytmgpcnkmmgkjgaa
