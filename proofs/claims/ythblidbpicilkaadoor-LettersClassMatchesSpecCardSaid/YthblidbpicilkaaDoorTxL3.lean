/- The law LettersClassMatchesSpec, walked: it returns true. -/
import Derived.Test.YthblidbpicilkaaDoorTxG
namespace Go.Proofs.YthblidbpicilkaaDoor
open Go.RowKit Gm
set_option linter.unusedSimpArgs false
theorem Class_a (w : World) :
    Calls Tryd.prog 15 #[.int .i64 97] w fun e w' => e = .returned (.tuple #[.int .i64 2, .agg #[.int .i64 0, .int .i64 0]]) ∧ Below w.heap.size w w' := by
  have := Class_any 97 w
  rw [show clsR 97 = (2, (0, 0)) by decide] at this
  exact this
theorem Class_at (p : Int) (b : Bool) (hb : scal p = b) (w : World) :
    Calls Tryd.prog 15 #[.int .i64 p] w fun e w' => e = .returned (if b then .tuple #[.int .i64 (clsP p), .agg #[.int .i64 0, .int .i64 0]] else .tuple #[.int .i64 0, .agg #[.int .i64 3, .int .i64 (-1)]]) ∧ Below w.heap.size w w' := by
  have := Class_any p w
  unfold clsR at this
  cases b
  · rw [if_neg (by rw [hb]; simp)] at this; exact this
  · rw [if_pos hb] at this; exact this
theorem tail_class (s : ByteArray) (w W : World) (hT : Tabs w) (hs : s.size ≤ maxLen) (hW : Below w.heap.size w W) (a1 a2 : Int) (t : ByteArray) (h1 : Hid (a1 = (foldR s.data.toList).1.1)) (h2 : Hid (a2 = (foldR s.data.toList).1.2)) (h3 : Hid (t = ⟨(foldR s.data.toList).2.toArray⟩)) :
    Calls Tryd.prog 18 #[.string s] W (fun e w' => e = .returned (.tuple #[.string t, .agg #[.int .i64 a1, .int .i64 a2]]) ∧ Below W.heap.size W w') ∧
    Calls Tryd.prog 19 #[.string s] W (fun e w' => e = .returned (.tuple #[.string t, .agg #[.int .i64 a1, .int .i64 a2]]) ∧ Below W.heap.size W w') := by
  have A := fold_text_any s W (tabs_keep hT hW (Nat.le_refl _)) hs
  have B := folded_any s W (tabs_keep hT hW (Nat.le_refl _)) hs
  rw [← h1.out, ← h2.out, ← h3.out] at A B
  exact ⟨A, B⟩
set_option maxHeartbeats 1000000 in
theorem classlaw_any (p : Int) (s : ByteArray) (w : World) (hT : Tabs w) (hs : s.size ≤ maxLen) :
    Calls Tryd.prog 5 #[.int .i64 p, .string s] w fun e w' => e = .returned (.bool true) ∧ Below w.heap.size w w' := by
  have he := fun a b c d W => run_eql_fault a b c d W
  have hne := fun a b c d W => run_neq_fault a b c d W
  have hf0 : fEq 0 0 0 0 = true := rfl
  have hf3 : fEq 3 (-1) 3 (-1) = true := rfl
  obtain ⟨a1, h1⟩ : ∃ x, x = (foldR s.data.toList).1.1 := ⟨_, rfl⟩
  obtain ⟨a2, h2⟩ : ∃ x, x = (foldR s.data.toList).1.2 := ⟨_, rfl⟩
  obtain ⟨t, h3⟩ : ∃ x, x = (⟨(foldR s.data.toList).2.toArray⟩ : ByteArray) := ⟨_, rfl⟩
  have hTC := fun W hW => tail_class s w W hT hs hW a1 a2 t (hide h1) (hide h2) (hide h3)
  have hfa : fEq a1 a2 a1 a2 = true := by simp [fEq]
  have HTC := hide hTC
  clear hT hs h1 h2 h3 hTC
  obtain ⟨b, hb⟩ : ∃ b, scal p = b := ⟨_, rfl⟩
  have HB := hide hb
  clear hb
  obtain ⟨c, hc⟩ : ∃ c, c = clsP p := ⟨_, rfl⟩
  have HC := hide hc
  clear hc
  have HK := hide (fun W => Class_at p b HB.out W)
  rw [← HC.out] at HK
  have HR := hide (fun W => rclass_any p W)
  rw [← HC.out] at HR
  cases b
  case true =>
    go_enter Tryd.func5, Tryd.ntmps5
    go_wp2_with fail
    refine (Class_a _).mono ?_
    rintro e w1 ⟨rfl, hb1⟩
    go_wp2_with fail
    refine (HK.out _).mono ?_
    rintro e w2 ⟨rfl, hb2⟩
    have hz := hb1.size
    have hbw : Below w.heap.size w w2 := hb1.trans (Below.trans (by go_grown) (hb2.mono (by simp; omega)))
    clear hb1 hb2
    have hbq : Below w.heap.size w (w2.alloc (Obj.cells #[.int .i64 0, .int .i64 0] 25)) := hbw.alloc hbw.size _
    go_wp2_with (first | (go_at_call 16; refine (rscalar_at _ _ HB.out _).mono ?_; rintro e w' ⟨rfl, rfl⟩) | (go_at_call 17; refine (HR.out _).mono ?_; rintro e w' ⟨rfl, rfl⟩))
    refine (HTC.out _ hbq).1.mono ?_
    rintro e w3 ⟨rfl, hb3⟩
    have hbw3 : Below w.heap.size w w3 := hbq.trans (hb3.mono hbq.size)
    have hbq3 : Below w.heap.size w (w3.alloc (Obj.cells #[.int .i64 a1, .int .i64 a2] 25)) := hbw3.alloc hbw3.size _
    clear hb3 hbq hbw
    have HX := hide (HTC.out _ hbq3).2
    go_wp2_with fail
    refine HX.out.mono ?_
    rintro e w4 ⟨rfl, hb4⟩
    have bF := (Blk.new w3 25 #[.int .i64 a1, .int .i64 a2]).below hb4 (by simp)
    have hbw4 : Below w.heap.size w w4 := hbq3.trans (hb4.mono hbq3.size)
    have q0 : w4.cell? ⟨w3.heap.size, 0, none⟩ = some (.int .i64 a1) := bF.cell 0
    have q1 : w4.cell? ⟨w3.heap.size, 1, none⟩ = some (.int .i64 a2) := bF.cell 1
    have hz4 := bF.lt
    clear hb4 HX hbq3 hbw3 bF
    go_wp2
    go_ret
    exact ⟨rfl, by have := hbw4.size; go_grown⟩
  case false =>
    go_enter Tryd.func5, Tryd.ntmps5
    go_wp2_with fail
    refine (Class_a _).mono ?_
    rintro e w1 ⟨rfl, hb1⟩
    go_wp2_with fail
    refine (HK.out _).mono ?_
    rintro e w2 ⟨rfl, hb2⟩
    have hz := hb1.size
    have hbw : Below w.heap.size w w2 := hb1.trans (Below.trans (by go_grown) (hb2.mono (by simp; omega)))
    clear hb1 hb2
    have hbq : Below w.heap.size w (w2.alloc (Obj.cells #[.int .i64 3, .int .i64 (-1)] 25)) := hbw.alloc hbw.size _
    go_wp2_with (first | (go_at_call 16; refine (rscalar_at _ _ HB.out _).mono ?_; rintro e w' ⟨rfl, rfl⟩) | (go_at_call 17; refine (HR.out _).mono ?_; rintro e w' ⟨rfl, rfl⟩))
    refine (HTC.out _ hbq).1.mono ?_
    rintro e w3 ⟨rfl, hb3⟩
    have hbw3 : Below w.heap.size w w3 := hbq.trans (hb3.mono hbq.size)
    have hbq3 : Below w.heap.size w (w3.alloc (Obj.cells #[.int .i64 a1, .int .i64 a2] 25)) := hbw3.alloc hbw3.size _
    clear hb3 hbq hbw
    have HX := hide (HTC.out _ hbq3).2
    go_wp2_with fail
    refine HX.out.mono ?_
    rintro e w4 ⟨rfl, hb4⟩
    have bF := (Blk.new w3 25 #[.int .i64 a1, .int .i64 a2]).below hb4 (by simp)
    have hbw4 : Below w.heap.size w w4 := hbq3.trans (hb4.mono hbq3.size)
    have q0 : w4.cell? ⟨w3.heap.size, 0, none⟩ = some (.int .i64 a1) := bF.cell 0
    have q1 : w4.cell? ⟨w3.heap.size, 1, none⟩ = some (.int .i64 a2) := bF.cell 1
    have hz4 := bF.lt
    clear hb4 HX hbq3 hbw3 bF
    go_wp2
    go_ret
    exact ⟨rfl, by have := hbw4.size; go_grown⟩
end Go.Proofs.YthblidbpicilkaaDoor
