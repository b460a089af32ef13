/- The reference's Points and letters.Decode: the code points of a text. -/
import Derived.Test.YtcchpijadlgagaaDoorTxO
import Derived.Test.YtcchpijadlgagaaDoorTxP3
import Derived.Test.YtcchpijadlgagaaDoorShelf
namespace Gm
open Go Go.RowKit
theorem own_mono {w : World} {b1 b2 : Nat} {e : TypeId} {s n : Nat} {v : Value} {xs : List Value} (h : w.ownsRow b1 e s v n xs) (hb : b2 ≤ b1) : w.ownsRow b2 e s v n xs := by
  refine ⟨h.1, ?_⟩
  rcases h.2 with h1 | ⟨g, cap, cur, h1, h2, h3⟩
  · exact .inl h1
  · exact .inr ⟨g, cap, cur, h1, by omega, h3⟩
theorem own_below {w w' : World} {base B : Nat} {e : TypeId} {s n : Nat} {v : Value} {xs : List Value} (h : w.ownsRow base e s v n xs) (hb : Below B w w') (hB : w.heap.size ≤ B) : w'.ownsRow base e s v n xs :=
  h.kept (row := none) ⟨hb.os, hb.tape, hb.output, hb.size, fun k hk _ => hb.block k (by omega)⟩ (by cases v.ownBlock <;> simp)
end Gm
namespace Go.Proofs.YtcchpijadlgagaaDoor
open Go.RowKit Gm
set_option linter.unusedSimpArgs false
theorem int_info : (Tryd.prog.info? 3).map (fun i => (i.zero, i.size, i.bytes)) = some (some (.int .i64 0), 1, 8) := by kernel_rfl
theorem rpoints_large (s : ByteArray) (w : World) (h : 4000 < s.size) (hs : s.size ≤ maxLen) :
    Calls Tryd.prog 20 #[.string s] w fun e w' => e = .returned (.tuple #[.slice none 0 0, .agg #[.int .i64 1, .int .i64 (-1)]]) ∧ Below w.heap.size w w' := by
  unfold maxLen at hs
  go_enter Tryd.func20, Tryd.ntmps20
  go_wp2_with fail
  refine (rfault_any _ _ _).mono ?_
  rintro e w1 ⟨rfl, hb1⟩
  have hz : w.heap.size < w1.heap.size := by have := hb1.size; simp at this; omega
  have q0 : w1.cell? ⟨w.heap.size, 0, none⟩ = some (.int .i64 0) := keep_cell hb1 (by simp) (by simp)
  have q1 : w1.cell? ⟨w.heap.size, 1, none⟩ = some (.int .i64 0) := keep_cell hb1 (by simp) (by simp)
  have f0 : w1.frozen? ⟨w.heap.size, 0, none⟩ = false := keep_free hb1 (by simp) (by simp)
  have f1 : w1.frozen? ⟨w.heap.size, 1, none⟩ = false := keep_free hb1 (by simp) (by simp)
  have hbw : Below w.heap.size w w1 := ((Below.refl _ _).alloc (Nat.le_refl _) _).trans (hb1.mono (by simp))
  go_wp2
  exact bodyPost_ret (v := .tuple #[.slice none 0 0, .agg #[.int .i64 1, .int .i64 (-1)]]) (by simp [results, Tryd.results20, go_sem, q0, q1, f0, f1, hz]) rfl ⟨rfl, by go_grown⟩
set_option maxHeartbeats 1000000 in
theorem rpoints_small (s : ByteArray) (w : World) (h : s.size ≤ 4000) (R : (Int × Int) × List Int) (hR : R = decGo s.data.toList (s.data.toList.length + 1) 0 []) :
    Calls Tryd.prog 20 #[.string s] w fun e w' => ∃ v, e = .returned (.tuple #[v, .agg #[.int .i64 R.1.1, .int .i64 R.1.2]]) ∧ w'.ownsRow w.heap.size 3 1 v R.2.length (intRow R.2) ∧ Below w.heap.size w w' := by
  obtain ⟨i0, hi0, hz0, hz1, hz2⟩ := info_parts int_info
  have hL : s.data.toList.length = s.size := by simp
  have HL := hide hL
  have HR := hide hR
  clear hR hL
  go_enter Tryd.func20, Tryd.ntmps20
  go_wp2
  go_loopw [5, 4] (fun iv v wr => ∃ (i f : Nat) (acc : List Int), i ≤ s.size + 4 ∧ s.size < f + i ∧ acc.length ≤ i ∧ iv = .int .i64 i ∧ wr.ownsRow (w.heap.size + 1) 3 1 v acc.length (intRow acc) ∧
      Blk wr w.heap.size 25 #[.int .i64 0, .int .i64 0] ∧ Below w.heap.size w wr ∧ Hid (R = decGo s.data.toList f i acc)) (fun iv _ _ => s.size - (intOf iv).toNat)
  case atStart => exact ⟨0, _, [], by omega, by rw [← HL.out]; omega, by simp, rfl, World.ownsRow_nil _ _ _ _, Blk.new _ _ _, by go_grown, HR⟩
  case round =>
    clear HR
    obtain ⟨i, f, acc, hi, hf, hacc, rfl, hown, bx, hbw, HR⟩ := hrel
    have q0 : wr.cell? ⟨w.heap.size, 0, none⟩ = some (.int .i64 0) := bx.cell 0
    have q1 : wr.cell? ⟨w.heap.size, 1, none⟩ = some (.int .i64 0) := bx.cell 1
    have f0 : wr.frozen? ⟨w.heap.size, 0, none⟩ = false := bx.frozen 0
    have f1 : wr.frozen? ⟨w.heap.size, 1, none⟩ = false := bx.frozen 1
    have hz := bx.lt
    by_cases hlt : i < s.size
    · have hl' : i < s.data.toList.length := by rw [HL.out]; exact hlt
      obtain ⟨f, rfl⟩ : ∃ f', f = f' + 1 := ⟨f - 1, by omega⟩
      have HO := one_any s i wr hlt (by omega)
      by_cases hneg : oneZ (s.data.toList.drop i) < 0
      · have he := HR.out.trans (decGo_bad hl' (oneZ_neg hneg))
        have HE := hide he
        clear he HR hl'
        obtain ⟨z, hz'⟩ : ∃ z, z = oneZ (s.data.toList.drop i) := ⟨_, rfl⟩
        rw [← hz'] at HO hneg
        clear hz'
        go_wp2_with fail
        refine HO.mono ?_
        clear HO
        rintro e w' ⟨rfl, rfl⟩
        go_wp2_with fail
        refine (rfault_any _ _ _).mono ?_
        rintro e w1 ⟨rfl, hb1⟩
        have hz1' : w.heap.size < w1.heap.size := by have := hb1.size; omega
        have q0 := keep_cell hb1 q0 hz
        have q1 := keep_cell hb1 q1 hz
        have f0 := keep_free hb1 f0 hz
        have f1 := keep_free hb1 f1 hz
        have hbw2 : Below w.heap.size w w1 := hbw.trans (hb1.mono (by omega))
        go_wp2
        refine bodyPost_ret (v := .tuple #[.slice none 0 0, .agg #[.int .i64 5, .int .i64 i]]) (by simp [results, Tryd.results20, go_sem, q0, q1, f0, f1, hz1']) rfl ⟨.slice none 0 0, ?_, ?_, by go_grown⟩
        · rw [HE.out]
        · rw [HE.out]; exact World.ownsRow_nil _ _ _ _
      · obtain ⟨hd, hoz⟩ := oneZ_pos hneg
        have he := HR.out.trans (decGo_ok hl' hd)
        obtain ⟨g1, g2, g3⟩ := dec_step hl' hd
        have hpos := dec1_pos (s.data.toList.drop i)
        obtain ⟨p, hp⟩ : ∃ p, p = ((dec1 (s.data.toList.drop i)).1 : Int) := ⟨_, rfl⟩
        obtain ⟨n, hn⟩ : ∃ n, n = (dec1 (s.data.toList.drop i)).2 := ⟨_, rfl⟩
        rw [← hp, ← hn] at he
        rw [← hp, ← hn] at g2
        rw [hoz, ← hp] at HO hneg
        rw [← hn] at hpos
        have hbd := wid_bd p
        have HE := hide he
        have G2 := hide g2
        clear he HR hl' g1 g3 hp hn hd hoz
        have hn4 : n ≤ 4 := by omega
        clear hbd g2
        go_wp2_with fail
        refine HO.mono ?_
        clear HO
        rintro e w' ⟨rfl, rfl⟩
        go_wp2_with (at_builtin; refine wpList_append_own _ rfl (.tmp 22) (.tmp 24) 43 rfl (w.heap.size + 1) 3 i0 _ 1 8 Tryd.underlying43 hi0 hz0 hz1 hz2 rfl (by omega) _ acc.length _ rfl (hown.alloc _) ⟨wr.heap.size, 0, none⟩ 1 1 [.int .i64 p] rfl rfl (World.news_of_block (cs := #[.int .i64 p]) (t := 3) (fr := (0, 0)) (Blk.at_ (by simp))) (by simp [Value.oneCell']) (by simp only [maxLen]; omega) (by omega) (by simp; omega) ?_; intro v' w2 hown2 hg2 _)
        have hlow : ∀ k, u4.ownBlock = some k → w.heap.size + 1 ≤ k := fun k hk => (hown.lt k hk).1
        refine (rwidth_at _ _ G2.out.symm _).mono ?_
        rintro e w' ⟨rfl, rfl⟩
        go_wp2
        go_roundw
        case rel => 
          refine ⟨i + n, f, acc ++ [p], by omega, by omega, by simp; omega, by go_num, ?_, ?_, ?_, HE⟩
          · rw [intRow_append, List.length_append]; exact hown2
          · exact (bx.alloc _).grown hg2 (fun e => by have := hlow _ e.symm; omega)
          · exact (hbw.alloc hbw.size _).grown hg2 (by simp; omega) (fun k hk => by have := hlow _ hk; omega)
        case measure => simp [intOf]; omega
    · have he := HR.out.trans (decGo_end (f := f) (acc := acc) (by rw [HL.out]; exact hlt))
      have HE := hide he
      clear he HR
      go_wp2
      refine bodyPost_ret (v := .tuple #[u4, .agg #[.int .i64 0, .int .i64 0]]) (by simp [results, Tryd.results20, go_sem, q0, q1, f0, f1, hz]) rfl ⟨u4, ?_, ?_, by go_grown⟩
      · rw [HE.out]
      · rw [HE.out]; exact own_mono (ownsRow_setCell_below (ownsRow_setCell_below hown (a := ⟨w.heap.size, 0, none⟩) (by simp) _) (a := ⟨w.heap.size, 1, none⟩) (by simp) _) (by omega)
end Go.Proofs.YtcchpijadlgagaaDoor
