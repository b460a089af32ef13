/- letters.size, write and the reference's Bytes: code points encoded. -/
import Derived.Test.YtcchpijadlgagaaDoorTxD2
namespace Gm
open Go Go.RowKit
theorem takeI_push {l : List Int} {k : Nat} {a : Int} (hk : k < l.length) (ha : l.getD k 0 = a) : l.take (k + 1) = l.take k ++ [a] := by
  have e : l.getD k 0 = l[k] := by simp [hk]
  rw [List.take_succ_eq_append_getElem hk, ← e, ha]
theorem getI_mem {l : List Int} {k : Nat} (hk : k < l.length) : l.getD k 0 ∈ l := by
  have e : l.getD k 0 = l[k] := by simp [hk]
  rw [e]; exact List.getElem_mem hk
theorem encL_push {l : List Int} {k : Nat} {a : Int} (hk : k < l.length) (ha : l.getD k 0 = a) : encL (l.take (k + 1)) = encL (l.take k) ++ enc1 a := by
  rw [takeI_push hk ha, encL_append]; simp [encL]
theorem cells_push {l : List Int} {k : Nat} {a : Int} (hk : k < l.length) (ha : l.getD k 0 = a) : Lib.byteCells (encL (l.take (k + 1))) = Lib.byteCells (encL (l.take k)) ++ Lib.runeCells a := by
  rw [encL_push hk ha, ← Lib.byteCells_encodeRune]; simp [Lib.byteCells, enc1]
theorem enc1_le (p : Int) : (enc1 p).length ≤ 4 := by
  have := (Lib.encodeRuneZ_length p).2
  simpa [enc1, Lib.encodeRune] using this
theorem encL_le (ps : List Int) : (encL ps).length ≤ 4 * ps.length := by
  induction ps with
  | nil => simp [encL]
  | cons p ps ih => rw [encL_cons, List.length_append, List.length_cons]; have := enc1_le p; omega
theorem encL_take_le (ps : List Int) (k : Nat) : (encL (ps.take k)).length ≤ 4 * k := by
  have h1 := encL_le (ps.take k)
  have h2 : (ps.take k).length ≤ k := List.length_take_le _ _
  omega
theorem runeCells_len (p : Int) : (Lib.runeCells p).length = (enc1 p).length := Lib.runeCells_length p
theorem runeLen_enc {p : Int} (h : scal p = true) : Lib.runeLen p = ((enc1 p).length : Int) := by
  rw [enc1_len h]
  have := scal_iff.1 h
  unfold Lib.runeLen wid
  (repeat' split) <;> omega
end Gm
namespace Go.Proofs.YtcchpijadlgagaaDoor
open Go.RowKit Gm
set_option linter.unusedSimpArgs false
theorem byte_info : (Tryd.prog.info? 5).map (fun i => (i.zero, i.size, i.bytes)) = some (some (.int .u8 0), 1, 1) := by kernel_rfl
theorem str_of_row {w : World} {base : Nat} {v : Value} {n : Nat} {l : List UInt8} (h : w.ownsRow base 5 1 v n (Lib.byteCells l)) : (convert 52 9 v).run Tryd.prog w = .ok (.string ⟨l.toArray⟩) w := by
  have hl : l.length = n := by have := h.1; simpa [Lib.byteCells] using this
  subst hl
  rcases h.2 with ⟨rfl, h0⟩ | ⟨g, cap, cur, rfl, _⟩
  · obtain rfl : l = [] := List.eq_nil_of_length_eq_zero h0
    rw [run_convert_bytes_string w 52 9 5 none 0 0 Tryd.underlying52 Tryd.underlying5 Tryd.underlying9]
    simp [Conv.bytesToString]; rfl
  · refine run_convert_bytes_back w 52 9 5 ⟨g, 0, none⟩ cap l Tryd.underlying52 Tryd.underlying5 Tryd.underlying9 (fun j hj => ?_)
    refine h.cells (g := g) rfl j _ ?_
    simp [Lib.byteCells, hj]
theorem size_any (A : Option Addr) (n c : Nat) (ps : List Int) (w : World) (B : Nat) (hn : ps.length = n) (hl : n ≤ 100000) (h : Rd w B 1 A n (intCell ps)) (ha : allS ps) :
    Calls Tryd.prog 51 #[.slice A n c] w fun e w' => e = .returned (.int .i64 ((encL ps).length : Nat)) ∧ w = w' := by
  have HL := hide hn
  have HA := hide ha
  clear hn ha
  go_enter Tryd.func51, Tryd.ntmps51
  go_wp2
  go_loop [8, 3] (fun iv nv => ∃ (k m : Nat), k ≤ n ∧ m ≤ 4 * k ∧ iv = .int .i64 k ∧ nv = .int .i64 m ∧ Hid (m = (encL (ps.take k)).length)) (fun iv _ => n - (intOf iv).toNat)
  case atStart => exact ⟨0, 0, by omega, by omega, rfl, rfl, hide rfl⟩
  case round =>
    obtain ⟨k, m, hk, hm, rfl, rfl, HM⟩ := hrel
    by_cases hkn : k < n
    · obtain ⟨b, off, rfl, hB, hc1⟩ := h.at1 hkn
      clear h
      have hs := HA.out _ (getI_mem (by rw [HL.out]; exact hkn : k < ps.length))
      have hp := encL_push (l := ps) (k := k) (by rw [HL.out]; exact hkn) rfl
      obtain ⟨p, hp'⟩ : ∃ p, p = ps.getD k 0 := ⟨_, rfl⟩
      simp only [intCell, ← hp'] at hc1
      rw [← hp'] at hs hp
      have hr := runeLen_enc hs
      obtain ⟨q, hq⟩ : ∃ q, q = (enc1 p).length := ⟨_, rfl⟩
      have hq4 : q ≤ 4 := by rw [hq]; exact enc1_le p
      have hsc := scal_iff.1 hs
      have hp0 : 0 ≤ p ∧ p ≤ 1114111 := by omega
      obtain ⟨hp0, hp1⟩ := hp0
      rw [← hq] at hr
      have he : m + q = (encL (ps.take (k + 1))).length := by rw [hp, List.length_append, ← HM.out, hq]
      have hc := Tryd.utf8_RuneLen p
      rw [hr] at hc
      have HC := hide hc
      have HE := hide he
      clear hc he hr hs hp hp' hq hsc HM
      go_wp2_with fail
      refine (HC.out _).mono ?_
      rintro e w' ⟨rfl, hw⟩
      subst hw
      go_wp2
      go_round
      case rel => exact ⟨k + 1, m + q, by omega, by omega, by go_num, by go_num, HE⟩
      case measure => simp [intOf]; omega
    · have he : m = (encL ps).length := by rw [HM.out, List.take_of_length_le (by rw [HL.out]; omega)]
      have HE := hide he
      clear he HM
      go_wp2
      go_ret
      exact ⟨ret_i64 (by rw [HE.out]), rfl⟩
theorem write_any (A : Option Addr) (n c : Nat) (ps : List Int) (w : World) (B : Nat) (hn : ps.length = n) (hl : n ≤ 100000) (hB : B ≤ w.heap.size) (h : Rd w B 1 A n (intCell ps)) (ha : allS ps) :
    Calls Tryd.prog 52 #[.slice A n c] w fun e w' => e = .returned (.string ⟨(encL ps).toArray⟩) ∧ Below w.heap.size w w' := by
  have HL := hide hn
  have HA := hide ha
  clear hn ha
  go_enter Tryd.func52, Tryd.ntmps52
  go_wp2
  go_loopw [8, 3] (fun iv v wr => ∃ (k m : Nat), k ≤ n ∧ m ≤ 4 * k ∧ iv = .int .i64 k ∧ wr.ownsRow w.heap.size 5 1 v m (Lib.byteCells (encL (ps.take k))) ∧ Below w.heap.size w wr) (fun iv _ _ => n - (intOf iv).toNat)
  case atStart => exact ⟨0, 0, by omega, by omega, rfl, World.ownsRow_nil _ _ _ _, Below.refl _ _⟩
  case round =>
    obtain ⟨k, m, hk, hm, rfl, hown, hbw⟩ := hrel
    by_cases hkn : k < n
    · obtain ⟨b, off, rfl, hB2, hc1⟩ := (h.below hbw hB).at1 hkn
      clear h
      have hbz : b < wr.heap.size := by have := hbw.size; omega
      have hs := HA.out _ (getI_mem (by rw [HL.out]; exact hkn : k < ps.length))
      have hp := cells_push (l := ps) (k := k) (by rw [HL.out]; exact hkn) rfl
      obtain ⟨p, hp'⟩ : ∃ p, p = ps.getD k 0 := ⟨_, rfl⟩
      simp only [intCell, ← hp'] at hc1
      rw [← hp'] at hs hp
      have hsc := scal_iff.1 hs
      have hp0 : 0 ≤ p ∧ p ≤ 1114111 := by omega
      obtain ⟨hp0, hp1⟩ := hp0
      have hq4 : (Lib.runeCells p).length ≤ 4 := by rw [runeCells_len]; exact enc1_le p
      have HC := hide (Tryd.utf8_AppendRune_plain w.heap.size u3 m _ p (by omega) (by omega) wr hown (by omega) hbw.size)
      have HP := hide hp
      have hlow : ∀ k, u3.ownBlock = some k → w.heap.size ≤ k := fun k hk => (hown.lt k hk).1
      clear hs hp hp' hsc hown
      go_wp2_with fail
      refine HC.out.mono ?_
      rintro e w1 ⟨v', rfl, hown2, o, hg2⟩
      go_wp2
      go_roundw
      case rel => 
        refine ⟨k + 1, m + (Lib.runeCells p).length, by omega, by omega, by go_num, by rw [HP.out]; exact hown2, ?_⟩
        exact (hbw.alloc hbw.size o).grown hg2 (by have := hbw.size; simp; omega) (fun k hk => hlow _ hk)
      case measure => simp [intOf]; omega
    · have he : encL (ps.take k) = encL ps := by rw [List.take_of_length_le (by rw [HL.out]; omega)]
      rw [he] at hown
      have hcv := str_of_row hown
      clear he hown
      go_wp2
      go_ret
      exact ⟨rfl, hbw⟩
end Go.Proofs.YtcchpijadlgagaaDoor
