/- Classes and lower case of code points: contracts. -/
import Derived.Test.YtcchpijadlgagaaDoorTxF
import Derived.Test.YtcchpijadlgagaaDoorMem
namespace Go.Proofs.YtcchpijadlgagaaDoor
open Go.RowKit Gm
/-- Is the number between two bounds of the list, of which each pair is one range? -/
def btw (p : Int) : List Int → Bool
  | a :: b :: l => (decide (a ≤ p) && decide (p ≤ b)) || btw p l
  | _ => false
theorem btw_step (p : Int) (l : List Int) (k : Nat) (h : k + 1 < l.length) : btw p (l.drop k) = ((decide (l.getD k 0 ≤ p) && decide (p ≤ l.getD (k + 1) 0)) || btw p (l.drop (k + 2))) := by
  rw [List.drop_eq_getElem_cons (by omega : k < l.length), List.drop_eq_getElem_cons h]
  simp [btw, h, (by omega : k < l.length)]
theorem btw_end (p : Int) (l : List Int) (k : Nat) (h : ¬ k + 1 < l.length) : btw p (l.drop k) = false := by
  rcases Nat.lt_or_ge k l.length with h1 | h1
  · rw [List.drop_eq_getElem_cons h1, List.drop_eq_nil_of_le (by omega)]; rfl
  · rw [List.drop_eq_nil_of_le h1]; rfl
set_option maxHeartbeats 400000 in
theorem between_any (p : Int) (A : Option Addr) (n c : Nat) (l : List Int) (w : World) (B : Nat) (hn : l.length = n) (hl : n ≤ 1000) (h : Rd w B 1 A n (intCell l)) :
    Calls Tryd.prog 56 #[.int .i64 p, .slice A n c] w fun e w' => e = .returned (.bool (btw p l)) ∧ w = w' := by
  have HL := hide hn
  clear hn
  obtain ⟨tot, htot⟩ : ∃ x, x = btw p l := ⟨_, rfl⟩
  rw [← htot]
  have HT := hide htot
  clear htot
  go_enter Tryd.func56, Tryd.ntmps56
  go_wp2
  go_loop [5] (fun i => ∃ k : Nat, k ≤ n + 1 ∧ i = .int .i64 k ∧ Hid (tot = btw p (l.drop k))) (fun i => n + 2 - (intOf i).toNat)
  case atStart => exact ⟨0, by omega, rfl, by simpa using HT⟩
  case round =>
    obtain ⟨k, hk, rfl, HB⟩ := hrel
    by_cases hkn : k + 1 < n
    · obtain ⟨b, off, hA, hB, hc⟩ := h (by omega)
      have e0 := hc k 0 (by omega) (by omega)
      have e1 := hc (k + 1) 0 hkn (by omega)
      subst hA
      clear h hc
      have hs := HB.out.trans (btw_step p l k (by rw [HL.out]; exact hkn))
      obtain ⟨x, hx⟩ : ∃ x, x = l.getD k 0 := ⟨_, rfl⟩
      obtain ⟨y, hy⟩ : ∃ x, x = l.getD (k + 1) 0 := ⟨_, rfl⟩
      simp only [intCell, ← hx] at e0
      simp only [intCell, ← hy] at e1
      rw [← hx, ← hy] at hs
      have HS := hide hs
      clear hs hx hy HT HB
      simp only [Nat.mul_one, Nat.add_zero] at e0 e1
      by_cases h0 : x ≤ p ∧ p ≤ y
      · obtain ⟨h1, h2⟩ := h0
        go_wp2
        go_ret
        exact ⟨ret_bool (by rw [HS.out]; simp [h1, h2]), rfl⟩
      · have HH := hide (show (decide (x ≤ p) && decide (p ≤ y)) = false by simp; omega)
        by_cases h1 : x ≤ p
        · have h2 : ¬ p ≤ y := fun h2 => h0 ⟨h1, h2⟩
          clear h0
          go_wp2
          go_round
          case rel => exact ⟨k + 2, by omega, by go_num, hide (by rw [HS.out, HH.out]; rfl)⟩
          case measure => simp [intOf]; omega
        · clear h0
          go_wp2
          go_round
          case rel => exact ⟨k + 2, by omega, by go_num, hide (by rw [HS.out, HH.out]; rfl)⟩
          case measure => simp [intOf]; omega
    · have hs := HB.out.trans (btw_end p l k (by rw [HL.out]; exact hkn))
      have HS := hide hs
      clear hs HT HB
      go_wp2
      go_ret
      exact ⟨ret_bool HS.out.symm, rfl⟩
end Go.Proofs.YtcchpijadlgagaaDoor
