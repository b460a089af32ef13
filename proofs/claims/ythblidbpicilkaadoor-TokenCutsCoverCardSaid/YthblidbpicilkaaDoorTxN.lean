/- Numbers of package glosswrightequal; lists of ints as values; the closed example decoded. -/
import Derived.Test.YthblidbpicilkaaDoorTxE3
namespace Gm
open Go Go.RowKit
theorem dropI_eq_iff {l k : List Int} {j : Nat} (h1 : j < l.length) (h2 : l.length = k.length) :
    decide (l.drop j = k.drop j) = if l.getD j 0 = k.getD j 0 then decide (l.drop (j + 1) = k.drop (j + 1)) else false := by
  have e1 : l.getD j 0 = l[j] := by simp [h1]
  have e2 : k.getD j 0 = k[j]'(by omega) := by simp [show j < k.length by omega]
  have e3 : l.drop j = l[j] :: l.drop (j + 1) := List.drop_eq_getElem_cons h1
  have e4 : k.drop j = k[j]'(by omega) :: k.drop (j + 1) := List.drop_eq_getElem_cons (show j < k.length by omega)
  rw [e1, e2, e3, e4]
  by_cases h : l[j] = k[j]'(by omega)
  · rw [if_pos h, h]; simp only [List.cons.injEq, true_and]
  · rw [if_neg h]; simp only [List.cons.injEq, h, false_and, decide_false]
/-- The list of ints l, as a value; it lies below block B. -/
def Ints (w : World) (B : Nat) (v : Value) (l : List Int) : Prop :=
  ∃ A n c, v = .slice A n c ∧ Hid (l.length = n) ∧ n ≤ c ∧ n ≤ big ∧ Rd w B 1 A n (intCell l)
theorem Ints.below {w w' : World} {B B' : Nat} {v : Value} {l : List Int} (h : Ints w B v l) (hb : Below B' w w') (hB : B ≤ B') : Ints w' B v l := by
  obtain ⟨A, n, c, h1, h2, h3, h4, h5⟩ := h
  exact ⟨A, n, c, h1, h2, h3, h4, h5.below hb hB⟩
theorem Ints.mono {w : World} {B B' : Nat} {v : Value} {l : List Int} (h : Ints w B v l) (hB : B ≤ B') : Ints w B' v l := by
  obtain ⟨A, n, c, h1, h2, h3, h4, h5⟩ := h
  exact ⟨A, n, c, h1, h2, h3, h4, h5.mono hB⟩
theorem Ints.drewN {w : World} {B : Nat} {v : Value} {l : List Int} (h : Ints w B v l) (k : Nat) : Ints (w.drewN k) B v l := h
theorem Ints.of_own {w : World} {base n : Nat} {e : TypeId} {v : Value} {l : List Int} (h : w.ownsRow base e 1 v n (intRow l)) (hn : l.length = n) (hb : n ≤ big) : Ints w w.heap.size v l := by
  obtain ⟨A, c, rfl, hc, _⟩ := own_value h
  exact ⟨A, n, c, rfl, hide hn, hc, hb, Rd.of_own h (by subst hn; exact intRow_at l)⟩
theorem Ints.of_blk {w : World} {g : Nat} {t : TypeId} {cs : Array Value} {l : List Int} {n : Nat} (h : Blk w g t cs) (hcs : cs.toList = intRow l) (hn : l.length = n) (hb : n ≤ big) : Ints w (g + 1) (.slice (some ⟨g, 0, none⟩) n n) l := by
  subst hn
  exact ⟨_, _, _, rfl, hide rfl, Nat.le_refl _, hb, Rd.of_blk h hcs⟩
theorem Ints.nil (w : World) (B : Nat) : Ints w B (.slice none 0 0) [] := ⟨none, 0, 0, rfl, hide rfl, Nat.le_refl _, by simp [big], Rd.zero⟩
end Gm
namespace Go.Proofs.YthblidbpicilkaaDoor
open Go.RowKit Gm
set_option linter.unusedSimpArgs false
theorem encode_ints (v : Value) (ps : List Int) (w : World) (B : Nat) (hB : B ≤ w.heap.size) (h : Ints w B v ps) :
    Calls Tryd.prog 12 #[v] w fun e w' => e = .returned (.tuple #[.string ⟨(encR ps).2.toArray⟩, .agg #[.int .i64 (encR ps).1.1, .int .i64 (encR ps).1.2]]) ∧ Below w.heap.size w w' := by
  obtain ⟨A, n, c, rfl, h2, h3, h4, h5⟩ := h
  exact encode_any A n c ps w B h2.out h4 hB h5
theorem text_ints (v : Value) (ps : List Int) (w : World) (B : Nat) (hB : B ≤ w.heap.size) (h : Ints w B v ps) :
    Calls Tryd.prog 13 #[v] w fun e w' => e = .returned (.tuple #[.string ⟨(encR ps).2.toArray⟩, .agg #[.int .i64 (encR ps).1.1, .int .i64 (encR ps).1.2]]) ∧ Below w.heap.size w w' := by
  obtain ⟨A, n, c, rfl, h2, h3, h4, h5⟩ := h
  exact text_any A n c ps w B h2.out h4 hB h5
theorem numbers_any (v1 v2 : Value) (l1 l2 : List Int) (w : World) (B : Nat) (h1 : Ints w B v1 l1) (h2 : Ints w B v2 l2) (hB : B ≤ w.heap.size) :
    Calls Tryd.prog 14 #[v1, v2] w fun e w' => e = .returned (.bool (decide (l1 = l2))) ∧ Below w.heap.size w w' := by
  obtain ⟨A, n, c, rfl, HN, hnc, hnb, hA⟩ := h1
  obtain ⟨A', n', c', rfl, HN', hnc', hnb', hA'⟩ := h2
  unfold big at hnb hnb'
  by_cases d : n = n'
  · subst d
    obtain ⟨tot, ht⟩ : ∃ x, x = decide (l1 = l2) := ⟨_, rfl⟩
    rw [← ht]
    have HT := hide (show tot = decide (l1.drop 0 = l2.drop 0) by rw [ht]; simp)
    clear ht
    go_enter Tryd.func14, Tryd.ntmps14
    go_wp2
    go_loopw [13] (fun iv wr => ∃ (k : Nat), k ≤ n ∧ iv = .int .i64 k ∧ Below w.heap.size w wr ∧ Hid (tot = decide (l1.drop k = l2.drop k))) (fun iv _ => n - (intOf iv).toNat)
    case atStart => exact ⟨0, by omega, rfl, Below.refl _ _, HT⟩
    case round =>
      clear HT
      obtain ⟨k, hk, rfl, hbw, HR⟩ := hrel
      by_cases hkn : k < n
      · obtain ⟨b, off, rfl, hB2, hc1⟩ := (hA.below hbw hB).at1 hkn
        obtain ⟨b', off', rfl, hB2', hc1'⟩ := (hA'.below hbw hB).at1 hkn
        have he := HR.out.trans (dropI_eq_iff (by rw [HN.out]; exact hkn) (by rw [HN.out, HN'.out]))
        obtain ⟨x, hx⟩ : ∃ x, x = l1.getD k 0 := ⟨_, rfl⟩
        obtain ⟨y, hy⟩ : ∃ x, x = l2.getD k 0 := ⟨_, rfl⟩
        simp only [intCell, ← hx] at hc1
        simp only [intCell, ← hy] at hc1'
        rw [← hx, ← hy] at he
        clear hA hA' HR hx hy
        have hbz : b < wr.heap.size := by have := hbw.size; omega
        have hbz' : b' < wr.heap.size := by have := hbw.size; omega
        have j0 : (0 : Int) ≤ (k : Int) := by omega
        have j1 : (k : Int) < (n : Int) := by omega
        by_cases hxy : x = y
        · rw [if_pos hxy] at he
          have hb : (x != y) = false := by simp [hxy]
          have HE := hide he
          have HX := hide hxy
          clear he hxy
          go_wp2
          go_quiet (fail)
          go_wp2
          go_roundw
          case rel => exact ⟨k + 1, by omega, by go_num, below_drewN hbw nq, HE⟩
          case measure => simp [intOf]; omega
        · rw [if_neg hxy] at he
          have hb : (x != y) = true := by simp [hxy]
          have HE := hide he
          clear he hxy
          go_wp2
          go_quiet (fail)
          go_wp2
          go_ret
          exact ⟨ret_bool HE.out.symm, below_drewN hbw nq⟩
      · have he : tot = true := by
          rw [HR.out, List.drop_eq_nil_of_le (by rw [HN.out]; omega), List.drop_eq_nil_of_le (by rw [HN'.out]; omega)]; rfl
        have HE := hide he
        clear he HR
        go_wp2
        go_ret
        exact ⟨ret_bool HE.out.symm, hbw⟩
  · have hd : decide (l1 = l2) = false := by
      apply decide_eq_false; intro e; apply d; rw [← HN.out, ← HN'.out, e]
    rw [hd]
    have hdd : ((n : Int) != (n' : Int)) = true := by simp; omega
    clear hd HN HN' hA hA' d
    go_enter Tryd.func14, Tryd.ntmps14
    go_wp2
    go_ret
    exact ⟨rfl, Below.refl _ _⟩
end Go.Proofs.YthblidbpicilkaaDoor
