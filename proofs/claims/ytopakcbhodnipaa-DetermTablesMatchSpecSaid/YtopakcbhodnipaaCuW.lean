/- Beginnings and ends of a list of numbers, as the program cuts them. -/
import Derived.Test.YtopakcbhodnipaaWdW
namespace Go.Proofs.Ytopakcbhodnipaa
open Go.RowKit Gm
set_option linter.unusedSimpArgs false
set_option linter.unusedVariables false
theorem rd_take {W : World} {B n k : Nat} {A : Option Addr} {l : List Int} (h : Rd W B 1 A n (intCell l)) (hk : k ≤ n) : Rd W B 1 A k (intCell (l.take k)) := fun h0 => by
  obtain ⟨b, off, e, hb, hc⟩ := h (by omega)
  refine ⟨b, off, e, hb, fun i j hi hj => ?_⟩
  rw [hc i j (by omega) hj]
  unfold intCell
  rw [List.getD_eq_getElem?_getD, List.getD_eq_getElem?_getD, List.getElem?_take_of_lt hi]
theorem rd_drop {W : World} {B n k : Nat} {A : Option Addr} {l : List Int} (h : Rd W B 1 A n (intCell l)) (hk : k ≤ n) (hn : k < n) : Rd W B 1 (A.map (·.add k)) (n - k) (intCell (l.drop k)) := fun h0 => by
  obtain ⟨b, off, rfl, hb, hc⟩ := h (by omega)
  refine ⟨b, off + k, by simp [Addr.add], hb, fun i j hi hj => ?_⟩
  have := hc (k + i) j (by omega) hj
  unfold intCell at this ⊢
  rw [List.getD_eq_getElem?_getD] at this ⊢
  rw [List.getElem?_drop, ← this]
  congr 2
  omega
theorem cut_take {A : Option Addr} {n c k : Nat} (hk : k ≤ n) (hc : n ≤ c) (hb : n ≤ big) : ∃ V, (∀ W : World, (Instr.slice 22 (.slice A n c) none (some (.int .i64 (k : Int))) none).run Try.prog W = .ok V W) ∧ ∀ W B l, Nums W B (.slice A n c) l → Nums W B V (l.take k) := by
  refine ⟨sliced A 0 k c 1, fun W => ?_, fun W B l h => ?_⟩
  · have h1 : (k : Int) ≤ (c : Int) := by omega
    have h0 : (0 : Int) ≤ (k : Int) := by omega
    go_simp
  · obtain ⟨A', n', c', e, h1, h2, h3, h4⟩ := h
    injection e with e1 e2 e3
    subst e1 e2 e3
    have e : sliced A 0 k c 1 = .slice (if c = 0 then A else A.map (·.add 0)) k c := by simp [sliced]
    have eA : (if c = 0 then A else A.map (·.add 0)) = A := by
      split
      · rfl
      · cases A <;> simp [Addr.add]
    rw [e, eA]
    exact ⟨A, k, c, rfl, hide (by rw [List.length_take, h1.out]; omega), by omega, by omega, rd_take h4 hk⟩
theorem cut_drop {A : Option Addr} {n c k : Nat} (hk : k ≤ n) (hc : n ≤ c) (hb : n ≤ big) : ∃ V, (∀ W : World, (Instr.slice 22 (.slice A n c) (some (.int .i64 (k : Int))) none none).run Try.prog W = .ok V W) ∧ ∀ W B l, Nums W B (.slice A n c) l → Nums W B V (l.drop k) := by
  refine ⟨sliced A k n c 1, fun W => ?_, fun W B l h => ?_⟩
  · have h1 : (k : Int) ≤ (n : Int) := by omega
    have h0 : (0 : Int) ≤ (k : Int) := by omega
    go_simp
  · obtain ⟨A', n', c', e, h1, h2, h3, h4⟩ := h
    injection e with e1 e2 e3
    subst e1 e2 e3
    have e : sliced A k n c 1 = .slice (if c = k then A else A.map (·.add k)) (n - k) (c - k) := by simp [sliced]
    rw [e]
    refine ⟨_, n - k, c - k, rfl, hide (by rw [List.length_drop, h1.out]), by omega, by omega, ?_⟩
    by_cases hn : k < n
    · rw [if_neg (by omega)]; exact rd_drop h4 hk hn
    · have : n - k = 0 := by omega
      rw [this]; exact Rd.zero
theorem cut_mid {A : Option Addr} {n c k p : Nat} (hp : p ≤ k) (hk : k ≤ n) (hc : n ≤ c) (hb : n ≤ big) : ∃ V, (∀ W : World, (Instr.slice 22 (.slice A n c) (some (.int .i64 (p : Int))) (some (.int .i64 (k : Int))) none).run Try.prog W = .ok V W) ∧ ∀ W B l, Nums W B (.slice A n c) l → Nums W B V ((l.take k).drop p) := by
  refine ⟨sliced A p k c 1, fun W => ?_, fun W B l h => ?_⟩
  · have h1 : (k : Int) ≤ (c : Int) := by omega
    have h2 : (p : Int) ≤ (k : Int) := by omega
    have h0 : (0 : Int) ≤ (p : Int) := by omega
    go_simp
  · obtain ⟨A', n', c', e, h1, h2, h3, h4⟩ := h
    injection e with e1 e2 e3
    subst e1 e2 e3
    have e : sliced A p k c 1 = .slice (if c = p then A else A.map (·.add p)) (k - p) (c - p) := by simp [sliced]
    rw [e]
    refine ⟨_, k - p, c - p, rfl, hide (by rw [List.length_drop, List.length_take, h1.out]; omega), by omega, by omega, ?_⟩
    by_cases hn : p < k
    · rw [if_neg (by omega)]; exact rd_drop (rd_take h4 hk) hp hn
    · have : k - p = 0 := by omega
      rw [this]; exact Rd.zero
end Go.Proofs.Ytopakcbhodnipaa
