/- A heap in a list, as container/heap keeps it: plain law. No program in sight. -/
import Derived.Test.YtmgpcnkmmgkjgaaMem
namespace Gm
structure Pl where
  w : Nat
  s : Nat
  i : Nat
  j : Nat
def dP : Pl := ⟨0, 0, 0, 0⟩
theorem Pl.ext' {a b : Pl} (h1 : a.w = b.w) (h2 : a.s = b.s) (h3 : a.i = b.i) (h4 : a.j = b.j) : a = b := by
  cases a; cases b; simp_all
def kw (l : List Pl) (k : Nat) : Nat := (l.getD k dP).w
def swp (l : List Pl) (i j : Nat) : List Pl := (l.set i (l.getD j dP)).set j (l.getD i dP)
theorem swp_len (l : List Pl) (i j : Nat) : (swp l i j).length = l.length := by simp [swp]
theorem swp_perm {l : List Pl} {i j : Nat} (hi : i < l.length) (hj : j < l.length) : (swp l i j).Perm l := by
  have e1 : l.getD i dP = l[i] := by simp [hi]
  have e2 : l.getD j dP = l[j] := by simp [hj]
  unfold swp
  rw [e1, e2]
  exact List.set_set_perm hi hj
theorem getD_swp {l : List Pl} {i j : Nat} (hi : i < l.length) (hj : j < l.length) (k : Nat) : (swp l i j).getD k dP = if k = j then l.getD i dP else if k = i then l.getD j dP else l.getD k dP := by
  unfold swp
  simp only [List.getD_eq_getElem?_getD, List.getElem?_set, List.length_set]
  by_cases h1 : k = j
  · subst h1; simp [hj]
  · by_cases h2 : k = i
    · subst h2
      simp [h1, hi, Ne.symm h1]
    · simp [h1, h2, Ne.symm h1, Ne.symm h2]
theorem kw_swp {l : List Pl} {i j : Nat} (hi : i < l.length) (hj : j < l.length) (k : Nat) : kw (swp l i j) k = if k = j then kw l i else if k = i then kw l j else kw l k := by
  unfold kw
  rw [getD_swp hi hj]
  (repeat' split) <;> rfl
/-- The heap's order among the first n. -/
def hOrd (l : List Pl) (n : Nat) : Prop := ∀ k, 0 < k → k < n → kw l ((k - 1) / 2) ≤ kw l k
def upI (l : List Pl) (n j : Nat) : Prop := (∀ k, 0 < k → k < n → k ≠ j → kw l ((k - 1) / 2) ≤ kw l k) ∧ (∀ c, 0 < c → c < n → (c - 1) / 2 = j → 0 < j → kw l ((j - 1) / 2) ≤ kw l c)
def dnI (l : List Pl) (n i : Nat) : Prop := (∀ k, 0 < k → k < n → (k - 1) / 2 ≠ i → kw l ((k - 1) / 2) ≤ kw l k) ∧ (∀ c, 0 < c → c < n → (c - 1) / 2 = i → 0 < i → kw l ((i - 1) / 2) ≤ kw l c)
theorem hOrd_min {l : List Pl} {n : Nat} (h : hOrd l n) : ∀ k, k < n → kw l 0 ≤ kw l k
  | 0, _ => Nat.le_refl _
  | k + 1, hk => by
    have h1 := h (k + 1) (by omega) hk
    have h2 := hOrd_min h ((k + 1 - 1) / 2) (by omega)
    omega
theorem up_step {l : List Pl} {n j : Nat} (hn : n = l.length) (h : upI l n j) (h0 : 0 < j) (hj : j < n) (hl : kw l j < kw l ((j - 1) / 2)) : upI (swp l ((j - 1) / 2) j) n ((j - 1) / 2) := by
  subst hn
  obtain ⟨h1, h2⟩ := h
  have hi : (j - 1) / 2 < l.length := by omega
  obtain ⟨i, hie⟩ : ∃ i, i = (j - 1) / 2 := ⟨_, rfl⟩
  rw [← hie] at hi hl h2 ⊢
  have hK := kw_swp hi hj
  constructor
  · intro k hk0 hkn hki
    rw [hK, hK]
    by_cases e1 : k = j
    · subst e1
      rw [if_pos rfl, if_neg (by omega), if_pos hie.symm]
      omega
    · rw [if_neg e1, if_neg hki]
      have hp := h1 k hk0 hkn e1
      by_cases e2 : (k - 1) / 2 = j
      · rw [if_pos e2]
        exact h2 k hk0 hkn e2 h0
      · rw [if_neg e2]
        by_cases e3 : (k - 1) / 2 = i
        · rw [if_pos e3]; rw [e3] at hp; omega
        · rw [if_neg e3]; exact hp
  · intro c hc0 hcn hci hi0
    rw [hK, hK]
    have hpi : kw l ((i - 1) / 2) ≤ kw l i := h1 i hi0 hi (by omega)
    rw [if_neg (show ¬ (i - 1) / 2 = j by omega), if_neg (show ¬ (i - 1) / 2 = i by omega)]
    by_cases e1 : c = j
    · rw [if_pos e1]; exact hpi
    · rw [if_neg e1, if_neg (show ¬ c = i by omega)]
      have := h1 c hc0 hcn e1
      rw [hci] at this
      omega
theorem up_end {l : List Pl} {n j : Nat} (h : upI l n j) (hl : j = 0 ∨ kw l ((j - 1) / 2) ≤ kw l j) : hOrd l n := by
  intro k hk0 hkn
  by_cases e : k = j
  · subst e
    rcases hl with hl | hl
    · omega
    · exact hl
  · exact h.1 k hk0 hkn e
/-- An element put behind a heap. -/
theorem up_start {l : List Pl} {n : Nat} (h : hOrd l n) (hn : n = l.length) (x : Pl) : upI (l ++ [x]) (n + 1) n := by
  subst hn
  have e : ∀ k, k < l.length → kw (l ++ [x]) k = kw l k := fun k hk => by
    unfold kw; simp [List.getD, List.getElem?_append_left hk]
  constructor
  · intro k hk0 hkn hne
    rw [e _ (by omega), e _ (by omega)]
    exact h k hk0 (by omega)
  · intro c hc0 hcn hcj _
    omega
theorem dn_step {l : List Pl} {n i j : Nat} (hn : n ≤ l.length) (h : dnI l n i) (hj : j < n) (hji : j = 2 * i + 1 ∨ j = 2 * i + 2) (hl : kw l j < kw l i) (hmin : ∀ c, 0 < c → c < n → (c - 1) / 2 = i → kw l j ≤ kw l c) : dnI (swp l i j) n j := by
  obtain ⟨h1, h2⟩ := h
  have hi : i < l.length := by omega
  have hj' : j < l.length := by omega
  have hK := kw_swp hi hj'
  have hpj : (j - 1) / 2 = i := by omega
  constructor
  · intro k hk0 hkn hkj
    rw [hK, hK, if_neg hkj]
    by_cases e1 : k = j
    · rw [if_pos e1, e1, hpj, if_pos rfl]; omega
    · rw [if_neg e1]
      by_cases e2 : (k - 1) / 2 = i
      · rw [if_pos e2, if_neg (show ¬ k = i by omega)]
        exact hmin k hk0 hkn e2
      · rw [if_neg e2]
        by_cases e3 : k = i
        · rw [if_pos e3, e3]
          exact h2 j (by omega) hj hpj (by omega)
        · rw [if_neg e3]; exact h1 k hk0 hkn e2
  · intro c hc0 hcn hcj hj0
    rw [hK, hK, hpj, if_neg (show ¬ i = j by omega), if_pos rfl, if_neg (show ¬ c = j by omega), if_neg (show ¬ c = i by omega)]
    have := h1 c hc0 hcn (by omega)
    rw [hcj] at this
    exact this
theorem dn_end {l : List Pl} {n i : Nat} (h : dnI l n i) (hl : ∀ c, 0 < c → c < n → (c - 1) / 2 = i → kw l i ≤ kw l c) : hOrd l n := by
  intro k hk0 hkn
  by_cases e : (k - 1) / 2 = i
  · rw [e]; exact hl k hk0 hkn e
  · exact h.1 k hk0 hkn e
/-- The last one put in front. -/
theorem dn_start {l : List Pl} {n : Nat} (hn : l.length = n + 1) (h : hOrd l (n + 1)) : dnI (swp l 0 n) n 0 := by
  have hK := kw_swp (l := l) (i := 0) (j := n) (by omega) (by omega)
  constructor
  · intro k hk0 hkn hne
    rw [hK, hK, if_neg (show ¬ (k - 1) / 2 = n by omega), if_neg (show ¬ (k - 1) / 2 = 0 from hne), if_neg (show ¬ k = n by omega), if_neg (show ¬ k = 0 by omega)]
    exact h k hk0 (by omega)
  · intro c _ _ _ h0; omega
/-- What a pop gives. -/
theorem pop_law {l l2 : List Pl} {n : Nat} (hn : l.length = n + 1) (h : hOrd l (n + 1)) (hp : l2.Perm l) (hl : l2.getD n dP = l.getD 0 dP) :
    l.Perm (l.getD 0 dP :: l2.take n) ∧ ∀ y ∈ l2.take n, (l.getD 0 dP).w ≤ y.w := by
  have hlen : l2.length = n + 1 := by rw [hp.length_eq, hn]
  have e : l2 = l2.take n ++ [l2.getD n dP] := by
    have h1 := List.take_append_drop n l2
    have h2 : l2.drop n = [l2.getD n dP] := by
      rw [List.drop_eq_getElem_cons (by omega), List.drop_eq_nil_of_le (by omega)]
      simp [List.getD, hlen]
    rw [h2] at h1; exact h1.symm
  constructor
  · have h1 : l.Perm (l2.take n ++ [l2.getD n dP]) := by rw [← e]; exact hp.symm
    rw [hl] at h1
    exact h1.trans (List.perm_append_singleton _ _)
  · intro y hy
    have hy2 : y ∈ l := hp.mem_iff.1 (List.mem_of_mem_take hy)
    obtain ⟨k, hk, rfl⟩ := List.getElem_of_mem hy2
    have := hOrd_min h k (by omega)
    unfold kw at this
    simpa [List.getD, hk] using this
/-- A heap that a swap below n leaves as it was behind n. -/
theorem swp_out {l : List Pl} {i j k : Nat} (hi : i < l.length) (hj : j < l.length) (h1 : k ≠ i) (h2 : k ≠ j) : (swp l i j).getD k dP = l.getD k dP := by
  rw [getD_swp hi hj, if_neg h2, if_neg h1]
end Gm
