/- Lists of code points, decoded. No program in sight. -/
import Derived.Test.YtcchpijadlgagaaDoorTxP2
namespace Gm
open Go
/-- What is still to be decoded, from byte i on, behind what has been read; f: so many rounds at the most. -/
def decGo (l : List UInt8) : Nat → Nat → List Int → (Int × Int) × List Int
  | 0, _, acc => ((0, 0), acc)
  | f + 1, i, acc => if i < l.length then (if dec1 (l.drop i) = (65533, 1) then ((5, (i : Int)), []) else decGo l f (i + (dec1 (l.drop i)).2) (acc ++ [((dec1 (l.drop i)).1 : Int)])) else ((0, 0), acc)
def decR (l : List UInt8) : (Int × Int) × List Int := if 4000 < l.length then ((1, -1), []) else decGo l (l.length + 1) 0 []
theorem decGo_end {l : List UInt8} {f i : Nat} {acc : List Int} (h : ¬ i < l.length) : decGo l f i acc = ((0, 0), acc) := by
  cases f with
  | zero => rfl
  | succ f => unfold decGo; rw [if_neg h]
theorem decGo_bad {l : List UInt8} {f i : Nat} {acc : List Int} (h : i < l.length) (hd : dec1 (l.drop i) = (65533, 1)) : decGo l (f + 1) i acc = ((5, (i : Int)), []) := by
  rw [decGo, if_pos h, if_pos hd]
theorem decGo_ok {l : List UInt8} {f i : Nat} {acc : List Int} (h : i < l.length) (hd : dec1 (l.drop i) ≠ (65533, 1)) : decGo l (f + 1) i acc = decGo l f (i + (dec1 (l.drop i)).2) (acc ++ [((dec1 (l.drop i)).1 : Int)]) := by
  rw [decGo, if_pos h, if_neg hd]
theorem drop_ne {l : List UInt8} {i : Nat} (h : i < l.length) : l.drop i ≠ [] := by
  intro e; have := congrArg List.length e; simp at this; omega
theorem oneZ_neg {l : List UInt8} (h : oneZ l < 0) : dec1 l = (65533, 1) := by
  unfold oneZ at h
  split at h
  · assumption
  · omega
theorem oneZ_pos {l : List UInt8} (h : ¬ oneZ l < 0) : dec1 l ≠ (65533, 1) ∧ oneZ l = ((dec1 l).1 : Int) := by
  unfold oneZ at h ⊢
  split at h
  · omega
  · rename_i h1; exact ⟨h1, if_neg h1⟩
/-- One step where a valid code point stands. -/
theorem dec_step {l : List UInt8} {i : Nat} (h : i < l.length) (hd : dec1 (l.drop i) ≠ (65533, 1)) : scal (dec1 (l.drop i)).1 = true ∧ ((dec1 (l.drop i)).2 : Int) = wid (dec1 (l.drop i)).1 ∧ l.drop i = enc1 (dec1 (l.drop i)).1 ++ l.drop (i + (dec1 (l.drop i)).2) := by
  obtain ⟨h1, h2, h3⟩ := enc1_dec1 (drop_ne h) hd
  refine ⟨h1, h3, ?_⟩
  have e : (l.drop i).drop (dec1 (l.drop i)).2 = l.drop (i + (dec1 (l.drop i)).2) := by rw [List.drop_drop]
  rw [← e]
  exact h2
def encL (ps : List Int) : List UInt8 := ps.flatMap enc1
theorem encL_append (a b : List Int) : encL (a ++ b) = encL a ++ encL b := by simp [encL]
theorem encL_cons (p : Int) (b : List Int) : encL (p :: b) = enc1 p ++ encL b := rfl
def allS (ps : List Int) : Prop := ∀ p ∈ ps, scal p = true
theorem enc1_pos (p : Int) : 1 ≤ (enc1 p).length := by
  have := (Lib.encodeRuneZ_length p).1
  simpa [enc1, Lib.encodeRune] using this
theorem encL_len_le (ps : List Int) : ps.length ≤ (encL ps).length := by
  induction ps with
  | nil => simp [encL]
  | cons p ps ih => rw [encL_cons, List.length_append, List.length_cons]; have := enc1_pos p; omega
/-- What is read of a text is what was encoded. -/
theorem decGo_enc {l : List UInt8} : ∀ (ps : List Int) (f i : Nat) (acc : List Int), l.drop i = encL ps → allS ps → l.length < f + i → decGo l f i acc = ((0, 0), acc ++ ps)
  | [], f, i, acc, h, _, _ => by
    rw [decGo_end]
    · simp
    · intro hi; exact drop_ne hi h
  | p :: ps, f, i, acc, h, ha, hf => by
    have hs := ha p (by simp)
    rw [encL_cons] at h
    have hi : i < l.length := by
      rcases Nat.lt_or_ge i l.length with h1 | h1
      · exact h1
      · rw [List.drop_eq_nil_of_le h1] at h
        have := enc1_pos p
        have e := congrArg List.length h
        rw [List.length_append] at e
        simp at e; omega
    obtain ⟨f', rfl⟩ : ∃ f', f = f' + 1 := ⟨f - 1, by omega⟩
    have hd : dec1 (l.drop i) = (p.toNat, (enc1 p).length) := by rw [h]; exact dec1_enc1 hs _
    have hp0 : 0 ≤ p := by have := scal_iff.1 hs; omega
    have hne : dec1 (l.drop i) ≠ (65533, 1) := by
      rw [hd]; intro e
      have e1 := congrArg Prod.fst e
      have e2 := congrArg Prod.snd e
      simp only at e1 e2
      have := enc1_len hs
      unfold wid at this
      (repeat' split at this) <;> omega
    rw [decGo_ok hi hne, hd]
    have hdr : l.drop (i + (enc1 p).length) = encL ps := by
      rw [← List.drop_drop, h, List.drop_left]
    have ih := decGo_enc ps f' (i + (enc1 p).length) (acc ++ [((p.toNat : Nat) : Int)]) hdr (fun q hq => ha q (by simp [hq])) (by have := enc1_pos p; omega)
    rw [ih]
    have : ((p.toNat : Nat) : Int) = p := by omega
    rw [this]; simp
/-- What is decoded, is encoded as it was. -/
theorem decGo_some {l : List UInt8} : ∀ (f i : Nat) (acc r : List Int), l.length < f + i → decGo l f i acc = ((0, 0), r) → ∃ ps, r = acc ++ ps ∧ allS ps ∧ l.drop i = encL ps
  | 0, i, acc, r, hf, h => by
    unfold decGo at h
    refine ⟨[], by simpa using (congrArg Prod.snd h).symm, fun _ h => by simp at h, ?_⟩
    rw [List.drop_eq_nil_of_le (by omega)]; rfl
  | f + 1, i, acc, r, hf, h => by
    by_cases hi : i < l.length
    · by_cases hd : dec1 (l.drop i) = (65533, 1)
      · rw [decGo_bad hi hd] at h
        have := congrArg (fun x => x.1.1) h
        simp at this
      · rw [decGo_ok hi hd] at h
        obtain ⟨ps, h1, h2, h3⟩ := decGo_some f _ _ r (by have := dec1_pos (l.drop i); omega) h
        obtain ⟨g1, g2, g3⟩ := dec_step hi hd
        refine ⟨((dec1 (l.drop i)).1 : Int) :: ps, by rw [h1]; simp, ?_, ?_⟩
        · intro p hp
          rcases List.mem_cons.1 hp with rfl | hp
          · exact g1
          · exact h2 p hp
        · exact g3.trans (by rw [encL_cons, ← h3])
    · rw [decGo_end hi] at h
      refine ⟨[], by simpa using (congrArg Prod.snd h).symm, fun _ h => by simp at h, ?_⟩
      rw [List.drop_eq_nil_of_le (by omega)]; rfl
theorem decGo_code {l : List UInt8} : ∀ (f i : Nat) (acc : List Int), (decGo l f i acc).1 = (0, 0) ∨ ((decGo l f i acc).1.1 = 5 ∧ (decGo l f i acc).2 = [])
  | 0, i, acc => .inl rfl
  | f + 1, i, acc => by
    by_cases hi : i < l.length
    · by_cases hd : dec1 (l.drop i) = (65533, 1)
      · rw [decGo_bad hi hd]; exact .inr ⟨rfl, rfl⟩
      · rw [decGo_ok hi hd]; exact decGo_code f _ _
    · rw [decGo_end hi]; exact .inl rfl
theorem decR_ok {l : List UInt8} {ps : List Int} (h : decR l = ((0, 0), ps)) : allS ps ∧ l = encL ps ∧ l.length ≤ 4000 := by
  unfold decR at h
  split at h
  · have := congrArg (fun x => x.1.1) h; simp at this
  · obtain ⟨qs, h1, h2, h3⟩ := decGo_some _ _ _ _ (by omega) h
    simp only [List.nil_append] at h1
    subst h1
    exact ⟨h2, by simpa using h3, by omega⟩
theorem decR_enc {ps : List Int} (h : allS ps) (hl : (encL ps).length ≤ 4000) : decR (encL ps) = ((0, 0), ps) := by
  unfold decR
  rw [if_neg (by omega), decGo_enc ps _ 0 [] (by simp) h (by omega)]
  simp
theorem decR_cases (l : List UInt8) : (∃ ps, decR l = ((0, 0), ps)) ∨ ((decR l).1.1 ≠ 0 ∧ (decR l).2 = []) := by
  unfold decR
  split
  · exact .inr ⟨by simp, rfl⟩
  · rcases decGo_code (l := l) (l.length + 1) 0 [] with h | ⟨h, h'⟩
    · exact .inl ⟨_, Prod.ext h rfl⟩
    · exact .inr ⟨by omega, h'⟩
end Gm
