/- Texts and code points as plain data: decoding, encoding, classes. No program in sight. -/
import Derived.Lib.DecodeN
import Derived.Lib.RuneBytes
namespace Gm
open Go

def bt (l : List UInt8) (k : Nat) : Nat := (l.getD k 0).toNat
theorem bt_lt (l : List UInt8) (k : Nat) : bt l k < 256 := UInt8.toNat_lt _
theorem bt_drop (l : List UInt8) (i k : Nat) : bt (l.drop i) k = bt l (i + k) := by simp [bt, List.getD]
theorem bt_get (s : ByteArray) (i : Nat) (h : i < s.size) : s[i].toNat = bt s.data.toList i := by
  have h' : i < s.data.toList.length := by simpa using h
  simp only [bt, List.getD, List.getElem?_eq_getElem h', Option.getD_some]
  rfl
theorem bt_get! (s : ByteArray) (i : Nat) : (s.get! i).toNat = bt s.data.toList i := by
  cases s with
  | mk d => 
    rcases Nat.lt_or_ge i d.size with h | h
    · simp [ByteArray.get!, bt, List.getD, h]
    · simp [ByteArray.get!, bt, List.getD, h]
      rfl
/-- What stands at the head of a list of bytes: the code point and its width; (65533, 1): no valid one. -/
def dec1 (l : List UInt8) : Nat × Nat := Lib.decodeN l.length (bt l 0) (bt l 1) (bt l 2) (bt l 3)
theorem decode_drop (s : ByteArray) (i : Nat) : Utf8.decode s i = dec1 (s.data.toList.drop i) := by
  rw [Lib.decode_at, dec1]
  simp only [bt_get!, bt_drop, List.length_drop, Nat.add_zero]
  have : s.data.toList.length = s.size := by simp
  rw [this]

def scal (p : Int) : Bool := decide (0 ≤ p ∧ p < 55296) || decide (57343 < p ∧ p ≤ 1114111)
theorem scal_iff {p : Int} : scal p = true ↔ (0 ≤ p ∧ p < 55296) ∨ (57343 < p ∧ p ≤ 1114111) := by simp [scal]
theorem scal_not {p : Int} : scal p = false ↔ ¬ ((0 ≤ p ∧ p < 55296) ∨ (57343 < p ∧ p ≤ 1114111)) := by rw [← scal_iff]; simp
def wid (p : Int) : Int := if p < 128 then 1 else if p < 2048 then 2 else if p < 65536 then 3 else 4
theorem wid_bd (p : Int) : 1 ≤ wid p ∧ wid p ≤ 4 := by unfold wid; repeat' split
                                                       all_goals omega
def enc1 (p : Int) : List UInt8 := Lib.encodeRune p
theorem enc1_len {p : Int} (h : scal p = true) : ((enc1 p).length : Int) = wid p := by
  rw [scal_iff] at h
  unfold enc1 Lib.encodeRune wid
  rw [List.length_map]
  by_cases h1 : p < 128
  · rw [if_pos h1, Lib.encodeRuneZ_one (by omega) (by omega)]; rfl
  · rw [if_neg h1]
    by_cases h2 : p < 2048
    · rw [if_pos h2, Lib.encodeRuneZ_two (by omega) (by omega)]; rfl
    · rw [if_neg h2]
      by_cases h3 : p < 65536
      · rw [if_pos h3, Lib.encodeRuneZ_three (by omega)]; rfl
      · rw [if_neg h3, Lib.encodeRuneZ_four (by omega) (by omega)]; rfl
def ub (x : Int) : UInt8 := x.toNat.toUInt8
theorem ub_nat {x : Int} (_h0 : 0 ≤ x) (h1 : x < 256) : (ub x).toNat = x.toNat := by
  unfold ub; simp; omega
theorem ub_of (b : UInt8) {x : Int} (h : x = b.toNat) : ub x = b := by
  subst h; unfold ub
  apply UInt8.toNat_inj.1
  have := b.toNat_lt
  simp

/-- What is encoded is decoded. -/
theorem dec1_enc1 {p : Int} (h : scal p = true) (t : List UInt8) : dec1 (enc1 p ++ t) = (p.toNat, (enc1 p).length) := by
  rw [scal_iff] at h
  unfold enc1 Lib.encodeRune
  by_cases h1 : p < 128
  · rw [Lib.encodeRuneZ_one (by omega) (by omega)]
    have e : (ub p).toNat = p.toNat := ub_nat (by omega) (by omega)
    simp only [List.map_cons, List.map_nil, List.cons_append, List.nil_append, List.length_cons, List.length_nil, dec1, bt, List.getD_cons_zero]
    change Lib.decodeN _ (ub p).toNat _ _ _ = _
    rw [e, Lib.decodeN, if_pos (by omega)]
  · by_cases h2 : p < 2048
    · rw [Lib.encodeRuneZ_two (by omega) (by omega)]
      have e0 : (ub (192 + p / 64)).toNat = (192 + p / 64).toNat := ub_nat (by omega) (by omega)
      have e1 : (ub (128 + p % 64)).toNat = (128 + p % 64).toNat := ub_nat (by omega) (by omega)
      simp only [List.map_cons, List.map_nil, List.cons_append, List.nil_append, List.length_cons, List.length_nil, dec1, bt, List.getD_cons_zero, List.getD_cons_succ]
      change Lib.decodeN _ (ub (192 + p / 64)).toNat (ub (128 + p % 64)).toNat _ _ = _
      rw [e0, e1, Lib.decodeN, if_neg (by omega), if_pos (by omega), if_pos (by omega)]
      apply Prod.ext <;> simp only <;> omega
    · by_cases h3 : p < 65536
      · rw [Lib.encodeRuneZ_three (by omega)]
        have e0 : (ub (224 + p / 4096)).toNat = (224 + p / 4096).toNat := ub_nat (by omega) (by omega)
        have e1 : (ub (128 + p / 64 % 64)).toNat = (128 + p / 64 % 64).toNat := ub_nat (by omega) (by omega)
        have e2 : (ub (128 + p % 64)).toNat = (128 + p % 64).toNat := ub_nat (by omega) (by omega)
        simp only [List.map_cons, List.map_nil, List.cons_append, List.nil_append, List.length_cons, List.length_nil, dec1, bt, List.getD_cons_zero, List.getD_cons_succ]
        change Lib.decodeN _ (ub (224 + p / 4096)).toNat (ub (128 + p / 64 % 64)).toNat (ub (128 + p % 64)).toNat _ = _
        rw [e0, e1, e2, Lib.decodeN, if_neg (by omega), if_neg (by omega), if_pos (by omega), if_pos (by omega)]
        apply Prod.ext <;> simp only <;> omega
      · rw [Lib.encodeRuneZ_four (by omega) (by omega)]
        have e0 : (ub (240 + p / 262144)).toNat = (240 + p / 262144).toNat := ub_nat (by omega) (by omega)
        have e1 : (ub (128 + p / 4096 % 64)).toNat = (128 + p / 4096 % 64).toNat := ub_nat (by omega) (by omega)
        have e2 : (ub (128 + p / 64 % 64)).toNat = (128 + p / 64 % 64).toNat := ub_nat (by omega) (by omega)
        have e3 : (ub (128 + p % 64)).toNat = (128 + p % 64).toNat := ub_nat (by omega) (by omega)
        simp only [List.map_cons, List.map_nil, List.cons_append, List.nil_append, List.length_cons, List.length_nil, dec1, bt, List.getD_cons_zero, List.getD_cons_succ]
        change Lib.decodeN _ (ub (240 + p / 262144)).toNat (ub (128 + p / 4096 % 64)).toNat (ub (128 + p / 64 % 64)).toNat (ub (128 + p % 64)).toNat = _
        rw [e0, e1, e2, e3, Lib.decodeN, if_neg (by omega), if_neg (by omega), if_neg (by omega), if_pos (by omega), if_pos (by omega)]
        apply Prod.ext <;> simp only <;> omega

theorem bytes_two {b0 b1 : UInt8} {p : Int} (hp : 128 ≤ p ∧ p < 2048) (h0 : 192 + p / 64 = b0.toNat) (h1 : 128 + p % 64 = b1.toNat) : enc1 p = [b0, b1] := by
  unfold enc1 Lib.encodeRune
  rw [Lib.encodeRuneZ_two (by omega) (by omega)]
  have e0 := ub_of b0 h0; have e1 := ub_of b1 h1
  change [ub (192 + p / 64), ub (128 + p % 64)] = _
  rw [e0, e1]
theorem bytes_three {b0 b1 b2 : UInt8} {p : Int} (hp : (2048 ≤ p ∧ p < 55296) ∨ (57343 < p ∧ p ≤ 65535)) (h0 : 224 + p / 4096 = b0.toNat) (h1 : 128 + p / 64 % 64 = b1.toNat) (h2 : 128 + p % 64 = b2.toNat) : enc1 p = [b0, b1, b2] := by
  unfold enc1 Lib.encodeRune
  rw [Lib.encodeRuneZ_three hp]
  have e0 := ub_of b0 h0; have e1 := ub_of b1 h1; have e2 := ub_of b2 h2
  change [ub (224 + p / 4096), ub (128 + p / 64 % 64), ub (128 + p % 64)] = _
  rw [e0, e1, e2]
theorem bytes_four {b0 b1 b2 b3 : UInt8} {p : Int} (hp : 65536 ≤ p ∧ p ≤ 1114111) (h0 : 240 + p / 262144 = b0.toNat) (h1 : 128 + p / 4096 % 64 = b1.toNat) (h2 : 128 + p / 64 % 64 = b2.toNat) (h3 : 128 + p % 64 = b3.toNat) : enc1 p = [b0, b1, b2, b3] := by
  unfold enc1 Lib.encodeRune
  rw [Lib.encodeRuneZ_four hp.1 hp.2]
  have e0 := ub_of b0 h0; have e1 := ub_of b1 h1; have e2 := ub_of b2 h2; have e3 := ub_of b3 h3
  change [ub (240 + p / 262144), ub (128 + p / 4096 % 64), ub (128 + p / 64 % 64), ub (128 + p % 64)] = _
  rw [e0, e1, e2, e3]
theorem bytes_one {b0 : UInt8} {p : Int} (hp : 0 ≤ p ∧ p < 128) (h0 : p = b0.toNat) : enc1 p = [b0] := by
  unfold enc1 Lib.encodeRune
  rw [Lib.encodeRuneZ_one (by omega) (by omega)]
  exact congrArg (fun x => [x]) (ub_of b0 h0)

theorem more1 {b0 : UInt8} {l0 : List UInt8} (h : 1 < (b0 :: l0).length) : ∃ b t, l0 = b :: t := by
  match l0, h with
  | [], h => simp at h
  | b :: t, _ => exact ⟨b, t, rfl⟩
theorem more2 {b0 : UInt8} {l0 : List UInt8} (h : 2 < (b0 :: l0).length) : ∃ b c t, l0 = b :: c :: t := by
  match l0, h with
  | [], h => simp at h
  | [b], h => simp at h
  | b :: c :: t, _ => exact ⟨b, c, t, rfl⟩
theorem more3 {b0 : UInt8} {l0 : List UInt8} (h : 3 < (b0 :: l0).length) : ∃ b c d t, l0 = b :: c :: d :: t := by
  match l0, h with
  | [], h => simp at h
  | [b], h => simp at h
  | [b, c], h => simp at h
  | b :: c :: d :: t, _ => exact ⟨b, c, d, t, rfl⟩
set_option maxRecDepth 100000 in
theorem four_case {b0 b1 b2 b3 : UInt8} (l1 : List UInt8) (h0 : 240 ≤ b0.toNat ∧ b0.toNat < 248) (h1 : 128 ≤ b1.toNat ∧ b1.toNat < 192) (h2 : 128 ≤ b2.toNat ∧ b2.toNat < 192) (h3 : 128 ≤ b3.toNat ∧ b3.toNat < 192) {p : Nat}
    (hc : p ≥ 65536 ∧ (p < 55296 ∨ 57344 ≤ p ∧ p ≤ 1114111)) (hp : p = b0.toNat % 8 * 262144 + b1.toNat % 64 * 4096 + b2.toNat % 64 * 64 + b3.toNat % 64) :
    scal (p : Int) = true ∧ b0 :: b1 :: b2 :: b3 :: l1 = enc1 (p : Int) ++ l1 ∧ ((4 : Nat) : Int) = wid (p : Int) := by
  obtain ⟨a, ha⟩ : ∃ a, b0.toNat = 240 + a := ⟨b0.toNat - 240, by omega⟩
  obtain ⟨b, hb⟩ : ∃ a, b1.toNat = 128 + a := ⟨b1.toNat - 128, by omega⟩
  obtain ⟨c, hcc⟩ : ∃ a, b2.toNat = 128 + a := ⟨b2.toNat - 128, by omega⟩
  obtain ⟨d, hd⟩ : ∃ a, b3.toNat = 128 + a := ⟨b3.toNat - 128, by omega⟩
  have m0 : b0.toNat % 8 = a := by clear hp; omega
  have m1 : b1.toNat % 64 = b := by clear hp; omega
  have m2 : b2.toNat % 64 = c := by clear hp; omega
  have m3 : b3.toNat % 64 = d := by clear hp; omega
  rw [m0, m1, m2, m3] at hp
  clear m0 m1 m2 m3
  refine ⟨scal_iff.2 (by omega), ?_, ?_⟩
  · have q1 : (p : Int) / 262144 = a := by omega
    have q2 : (p : Int) / 4096 % 64 = b := by omega
    have q3 : (p : Int) / 64 % 64 = c := by omega
    have q4 : (p : Int) % 64 = d := by omega
    rw [bytes_four (p := (p : Int)) (b0 := b0) (b1 := b1) (b2 := b2) (b3 := b3) ⟨by omega, by omega⟩ (by rw [q1, ha]; rfl) (by rw [q2, hb]; rfl) (by rw [q3, hcc]; rfl) (by rw [q4, hd]; rfl)]
    rfl
  · have e1 : ¬ (p : Int) < 128 := by omega
    have e2 : ¬ (p : Int) < 2048 := by omega
    have e3 : ¬ (p : Int) < 65536 := by omega
    unfold wid; rw [if_neg e1, if_neg e2, if_neg e3]; rfl

set_option maxRecDepth 100000 in
set_option maxHeartbeats 1000000 in
/-- What is decoded is a code point that a text can have, and stands there encoded. -/
theorem enc1_dec1 {l : List UInt8} (hl : l ≠ []) (h : dec1 l ≠ (65533, 1)) : scal (dec1 l).1 = true ∧ l = enc1 (dec1 l).1 ++ l.drop (dec1 l).2 ∧ ((dec1 l).2 : Int) = wid (dec1 l).1 := by
  obtain ⟨b0, l0, rfl⟩ : ∃ b t, l = b :: t := by
    cases l with
    | nil => exact absurd rfl hl
    | cons b t => exact ⟨b, t, rfl⟩
  clear hl
  have hb0 := b0.toNat_lt
  obtain ⟨d, hd⟩ : ∃ d, dec1 (b0 :: l0) = d := ⟨_, rfl⟩
  have hd' := hd
  rw [hd] at h ⊢
  unfold dec1 Lib.decodeN at hd
  have z0 : bt (b0 :: l0) 0 = b0.toNat := rfl
  rw [z0] at hd
  by_cases c1 : b0.toNat < 128
  · rw [if_pos c1] at hd
    subst hd
    refine ⟨scal_iff.2 (by dsimp only; omega), ?_, ?_⟩
    · rw [bytes_one (b0 := b0) (by omega) rfl]; rfl
    · simp only [wid]; rw [if_pos (by omega)]; rfl
  · rw [if_neg c1] at hd
    by_cases c2 : b0.toNat / 32 = 6 ∧ (1 < (b0 :: l0).length ∧ bt (b0 :: l0) 1 / 64 = 2)
    · rw [if_pos c2] at hd
      obtain ⟨b1, l1, rfl⟩ := more1 c2.2.1
      have hb1 := b1.toNat_lt
      have z1 : bt (b0 :: b1 :: l1) 1 = b1.toNat := rfl
      rw [z1] at hd c2
      split at hd
      · subst hd
        refine ⟨scal_iff.2 (by dsimp only; omega), ?_, ?_⟩
        · simp only; rw [bytes_two (b0 := b0) (b1 := b1) (by omega) (by omega) (by omega)]; rfl
        · simp only [wid]; rw [if_neg (by omega), if_pos (by omega)]; rfl
      · exact absurd hd.symm h
    · rw [if_neg c2] at hd
      by_cases c3 : b0.toNat / 16 = 14 ∧ (1 < (b0 :: l0).length ∧ bt (b0 :: l0) 1 / 64 = 2) ∧ (2 < (b0 :: l0).length ∧ bt (b0 :: l0) 2 / 64 = 2)
      · rw [if_pos c3] at hd
        obtain ⟨b1, b2, l1, rfl⟩ := more2 c3.2.2.1
        have hb1 := b1.toNat_lt
        have hb2 := b2.toNat_lt
        have z1 : bt (b0 :: b1 :: b2 :: l1) 1 = b1.toNat := rfl
        have z2 : bt (b0 :: b1 :: b2 :: l1) 2 = b2.toNat := rfl
        rw [z1, z2] at hd c3
        clear c2
        split at hd
        · subst hd
          refine ⟨scal_iff.2 (by dsimp only; omega), ?_, ?_⟩
          · simp only; rw [bytes_three (b0 := b0) (b1 := b1) (b2 := b2) (by omega) (by omega) (by omega) (by omega)]; rfl
          · simp only [wid]; rw [if_neg (by omega), if_neg (by omega), if_pos (by omega)]; rfl
        · exact absurd hd.symm h
      · rw [if_neg c3] at hd
        by_cases c4 : b0.toNat / 8 = 30 ∧ (1 < (b0 :: l0).length ∧ bt (b0 :: l0) 1 / 64 = 2) ∧ (2 < (b0 :: l0).length ∧ bt (b0 :: l0) 2 / 64 = 2) ∧ (3 < (b0 :: l0).length ∧ bt (b0 :: l0) 3 / 64 = 2)
        · rw [if_pos c4] at hd
          obtain ⟨b1, b2, b3, l1, rfl⟩ := more3 c4.2.2.2.1
          have hb1 := b1.toNat_lt
          have hb2 := b2.toNat_lt
          have hb3 := b3.toNat_lt
          have z1 : bt (b0 :: b1 :: b2 :: b3 :: l1) 1 = b1.toNat := rfl
          have z2 : bt (b0 :: b1 :: b2 :: b3 :: l1) 2 = b2.toNat := rfl
          have z3 : bt (b0 :: b1 :: b2 :: b3 :: l1) 3 = b3.toNat := rfl
          rw [z1, z2, z3] at hd c4
          clear c2 c3
          clear hd' z0 z1 z2 z3 c1
          split at hd
          · rename_i hc
            have ha : 240 ≤ b0.toNat ∧ b0.toNat < 248 := by omega
            have h1 : 128 ≤ b1.toNat ∧ b1.toNat < 192 := by omega
            have h2 : 128 ≤ b2.toNat ∧ b2.toNat < 192 := by omega
            have h3 : 128 ≤ b3.toNat ∧ b3.toNat < 192 := by omega
            subst hd
            exact four_case l1 ha h1 h2 h3 hc rfl
          · exact absurd hd.symm h
        · rw [if_neg c4] at hd
          exact absurd hd.symm h
theorem dec1_pos (l : List UInt8) : 1 ≤ (dec1 l).2 := by
  unfold dec1 Lib.decodeN
  repeat' split
  all_goals simp
end Gm
