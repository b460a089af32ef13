/- The reference's way to read one code point is the model's own. Lists of code points, decoded and encoded. No program in sight. -/
import Derived.Test.YtcchpijadlgagaaDoorTxP
namespace Gm
open Go
def oneZ (l : List UInt8) : Int := if dec1 l = (65533, 1) then -1 else ((dec1 l).1 : Int)
def fin (n p : Int) : Int := if scal p = true ∧ wid p = n then p else -1
theorem fin4 (p : Int) : fin 4 p = if 65536 ≤ p ∧ p ≤ 1114111 then p else -1 := by
  unfold fin; simp only [scal_iff]; unfold wid
  by_cases h : 65536 ≤ p ∧ p ≤ 1114111
  · rw [if_pos h, if_pos]; refine ⟨by omega, ?_⟩; rw [if_neg (by omega), if_neg (by omega), if_neg (by omega)]
  · rw [if_neg h, if_neg]; rintro ⟨h1, h2⟩; (repeat' split at h2) <;> omega
theorem fin3 (p : Int) : fin 3 p = if (2048 ≤ p ∧ p < 55296) ∨ (57343 < p ∧ p < 65536) then p else -1 := by
  unfold fin; simp only [scal_iff]; unfold wid
  by_cases h : (2048 ≤ p ∧ p < 55296) ∨ (57343 < p ∧ p < 65536)
  · rw [if_pos h, if_pos]; refine ⟨by omega, ?_⟩; rw [if_neg (by omega), if_neg (by omega), if_pos (by omega)]
  · rw [if_neg h, if_neg]; rintro ⟨h1, h2⟩; (repeat' split at h2) <;> omega
theorem fin2 (p : Int) : fin 2 p = if 128 ≤ p ∧ p < 2048 then p else -1 := by
  unfold fin; simp only [scal_iff]; unfold wid
  by_cases h : 128 ≤ p ∧ p < 2048
  · rw [if_pos h, if_pos]; refine ⟨by omega, ?_⟩; rw [if_neg (by omega), if_pos (by omega)]
  · rw [if_neg h, if_neg]; rintro ⟨h1, h2⟩; (repeat' split at h2) <;> omega
theorem fin1 (p : Int) (h0 : 0 ≤ p) (h1 : p < 128) : fin 1 p = p := by
  unfold fin; simp only [scal_iff]; unfold wid
  rw [if_pos]; refine ⟨by omega, ?_⟩; rw [if_pos (by omega)]
/-- What the reference's loop still has to do: m bytes more from place k on. -/
def oneGo (l : List UInt8) (n : Int) : Nat → Nat → Int → Int
  | 0, _, p => fin n p
  | m + 1, k, p => if bt l k < 128 ∨ 191 < bt l k then -1 else oneGo l n m (k + 1) (p * 64 + bt l k - 128)
def oneR (l : List UInt8) : Int :=
  if 240 ≤ bt l 0 then (if l.length < 4 then -1 else oneGo l 4 3 1 (bt l 0 - 240))
  else if 224 ≤ bt l 0 then (if l.length < 3 then -1 else oneGo l 3 2 1 (bt l 0 - 224))
  else if 192 ≤ bt l 0 then (if l.length < 2 then -1 else oneGo l 2 1 1 (bt l 0 - 192))
  else if 128 ≤ bt l 0 then -1 else bt l 0
theorem ite_swap {a b : Int} {p : Prop} [Decidable p] (h : p) : (if p then a else b) = a := if_pos h
set_option maxRecDepth 100000 in
set_option maxHeartbeats 4000000 in
theorem num2 (n b0 b1 b2 b3 : Nat) (h0 : 192 ≤ b0) (h0' : b0 < 224) (h1 : b1 < 256) :
    (if n < 2 then (-1 : Int) else if b1 < 128 ∨ 191 < b1 then -1 else fin 2 (((b0 : Int) - 192) * 64 + b1 - 128)) = if Lib.decodeN n b0 b1 b2 b3 = (65533, 1) then -1 else ((Lib.decodeN n b0 b1 b2 b3).1 : Int) := by
  rw [fin2]
  by_cases c : b0 / 32 = 6 ∧ (1 < n ∧ b1 / 64 = 2)
  · rw [if_neg (by omega : ¬ n < 2), if_neg (by omega : ¬ (b1 < 128 ∨ 191 < b1))]
    by_cases d : b0 % 32 * 64 + b1 % 64 ≥ 128
    · have e : Lib.decodeN n b0 b1 b2 b3 = (b0 % 32 * 64 + b1 % 64, 2) := by
        unfold Lib.decodeN; rw [if_neg (by omega), if_pos c, if_pos d]
      rw [e, if_pos (by omega), if_neg (by intro h; have := congrArg Prod.snd h; simp at this)]; simp only; omega
    · have e : Lib.decodeN n b0 b1 b2 b3 = (65533, 1) := by
        unfold Lib.decodeN; rw [if_neg (by omega), if_pos c, if_neg d]
      rw [e, if_neg (by omega), if_pos rfl]
  · have e : Lib.decodeN n b0 b1 b2 b3 = (65533, 1) := by
      unfold Lib.decodeN; rw [if_neg (by omega), if_neg c, if_neg (by omega), if_neg (by omega)]
    rw [e, ite_swap (p := ((65533, 1) : Nat × Nat) = (65533, 1)) rfl]
    by_cases e : n < 2
    · rw [if_pos e]
    · rw [if_neg e, if_pos (by omega)]
set_option maxRecDepth 100000 in
set_option maxHeartbeats 4000000 in
theorem num3 (n b0 b1 b2 b3 : Nat) (h0 : 224 ≤ b0) (h0' : b0 < 240) (h1 : b1 < 256) (h2 : b2 < 256) :
    (if n < 3 then (-1 : Int) else if b1 < 128 ∨ 191 < b1 then -1 else if b2 < 128 ∨ 191 < b2 then -1 else fin 3 ((((b0 : Int) - 224) * 64 + b1 - 128) * 64 + b2 - 128)) = if Lib.decodeN n b0 b1 b2 b3 = (65533, 1) then -1 else ((Lib.decodeN n b0 b1 b2 b3).1 : Int) := by
  rw [fin3]
  by_cases c : b0 / 16 = 14 ∧ (1 < n ∧ b1 / 64 = 2) ∧ (2 < n ∧ b2 / 64 = 2)
  · rw [if_neg (by omega : ¬ n < 3), if_neg (by omega : ¬ (b1 < 128 ∨ 191 < b1)), if_neg (by omega : ¬ (b2 < 128 ∨ 191 < b2))]
    by_cases d : b0 % 16 * 4096 + b1 % 64 * 64 + b2 % 64 ≥ 2048 ∧ (b0 % 16 * 4096 + b1 % 64 * 64 + b2 % 64 < 55296 ∨ (57344 ≤ b0 % 16 * 4096 + b1 % 64 * 64 + b2 % 64 ∧ b0 % 16 * 4096 + b1 % 64 * 64 + b2 % 64 ≤ 1114111))
    · have e : Lib.decodeN n b0 b1 b2 b3 = (b0 % 16 * 4096 + b1 % 64 * 64 + b2 % 64, 3) := by
        unfold Lib.decodeN; rw [if_neg (by omega), if_neg (by omega), if_pos c, if_pos d]
      rw [e, if_pos (by omega), if_neg (by intro h; have := congrArg Prod.snd h; simp at this)]; simp only; omega
    · have e : Lib.decodeN n b0 b1 b2 b3 = (65533, 1) := by
        unfold Lib.decodeN; rw [if_neg (by omega), if_neg (by omega), if_pos c, if_neg d]
      rw [e, if_neg (by omega), if_pos rfl]
  · have e : Lib.decodeN n b0 b1 b2 b3 = (65533, 1) := by
      unfold Lib.decodeN; rw [if_neg (by omega), if_neg (by omega), if_neg c, if_neg (by omega)]
    rw [e, ite_swap (p := ((65533, 1) : Nat × Nat) = (65533, 1)) rfl]
    by_cases e : n < 3
    · rw [if_pos e]
    · rw [if_neg e]
      by_cases e1 : b1 < 128 ∨ 191 < b1
      · rw [if_pos e1]
      · rw [if_neg e1, if_pos (by omega)]
set_option maxRecDepth 100000 in
set_option maxHeartbeats 4000000 in
theorem num4 (n b0 b1 b2 b3 : Nat) (h0 : 240 ≤ b0) (h0' : b0 < 256) (h1 : b1 < 256) (h2 : b2 < 256) (h3 : b3 < 256) :
    (if n < 4 then (-1 : Int) else if b1 < 128 ∨ 191 < b1 then -1 else if b2 < 128 ∨ 191 < b2 then -1 else if b3 < 128 ∨ 191 < b3 then -1 else fin 4 (((((b0 : Int) - 240) * 64 + b1 - 128) * 64 + b2 - 128) * 64 + b3 - 128)) = if Lib.decodeN n b0 b1 b2 b3 = (65533, 1) then -1 else ((Lib.decodeN n b0 b1 b2 b3).1 : Int) := by
  rw [fin4]
  have hd : Lib.decodeN n b0 b1 b2 b3 = if b0 / 8 = 30 ∧ (1 < n ∧ b1 / 64 = 2) ∧ (2 < n ∧ b2 / 64 = 2) ∧ (3 < n ∧ b3 / 64 = 2) then
      (if b0 % 8 * 262144 + b1 % 64 * 4096 + b2 % 64 * 64 + b3 % 64 ≥ 65536 ∧ (b0 % 8 * 262144 + b1 % 64 * 4096 + b2 % 64 * 64 + b3 % 64 < 55296 ∨ (57344 ≤ b0 % 8 * 262144 + b1 % 64 * 4096 + b2 % 64 * 64 + b3 % 64 ∧ b0 % 8 * 262144 + b1 % 64 * 4096 + b2 % 64 * 64 + b3 % 64 ≤ 1114111))
       then (b0 % 8 * 262144 + b1 % 64 * 4096 + b2 % 64 * 64 + b3 % 64, 4) else (65533, 1)) else (65533, 1) := by
    unfold Lib.decodeN
    rw [if_neg (by omega : ¬ b0 < 128), if_neg (by omega : ¬ (b0 / 32 = 6 ∧ (1 < n ∧ b1 / 64 = 2))), if_neg (by omega : ¬ (b0 / 16 = 14 ∧ (1 < n ∧ b1 / 64 = 2) ∧ (2 < n ∧ b2 / 64 = 2)))]
  have hbad : ¬ (b0 / 8 = 30 ∧ (1 < n ∧ b1 / 64 = 2) ∧ (2 < n ∧ b2 / 64 = 2) ∧ (3 < n ∧ b3 / 64 = 2)) → Lib.decodeN n b0 b1 b2 b3 = (65533, 1) := fun h => by rw [hd, if_neg h]
  by_cases e : n < 4
  · rw [if_pos e, hbad (by omega), if_pos rfl]
  · rw [if_neg e]
    by_cases e1 : b1 < 128 ∨ 191 < b1
    · rw [if_pos e1, hbad (by omega), if_pos rfl]
    · rw [if_neg e1]
      by_cases e2 : b2 < 128 ∨ 191 < b2
      · rw [if_pos e2, hbad (by omega), if_pos rfl]
      · rw [if_neg e2]
        by_cases e3 : b3 < 128 ∨ 191 < b3
        · rw [if_pos e3, hbad (by omega), if_pos rfl]
        · rw [if_neg e3]
          obtain ⟨a, rfl⟩ : ∃ a, b0 = 240 + a := ⟨b0 - 240, by omega⟩
          obtain ⟨b, rfl⟩ : ∃ b, b1 = 128 + b := ⟨b1 - 128, by omega⟩
          obtain ⟨c, rfl⟩ : ∃ b, b2 = 128 + b := ⟨b2 - 128, by omega⟩
          obtain ⟨d, rfl⟩ : ∃ b, b3 = 128 + b := ⟨b3 - 128, by omega⟩
          have ez : ((((((240 + a : Nat) : Int) - 240) * 64 + ((128 + b : Nat) : Int) - 128) * 64 + ((128 + c : Nat) : Int) - 128) * 64 + ((128 + d : Nat) : Int) - 128) = ((a * 262144 + b * 4096 + c * 64 + d : Nat) : Int) := by
            omega
          rw [ez]
          clear ez
          by_cases ha : a < 8
          · have m0 : (240 + a) % 8 = a := by omega
            have m1 : (128 + b) % 64 = b := by omega
            have m2 : (128 + c) % 64 = c := by omega
            have m3 : (128 + d) % 64 = d := by omega
            rw [m0, m1, m2, m3, if_pos (by omega)] at hd
            clear m0 m1 m2 m3 hbad
            obtain ⟨p, hp⟩ : ∃ p, p = a * 262144 + b * 4096 + c * 64 + d := ⟨_, rfl⟩
            rw [← hp] at hd ⊢
            rw [hd]
            clear hd hp
            by_cases dd : p ≥ 65536 ∧ (p < 55296 ∨ (57344 ≤ p ∧ p ≤ 1114111))
            · rw [if_pos dd, if_pos (by omega), if_neg (by intro h; have := congrArg Prod.snd h; simp at this)]
            · rw [if_neg dd, if_neg (by omega), if_pos rfl]
          · rw [hbad (by omega), if_neg (by omega), if_pos rfl]
theorem oneR_eq {l : List UInt8} (hl : l ≠ []) : oneR l = oneZ l := by
  have hl' : 1 ≤ l.length := by
    cases l with
    | nil => exact absurd rfl hl
    | cons _ _ => simp
  have h0 := bt_lt l 0
  have h1 := bt_lt l 1
  have h2 := bt_lt l 2
  have h3 := bt_lt l 3
  unfold oneR oneZ dec1
  by_cases c4 : 240 ≤ bt l 0
  · rw [if_pos c4]; exact num4 _ _ _ _ _ c4 h0 h1 h2 h3
  · rw [if_neg c4]
    by_cases c3 : 224 ≤ bt l 0
    · rw [if_pos c3]; exact num3 _ _ _ _ _ c3 (by omega) h1 h2
    · rw [if_neg c3]
      by_cases c2 : 192 ≤ bt l 0
      · rw [if_pos c2]; exact num2 _ _ _ _ _ c2 (by omega) h1
      · rw [if_neg c2]
        by_cases c1 : 128 ≤ bt l 0
        · rw [if_pos c1]
          have : Lib.decodeN l.length (bt l 0) (bt l 1) (bt l 2) (bt l 3) = (65533, 1) := by
            unfold Lib.decodeN
            rw [if_neg (by omega), if_neg (by omega), if_neg (by omega), if_neg (by omega)]
          rw [this, if_pos rfl]
        · rw [if_neg c1]
          have : Lib.decodeN l.length (bt l 0) (bt l 1) (bt l 2) (bt l 3) = (bt l 0, 1) := by
            unfold Lib.decodeN
            rw [if_pos (by omega)]
          rw [this, if_neg (by intro h; have := congrArg Prod.fst h; simp at this; omega)]
end Gm
