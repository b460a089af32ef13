/- Tokens of package glosswrightequal; token lists as values; Cut and Tokens by one contract. -/
import Derived.Test.YtcchpijadlgagaaDoorTkT
namespace Gm
open Go Go.RowKit
theorem dropT_eq_iff {α : Type} [DecidableEq α] {l k : List α} {d : α} {j : Nat} (h1 : j < l.length) (h2 : l.length = k.length) :
    decide (l.drop j = k.drop j) = if l.getD j d = k.getD j d then decide (l.drop (j + 1) = k.drop (j + 1)) else false := by
  have e1 : l.getD j d = l[j] := by simp [h1]
  have e2 : k.getD j d = k[j]'(by omega) := by simp [show j < k.length by omega]
  have e3 : l.drop j = l[j] :: l.drop (j + 1) := List.drop_eq_getElem_cons h1
  have e4 : k.drop j = k[j]'(by omega) :: k.drop (j + 1) := List.drop_eq_getElem_cons (show j < k.length by omega)
  rw [e1, e2, e3, e4]
  by_cases h : l[j] = k[j]'(by omega)
  · rw [if_pos h, h]; simp only [List.cons.injEq, true_and]
  · rw [if_neg h]; simp only [List.cons.injEq, h, false_and, decide_false]
theorem Rd.at4 {w : World} {B n : Nat} {A : Option Addr} {f : Nat → Nat → Value} (h : Rd w B 4 A n f) {k : Nat} (hk : k < n) :
    ∃ b off, A = some ⟨b, off, none⟩ ∧ b < B ∧ w.cell? ⟨b, off + k * 4, none⟩ = some (f k 0) ∧ w.cell? ⟨b, off + k * 4 + 1, none⟩ = some (f k 1) ∧ w.cell? ⟨b, off + k * 4 + 2, none⟩ = some (f k 2) ∧ w.cell? ⟨b, off + k * 4 + 3, none⟩ = some (f k 3) := by
  obtain ⟨b, off, hA, hlt, hc⟩ := h (by omega)
  exact ⟨b, off, hA, hlt, by simpa using hc k 0 hk (by omega), by simpa [Nat.add_assoc] using hc k 1 hk (by omega), by simpa [Nat.add_assoc] using hc k 2 hk (by omega), by simpa [Nat.add_assoc] using hc k 3 hk (by omega)⟩
/-- The list of tokens l, as a value; it lies below block B. -/
def ToksAt (w : World) (B : Nat) (v : Value) (l : List Tok) : Prop :=
  ∃ A n c, v = .slice A n c ∧ Hid (l.length = n) ∧ n ≤ c ∧ n ≤ big ∧ Rd w B 4 A n (tokCell l)
theorem ToksAt.below {w w' : World} {B B' : Nat} {v : Value} {l : List Tok} (h : ToksAt w B v l) (hb : Below B' w w') (hB : B ≤ B') : ToksAt w' B v l := by
  obtain ⟨A, n, c, h1, h2, h3, h4, h5⟩ := h
  exact ⟨A, n, c, h1, h2, h3, h4, h5.below hb hB⟩
theorem ToksAt.mono {w : World} {B B' : Nat} {v : Value} {l : List Tok} (h : ToksAt w B v l) (hB : B ≤ B') : ToksAt w B' v l := by
  obtain ⟨A, n, c, h1, h2, h3, h4, h5⟩ := h
  exact ⟨A, n, c, h1, h2, h3, h4, h5.mono hB⟩
theorem ToksAt.of_own {w : World} {base n : Nat} {e : TypeId} {v : Value} {l : List Tok} (h : w.ownsRow base e 4 v n (tokRow l)) (hn : l.length = n) (hb : n ≤ big) : ToksAt w w.heap.size v l := by
  obtain ⟨A, c, rfl, hc, _⟩ := own_value h
  exact ⟨A, n, c, rfl, hide hn, hc, hb, Rd.of_own h (by subst hn; exact tokRow_at l)⟩
theorem ToksAt.of_blk {w : World} {g : Nat} {t : TypeId} {cs : Array Value} {l : List Tok} {n : Nat} (h : Blk w g t cs) (hcs : cs.toList = tokRow l) (hn : l.length = n) (hb : n ≤ big) : ToksAt w (g + 1) (.slice (some ⟨g, 0, none⟩) n n) l := by
  subst hn
  refine ⟨_, _, _, rfl, hide rfl, Nat.le_refl _, hb, fun _ => ⟨g, 0, rfl, by omega, fun i j hi hj => ?_⟩⟩
  have h1 := tokRow_at l i j hi hj
  rw [h.cell, ← Array.getElem?_toList, hcs, Nat.zero_add, h1]
theorem tok_at {w : World} {B n : Nat} {A : Option Addr} {l : List Tok} (h : Rd w B 4 A n (tokCell l)) {k : Nat} (hk : k < n) :
    ∃ b off a, A = some ⟨b, off, none⟩ ∧ b < B ∧ w.cell? ⟨b, off + k * 4, none⟩ = some (.int .i64 (Tok.k a)) ∧ w.cell? ⟨b, off + k * 4 + 1, none⟩ = some (.int .i64 (Tok.s a)) ∧
      w.cell? ⟨b, off + k * 4 + 2, none⟩ = some (.int .i64 (Tok.e a)) ∧ w.cell? ⟨b, off + k * 4 + 3, none⟩ = some (.string ⟨(Tok.t a).toArray⟩) ∧ Hid (l.getD k dT = a) := by
  obtain ⟨b, off, h1, h2, c0, c1, c2, c3⟩ := h.at4 hk
  exact ⟨b, off, l.getD k dT, h1, h2, c0, c1, c2, c3, hide rfl⟩
def tokEqB (a b : Tok) : Bool := decide (a = b)
end Gm
namespace Go.Proofs.YtcchpijadlgagaaDoor
open Go.RowKit Gm
set_option linter.unusedSimpArgs false
set_option linter.unusedVariables false
theorem run_neq_tok (a b : Tok) (w : World) : (binOp .neq 33 (.agg #[.int .i64 a.k, .int .i64 a.s, .int .i64 a.e, .string ⟨a.t.toArray⟩]) (.agg #[.int .i64 b.k, .int .i64 b.s, .int .i64 b.e, .string ⟨b.t.toArray⟩])).run Tryd.prog w = .ok (.bool (!tokEqB a b)) w := by
  by_cases h : a = b
  · subst h; simp [go_sem, tokEqB]
  · have hn : ¬ (a.k = b.k ∧ a.s = b.s ∧ a.e = b.e ∧ a.t = b.t) := fun ⟨h1, h2, h3, h4⟩ => h (Tok.ext' h1 h2 h3 h4)
    simp only [tokEqB, h, decide_false, Bool.not_false]
    simp [go_sem]
    clear h
    by_cases e1 : a.k = b.k <;> by_cases e2 : a.s = b.s <;> by_cases e3 : a.e = b.e <;> by_cases e4 : a.t = b.t <;> simp_all
set_option maxHeartbeats 1000000 in
theorem etokens_any (v1 v2 : Value) (l1 l2 : List Tok) (w : World) (B : Nat) (h1 : ToksAt w B v1 l1) (h2 : ToksAt w B v2 l2) (hB : B ≤ w.heap.size) :
    Calls Tryd.prog 24 #[v1, v2] w fun e w' => e = .returned (.bool (decide (l1 = l2))) ∧ Below w.heap.size w w' := by
  obtain ⟨A, n, c, rfl, HN, hnc, hnb, hA⟩ := h1
  obtain ⟨A', n', c', rfl, HN', hnc', hnb', hA'⟩ := h2
  unfold big at hnb hnb'
  by_cases d : n = n'
  · subst d
    obtain ⟨tot, ht⟩ : ∃ x, x = decide (l1 = l2) := ⟨_, rfl⟩
    rw [← ht]
    have HT := hide (show tot = decide (l1.drop 0 = l2.drop 0) by rw [ht]; simp)
    clear ht
    go_enter Tryd.func24, Tryd.ntmps24
    go_wp2
    go_loopw [13] (fun iv wr => ∃ (k q : Nat), k ≤ n ∧ iv = .int .i64 k ∧ Hid (wr = w.drewN q) ∧ Hid (tot = decide (l1.drop k = l2.drop k))) (fun iv _ => n - (intOf iv).toNat)
    case atStart => exact ⟨0, 0, by omega, rfl, hide rfl, HT⟩
    case round =>
      clear HT
      obtain ⟨k, q, hk, rfl, hwr, HR⟩ := hrel
      obtain rfl := hwr.out
      clear hwr
      by_cases hkn : k < n
      · obtain ⟨b, off, a, rfl, hbB, c0, c1, c2, c3, HA⟩ := tok_at hA hkn
        obtain ⟨b', off', a', rfl, hbB', e0, e1, e2, e3, HA'⟩ := tok_at hA' hkn
        have he := fun W => run_neq_tok a a' W
        have j0 : (0 : Int) ≤ (k : Int) := by omega
        have j1 : (k : Int) < (n : Int) := by omega
        have hs := dropT_eq_iff (d := dT) (l := l1) (k := l2) (j := k) (by rw [HN.out]; exact hkn) (by rw [HN.out, HN'.out])
        rw [HA.out, HA'.out] at hs
        have HS := hide hs
        clear hs
        cases hE : tokEqB a a'
        · have hne : ¬ a = a' := by simpa [tokEqB] using hE
          have HNE := hide hne
          clear hne
          go_wp2
          go_quiet (fail)
          go_wp2
          go_ret
          rw [HR.out, HS.out, if_neg HNE.out]
          exact ⟨rfl, below_drewN (below_drewN (Below.refl _ _) _) _⟩
        · have hne : a = a' := by simpa [tokEqB] using hE
          have HNE := hide hne
          clear hne
          go_wp2
          go_quiet (fail)
          go_wp2
          go_roundw
          case rel => exact ⟨k + 1, _, by omega, by go_num, hide rfl, hide (HR.out.trans (by rw [HS.out, if_pos HNE.out]))⟩
          case measure => simp [intOf]; omega
      · have he : tot = true := by
          rw [HR.out, List.drop_eq_nil_of_le (by rw [HN.out]; omega), List.drop_eq_nil_of_le (by rw [HN'.out]; omega)]; rfl
        have HE := hide he
        clear he HR
        go_wp2
        go_ret
        exact ⟨ret_bool HE.out.symm, below_drewN (Below.refl _ _) _⟩
  · have hd : decide (l1 = l2) = false := by
      apply decide_eq_false; intro e; apply d; rw [← HN.out, ← HN'.out, e]
    rw [hd]
    have hdd : ((n : Int) != (n' : Int)) = true := by simp; omega
    clear hd HN HN' hA hA' d
    go_enter Tryd.func24, Tryd.ntmps24
    go_wp2
    go_ret
    exact ⟨rfl, Below.refl _ _⟩
theorem cutB_le (l : List Tok) : (cutB l).2.length ≤ 300 := by unfold cutB; split <;> simp; omega
theorem cutR_le (l : List UInt8) : (cutR l).2.length ≤ big := by
  unfold cutR big
  split
  · have := cutB_le (toks (decR l).2); omega
  · simp
theorem cut_any (s : ByteArray) (w : World) (hT : Tabs w) (hs : s.size ≤ maxLen) :
    Calls Tryd.prog 12 #[.string s] w fun e w' => ∃ v, e = .returned (.tuple #[v, .agg #[.int .i64 (cutR s.data.toList).1.1, .int .i64 (cutR s.data.toList).1.2]]) ∧
      ToksAt w' w'.heap.size v (cutR s.data.toList).2 ∧ Below w.heap.size w w' := by
  have hle := cutR_le s.data.toList
  rcases decR_cases s.data.toList with ⟨ps, hq⟩ | ⟨hq, hq2⟩
  · have e : cutR s.data.toList = cutB (toks ps) := by unfold cutR; rw [hq]; exact if_pos rfl
    rw [e] at hle ⊢
    exact (cut_ok s w hT hs ps hq).mono fun _ _ ⟨v, h1, h2, h3⟩ => ⟨v, h1, ToksAt.of_own h2 rfl hle, h3⟩
  · have e : cutR s.data.toList = ((decR s.data.toList).1, []) := by unfold cutR; rw [if_neg (by intro h; rw [h] at hq; exact hq rfl)]
    rw [e]
    exact (cut_bad s w hT hs hq hq2).mono fun _ _ ⟨h1, h3⟩ => ⟨_, h1, ToksAt.of_own (World.ownsRow_nil _ 0 33 4) rfl (by simp [big]), h3⟩
theorem tokens_any (s : ByteArray) (w : World) (hs : s.size ≤ maxLen) :
    Calls Tryd.prog 31 #[.string s] w fun e w' => ∃ v, e = .returned (.tuple #[v, .agg #[.int .i64 (cutR s.data.toList).1.1, .int .i64 (cutR s.data.toList).1.2]]) ∧
      ToksAt w' w'.heap.size v (cutR s.data.toList).2 ∧ Below w.heap.size w w' := by
  have hle := cutR_le s.data.toList
  rcases decR_cases s.data.toList with ⟨ps, hq⟩ | ⟨hq, hq2⟩
  · have e : cutR s.data.toList = cutB (toks ps) := by unfold cutR; rw [hq]; exact if_pos rfl
    rw [e] at hle ⊢
    exact (tokens_ok s w hs ps hq).mono fun _ _ ⟨v, h1, h2, h3⟩ => ⟨v, h1, ToksAt.of_own h2 rfl hle, h3⟩
  · have e : cutR s.data.toList = ((decR s.data.toList).1, []) := by unfold cutR; rw [if_neg (by intro h; rw [h] at hq; exact hq rfl)]
    rw [e]
    exact (tokens_bad s w hs hq hq2).mono fun _ _ ⟨h1, h3⟩ => ⟨_, h1, ToksAt.of_own (World.ownsRow_nil _ 0 33 4) rfl (by simp [big]), h3⟩
/-- The closed example cut. -/
def exT : List Tok := [⟨1, 0, 2, [72, 105]⟩, ⟨2, 3, 4, [50]⟩, ⟨3, 4, 5, [46]⟩]
theorem ex_cut : cutR [72, 105, 32, 50, 46] = ((0, 0), exT) := by decide +kernel
theorem cutex_any (w : World) (hT : Tabs w) :
    Calls Tryd.prog 11 #[] w fun e w' => e = .returned (.bool true) ∧ Below w.heap.size w w' := by
  have he := fun a b c d W => run_eql_fault a b c d W
  have hf : fEq 0 0 0 0 = true := rfl
  have hD := cut_any ⟨#[72, 105, 32, 50, 46]⟩ w hT (by simp [maxLen]; decide)
  rw [show (⟨#[72, 105, 32, 50, 46]⟩ : ByteArray).data.toList = [72, 105, 32, 50, 46] from rfl, ex_cut] at hD
  have HD := hide hD
  clear hT hD
  go_enter Tryd.func11, Tryd.ntmps11
  go_wp2_with fail
  refine HD.out.mono ?_
  rintro e w1 ⟨v, rfl, hv, hb1⟩
  have HV := hide hv
  clear hv
  go_wp2_with fail
  refine (etokens_any _ _ exT exT _ (w1.heap.size + 1 + 1) ((HV.out.below (B' := w1.heap.size) (by go_grown) (Nat.le_refl _)).mono (by omega)) (ToksAt.of_blk (t := 33) (Blk.at_ (by simp)) rfl rfl (by simp [big, exT])) (by simp)).mono ?_
  rintro e w4 ⟨rfl, hb4⟩
  have hbw4 : Below w.heap.size w w4 := hb1.trans (Below.trans (by have := hb1.size; go_grown) (hb4.mono (by have := hb1.size; simp; omega)))
  clear hb4
  have hd : decide (exT = exT) = true := by simp
  rw [hd]
  go_wp2
  go_ret
  exact ⟨rfl, hbw4⟩
end Go.Proofs.YtcchpijadlgagaaDoor
