/- slices.CompactFunc at a row of arcs that the call owns: of those that differ only in weight the first is left. -/
import Derived.Test.YtmgpcnkmmgkjgaaSdW
import Derived.Lib.SliceRun
namespace Gm
open Go Go.RowKit
set_option linter.unusedSimpArgs false
set_option linter.unusedVariables false
theorem likeA_comm (a b : Arc) : likeA a b = likeA b a := by
  unfold likeA
  rw [decide_eq_decide.2 (show a.f = b.f ↔ b.f = a.f from eq_comm), decide_eq_decide.2 (show a.i = b.i ↔ b.i = a.i from eq_comm), decide_eq_decide.2 (show a.o = b.o ↔ b.o = a.o from eq_comm), decide_eq_decide.2 (show a.t = b.t ↔ b.t = a.t from eq_comm)]
/-- The list d on the way: p items of l are looked at, m are left. -/
def CompTo (l d : List Arc) (p m : Nat) : Prop :=
  d.length = l.length ∧ d.take m = compact likeA (l.take p) ∧ m < p ∧ ∀ q, p ≤ q + 1 → d.getD q dA = l.getD q dA
theorem comp_small {l : List Arc} (h : l.length < 2) : compact likeA l = l := by
  rcases l with _ | ⟨a, _ | ⟨b, l⟩⟩
  · rfl
  · rfl
  · simp at h; omega
theorem comp_one (l : List Arc) : compact likeA (l.take 1) = l.take 1 := comp_small (by rw [List.length_take]; omega)
theorem take_snocA {l : List Arc} {k : Nat} (hk : k < l.length) : l.take (k + 1) = l.take k ++ [l.getD k dA] := by
  rw [List.take_succ_eq_append_getElem hk]
  congr 1
  simp [List.getD, hk]
theorem comp_keep {l : List Arc} {k k1 : Nat} (hk : k < l.length) (h1 : k = k1 + 1) (h : compact likeA (l.take k) = l.take k) (hl : likeA (l.getD k dA) (l.getD k1 dA) = false) : compact likeA (l.take (k + 1)) = l.take (k + 1) := by
  rw [compact_take hk rfl, h, take_snocA hk]
  rw [show k - 1 = k1 by omega, if_neg (by rw [likeA_comm, hl]; simp)]
theorem compTo_start {l : List Arc} {k k1 : Nat} (hk : k < l.length) (h1 : k = k1 + 1) (h : compact likeA (l.take k) = l.take k) (hl : likeA (l.getD k dA) (l.getD k1 dA) = true) : CompTo l l (k + 1) k := by
  refine ⟨rfl, ?_, by omega, fun _ _ => rfl⟩
  rw [compact_take hk rfl, h, show k - 1 = k1 by omega, if_pos ⟨by omega, by rw [likeA_comm, hl]⟩, List.append_nil]
theorem compTo_skip {l d : List Arc} {p p1 m : Nat} (hp : p < l.length) (h1 : p = p1 + 1) (h : CompTo l d p m) (hl : likeA (l.getD p dA) (l.getD p1 dA) = true) : CompTo l d (p + 1) m := by
  obtain ⟨h2, h3, h4, h5⟩ := h
  refine ⟨h2, ?_, by omega, fun q hq => h5 q (by omega)⟩
  rw [compact_take hp rfl, h3, show p - 1 = p1 by omega, if_pos ⟨by omega, by rw [likeA_comm, hl]⟩, List.append_nil]
theorem compTo_keep {l d : List Arc} {p p1 m : Nat} (hp : p < l.length) (h1 : p = p1 + 1) (h : CompTo l d p m) (hl : likeA (l.getD p dA) (l.getD p1 dA) = false) : CompTo l (d.set m (l.getD p dA)) (p + 1) (m + 1) := by
  obtain ⟨h2, h3, h4, h5⟩ := h
  have hm : m < (d.set m (l.getD p dA)).length := by rw [List.length_set]; omega
  refine ⟨by rw [List.length_set, h2], ?_, by omega, fun q hq => ?_⟩
  · rw [compact_take hp rfl, ← h3, show p - 1 = p1 by omega, if_neg (by rw [likeA_comm, hl]; simp), take_snocA hm, List.take_set_of_le (Nat.le_refl m)]
    congr 1
    simp [List.getD, hm]
    rw [List.getElem?_set_self (by omega)]; rfl
  · rw [← h5 q (by omega), List.getD_eq_getElem?_getD, List.getElem?_set_ne (by omega), ← List.getD_eq_getElem?_getD]
theorem compTo_end {l d : List Arc} {m : Nat} (h : CompTo l d l.length m) : d.take m = compact likeA l ∧ m = (compact likeA l).length ∧ m ≤ l.length := by
  obtain ⟨h2, h3, h4, _⟩ := h
  rw [List.take_length] at h3
  exact ⟨h3, by rw [← h3, List.length_take]; omega, by omega⟩
/-- One arc of a row is written. -/
theorem own_setA {w : World} {base n : Nat} {e : TypeId} {l : List Arc} {g cap k : Nat} (h : w.ownsRow base e 5 (.slice (some ⟨g, 0, none⟩) n cap) n (arcRow l)) (hn : l.length = n) (hk : k < n) (x : Arc) :
    (((((w.setCell ⟨g, k * 5, none⟩ (.int .i64 x.f)).setCell ⟨g, k * 5 + 1, none⟩ (.int .i64 x.t)).setCell ⟨g, k * 5 + 2, none⟩ (.int .i64 x.i)).setCell ⟨g, k * 5 + 3, none⟩ (.int .i64 x.o)).setCell ⟨g, k * 5 + 4, none⟩ (.int .i64 x.w)).ownsRow base e 5 (.slice (some ⟨g, 0, none⟩) n cap) n (arcRow (l.set k x)) := by
  have hn0 : 0 < n := by omega
  have h1 := own_setN (own_setN (own_setN (own_setN (own_setN h rfl hn0 (k * 5) (.int .i64 x.f)) rfl hn0 (k * 5 + 1) (.int .i64 x.t)) rfl hn0 (k * 5 + 2) (.int .i64 x.i)) rfl hn0 (k * 5 + 3) (.int .i64 x.o)) rfl hn0 (k * 5 + 4) (.int .i64 x.w)
  rw [arcRow_set l k x (by omega)] at h1
  exact h1
theorem below_setCells_at {B g : Nat} {a : World} (hg : B ≤ g) : ∀ (vs : List Value) (o : Nat) (w : World), Below B a w → Below B a (w.setCells g o vs)
  | [], _, _, h => h
  | v :: r, o, w, h => below_setCells_at hg r (o + 1) _ (h.setCell (by exact hg) v)
/-- The row's beginning. -/
theorem own_prefix {w : World} {base sz n m g cap : Nat} {e : TypeId} {xs : List Value} (h : w.ownsRow base e sz (.slice (some ⟨g, 0, none⟩) n cap) n xs) (hm : m ≤ n) : w.ownsRow base e sz (.slice (some ⟨g, 0, none⟩) m cap) m (xs.take (m * sz)) := by
  have hle : m * sz ≤ n * sz := Nat.mul_le_mul_right _ hm
  refine ⟨by rw [List.length_take, h.1]; omega, ?_⟩
  rcases h.2 with ⟨h1, _⟩ | ⟨g', cap', cur, h1, h2, h3, h4, h5, h6, h7⟩
  · cases h1
  · injection h1 with a1 a2 a3
    injection a1 with a1
    injection a1 with a1
    subst a1 a3
    exact .inr ⟨g, cap, cur, rfl, h2, h3, by omega, h5, h6, by rw [← h7, List.take_take, Nat.min_eq_left hle]⟩
/-- Cells of the row are written from o on: what stands before is as it was. -/
theorem own_setCells {base sz n g cap : Nat} {e : TypeId} (hn : 0 < n) : ∀ (vs : List Value) (o : Nat) (w : World) (xs : List Value), w.ownsRow base e sz (.slice (some ⟨g, 0, none⟩) n cap) n xs →
    ∃ ys, (w.setCells g o vs).ownsRow base e sz (.slice (some ⟨g, 0, none⟩) n cap) n ys ∧ ys.take o = xs.take o
  | [], o, w, xs, h => ⟨xs, h, rfl⟩
  | v :: r, o, w, xs, h => by
    obtain ⟨ys, h1, h2⟩ := own_setCells hn r (o + 1) _ _ (own_setN h rfl hn o v)
    refine ⟨ys, h1, ?_⟩
    have h3 := congrArg (List.take o) h2
    rw [List.take_take, List.take_take, Nat.min_eq_left (by omega), List.take_set_of_le (Nat.le_refl o)] at h3
    exact h3
theorem arcRow_take (l : List Arc) (m : Nat) : (arcRow l).take (m * 5) = arcRow (l.take m) := by
  rcases Nat.lt_or_ge m l.length with h | h
  · have e : arcRow l = arcRow (l.take m) ++ arcRow (l.drop m) := by rw [← arcRow_append, List.take_append_drop]
    rw [e, List.take_append_of_le_length (by rw [arcRow_length, List.length_take]; omega), List.take_of_length_le (by rw [arcRow_length, List.length_take]; omega)]
  · rw [List.take_of_length_le h, List.take_of_length_le (by rw [arcRow_length]; omega)]
theorem zero_five (a : Value) (n : Nat) : (Builtin.zeroCells #[a, a, a, a, a] n).toList = List.replicate (n * 5) a := by
  simp only [Builtin.zeroCells]
  apply List.ext_getElem
  · simp
  · intro i h1 h2
    simp
    rcases (by omega : i % 5 = 0 ∨ i % 5 = 1 ∨ i % 5 = 2 ∨ i % 5 = 3 ∨ i % 5 = 4) with h | h | h | h | h <;> rw [h] <;> rfl
theorem run_clear_arcs {P : Program} (w : World) (t e ty : TypeId) (ht : P.underlying t = some (.slice e)) (hv : ∀ w, (zeroValue e).run P w = .ok (.agg #[.int .i64 0, .int .i64 0, .int .i64 0, .int .i64 0, .int .i64 0]) w) (b o n c : Nat)
    (hc : ∀ j, j < n * 5 → (w.cell? ⟨b, o + j, none⟩).isSome = true) (hf : ∀ j, j < n * 5 → w.frozen? ⟨b, o + j, none⟩ = false) (hn : 0 < n) :
    (Builtin.clear_ #[t] ty #[.slice (some ⟨b, o, none⟩) n c]).run P w = .ok (.tuple #[]) (w.setCells b o (List.replicate (n * 5) (.int .i64 0))) := by
  have hst := run_storeCells_cells (P := P) b o (List.replicate (n * 5) (.int .i64 0)) 0 w (by simpa using hc) (by simpa using hf) (by intro v hv'; rw [List.eq_of_mem_replicate hv']; rfl)
  simp only [Nat.add_zero] at hst
  have hz := zero_five (.int .i64 0) n
  obtain ⟨m, rfl⟩ : ∃ m, n = m + 1 := ⟨n - 1, by omega⟩
  simp [Builtin.clear_, run_underlying ht, hv, Value.cells, hz, hst]
end Gm
namespace Go.Proofs.Ytmgpcnkmmgkjgaa
open Go.RowKit Gm Go.Sort Go.Shelf
set_option linter.unusedSimpArgs false
set_option linter.unusedVariables false
set_option maxRecDepth 100000 in
set_option maxHeartbeats 2000000 in
theorem like_any (a b : Arc) (w : World) :
    Calls Try.prog 64 #[.agg #[.int .i64 a.f, .int .i64 a.t, .int .i64 a.i, .int .i64 a.o, .int .i64 a.w], .agg #[.int .i64 b.f, .int .i64 b.t, .int .i64 b.i, .int .i64 b.o, .int .i64 b.w]] w fun e w' => e = .returned (.bool (likeA a b)) ∧ Below w.heap.size w w' := by
  by_cases e1 : a.f = b.f
  · have t1 : (a.f == b.f) = true := by simpa using e1
    by_cases e2 : a.i = b.i
    · have t2 : (a.i == b.i) = true := by simpa using e2
      by_cases e3 : a.o = b.o
      · have t3 : (a.o == b.o) = true := by simpa using e3
        obtain ⟨q, hq⟩ : ∃ q, q = (a.t == b.t) := ⟨_, rfl⟩
        have el : likeA a b = q := by rw [hq]; unfold likeA; rw [decide_eq_true e1, decide_eq_true e2, decide_eq_true e3]; simp; rfl
        rw [el]
        have t4 : (a.t == b.t) = q := hq.symm
        clear e1 e2 e3 hq el
        go_enter Try.func64, Try.ntmps64
        go_wp2
        go_ret
        exact ⟨rfl, by go_grown⟩
      · have t3 : (a.o == b.o) = false := by simpa using e3
        have el : likeA a b = false := by unfold likeA; rw [decide_eq_false e3]; simp
        rw [el]
        clear e1 e2 e3 el
        go_enter Try.func64, Try.ntmps64
        go_wp2
        go_ret
        exact ⟨rfl, by go_grown⟩
    · have t2 : (a.i == b.i) = false := by simpa using e2
      have el : likeA a b = false := by unfold likeA; rw [decide_eq_false e2]; simp
      rw [el]
      clear e1 e2 el
      go_enter Try.func64, Try.ntmps64
      go_wp2
      go_ret
      exact ⟨rfl, by go_grown⟩
  · have t1 : (a.f == b.f) = false := by simpa using e1
    have el : likeA a b = false := by unfold likeA; rw [decide_eq_false e1]; simp
    rw [el]
    clear e1 el
    go_enter Try.func64, Try.ntmps64
    go_wp2
    go_ret
    exact ⟨rfl, by go_grown⟩
set_option maxRecDepth 100000 in
set_option maxHeartbeats 16000000 in
theorem compactf_any (l : List Arc) (n base : Nat) (v : Value) (w : World) (hl : l.length = n) (hn2 : n ≤ 1000000000) (hb : base ≤ w.heap.size) (h : w.ownsRow base 45 5 v n (arcRow l)) :
    Calls Try.prog 63 #[v, .func (.func 64) #[] #[]] w fun e w' => ∃ A c, e = .returned (.slice A (compact likeA l).length c) ∧ w'.ownsRow base 45 5 (.slice A (compact likeA l).length c) (compact likeA l).length (arcRow (compact likeA l)) ∧ Below base w w' := by
  obtain ⟨A, c, rfl, hnc, hcm⟩ := own_value h
  by_cases h2 : n < 2
  · have e : compact likeA l = l := comp_small (by omega)
    have t2 : decide ((n : Int) < 2) = true := decide_eq_true (by omega)
    rw [e, hl]
    have H := hide h
    clear h e hl
    go_enter Try.func63, Try.ntmps63
    go_wp2
    go_ret
    exact ⟨A, c, rfl, H.out, Below.refl _ _⟩
  · obtain ⟨g, cap, ev, hHg, hgw, _, _⟩ := own_formN h (by omega)
    injection ev with e1 e2 e3
    subst e1 e3
    clear e2
    have t2 : decide ((n : Int) < 2) = false := decide_eq_false (by omega)
    have HO := hide h
    have HLL := hide hl
    unfold maxLen at hcm
    clear h hl
    go_enter Try.func63, Try.ntmps63
    go_wp2
    go_loopw [5] (fun kv wr => ∃ k : Nat, 1 ≤ k ∧ k ≤ n ∧ kv = .int .i64 k ∧ Hid (Below w.heap.size w wr) ∧ Hid (compact likeA (l.take k) = l.take k)) (fun kv _ => n - (intOf kv).toNat)
    case atStart => exact ⟨1, by omega, by omega, rfl, hide (Below.refl _ _), hide (comp_one l)⟩
    case round =>
      obtain ⟨k, hk1, hk, rfl, HB, HC⟩ := hrel
      have HO2 := hide (own_belowS HO.out HB.out)
      have hwz := HB.out.size
      by_cases hkn : k < n
      · obtain ⟨k1, hkk⟩ : ∃ j, k = j + 1 := ⟨k - 1, by omega⟩
        have hk1n : k1 < n := by omega
        obtain ⟨x, hx⟩ : ∃ x, x = l.getD k dA := ⟨_, rfl⟩
        obtain ⟨y, hy⟩ : ∃ x, x = l.getD k1 dA := ⟨_, rfl⟩
        obtain ⟨b0, b1, b2, b3, b4⟩ := arc_own_at HO2.out HLL.out hkn hx.symm
        obtain ⟨a0, a1, a2, a3, a4⟩ := arc_own_at HO2.out HLL.out hk1n hy.symm
        have ek : (k : Int) - 1 = (k1 : Int) := by omega
        have i0 : (0 : Int) ≤ (k : Int) := by omega
        have i1 : (k : Int) < (n : Int) := by omega
        have j0 : (0 : Int) ≤ (k1 : Int) := by omega
        have j1 : (k1 : Int) < (n : Int) := by omega
        have wk : IntKind.i64.wrap (k1 : Int) = (k1 : Int) := IntWalk.i64_in _ (by omega)
        have HX := hide hx
        have HY := hide hy
        have HKK := hide hkk
        clear hx hy hkk
        go_upto_region 6 with fail
        refine wp_mix (fun w' => w'.cell? ⟨g, k * 5, none⟩ = some (.int .i64 x.f) ∧ w'.cell? ⟨g, k * 5 + 1, none⟩ = some (.int .i64 x.t) ∧ w'.cell? ⟨g, k * 5 + 2, none⟩ = some (.int .i64 x.i) ∧ w'.cell? ⟨g, k * 5 + 3, none⟩ = some (.int .i64 x.o) ∧ w'.cell? ⟨g, k * 5 + 4, none⟩ = some (.int .i64 x.w) ∧ w'.cell? ⟨g, k1 * 5, none⟩ = some (.int .i64 y.f) ∧ w'.cell? ⟨g, k1 * 5 + 1, none⟩ = some (.int .i64 y.t) ∧ w'.cell? ⟨g, k1 * 5 + 2, none⟩ = some (.int .i64 y.i) ∧ w'.cell? ⟨g, k1 * 5 + 3, none⟩ = some (.int .i64 y.o) ∧ w'.cell? ⟨g, k1 * 5 + 4, none⟩ = some (.int .i64 y.w)) 10 [(0, false), (1, false), (2, false), (3, false), (4, false), (5, false), (6, false), (7, false), (8, false), (9, false)] (by kernel_rfl) (by kernel_rfl) (by go_simp) ?_
        simp only [List.drop_succ_cons, List.drop_zero]
        repeat (refine mix_q (v := ?_) (by rfl) (by rfl) ?_ ?_; rotate_left; (focus (intro w' hC; (try dsimp only at hC); go_simp; (first | done | with_reducible rfl))); simp only [Act.put, List.setIfInBounds_toArray, List.set_cons_zero, List.set_cons_succ, List.getElem_toArray, List.getElem_cons_zero, List.getElem_cons_succ])
        refine mix_nil ?_; try simp only [Act.put, List.setIfInBounds_toArray, List.set_cons_zero, List.set_cons_succ, List.getElem_toArray, List.getElem_cons_zero, List.getElem_cons_succ]
        go_wp2_with fail
        refine (like_any x y _).mono ?_
        rintro e w2 ⟨rfl, hb2⟩
        replace HB := hide (HB.out.drew.trans (hb2.mono (by simp; omega)))
        obtain ⟨lk, hlk⟩ : ∃ z, z = likeA x y := ⟨_, rfl⟩
        rw [← hlk]
        have HLK := hide hlk
        clear hb2 hlk b0 b1 b2 b3 b4 a0 a1 a2 a3 a4 HO2
        cases lk
        · have HCN := hide (comp_keep (by rw [HLL.out]; exact hkn) HKK.out HC.out (by rw [← HX.out, ← HY.out]; exact HLK.out.symm))
          go_wp2
          refine NoPanic.normal ?_
          go_wp2
          go_roundw
          case rel => exact ⟨k + 1, by omega, by omega, by go_num, HB, HCN⟩
          case measure => simp [intOf]; omega
        · have HCT := hide (compTo_start (by rw [HLL.out]; exact hkn) HKK.out HC.out (by rw [← HX.out, ← HY.out]; exact HLK.out.symm))
          have HO3 := hide (own_belowS HO.out HB.out)
          have HB3 := hide (HB.out.mono hb)
          clear HX HY HKK HLK HC HB wk j0 j1 ek
          go_wp2
          refine NoPanic.normal ?_
          go_wp2
          obtain ⟨r, hr⟩ : ∃ r, r = n - k := ⟨_, rfl⟩
          obtain ⟨rc, hrc⟩ : ∃ r, r = c - k := ⟨_, rfl⟩
          rw [← hr, ← hrc]
          have hr1 : k + r ≤ n := by omega
          have hr2 : n ≤ k + r := by omega
          clear hr hrc
          go_loopw [5, 7] (fun kv jv wr2 => ∃ (m j : Nat) (d : List Arc), kv = .int .i64 m ∧ jv = .int .i64 j ∧ 1 ≤ j ∧ j ≤ r ∧ m < n ∧ Hid (Below base w wr2) ∧ Hid (wr2.ownsRow base 45 5 (.slice (some ⟨g, 0, none⟩) n c) n (arcRow d)) ∧ Hid (CompTo l d (k + j) m)) (fun kv jv _ => r - (intOf jv).toNat)
          case atStart => exact ⟨k, 1, l, rfl, rfl, by omega, by omega, by omega, HB3, HO3, HCT⟩
          case round =>
            clear HB3 HO3 HCT hwz
            obtain ⟨m, j, d, rfl, rfl, hj1, hjr, hmn, HB, HO3, HC⟩ := hrel
            have HDL := hide (show d.length = n by rw [HC.out.1, HLL.out])
            have hmk : m < k + j := HC.out.2.2.1
            by_cases hjn : j < r
            · obtain ⟨p, hp⟩ : ∃ p, p = k + j := ⟨_, rfl⟩
              obtain ⟨jj, hjj⟩ : ∃ i, j = i + 1 := ⟨j - 1, by omega⟩
              obtain ⟨q, hq⟩ : ∃ p, p = k + jj := ⟨_, rfl⟩
              have hpn : p < n := by omega
              have hqn : q < n := by omega
              have HPQ := hide (show p = q + 1 by omega)
              obtain ⟨x, hx⟩ : ∃ x, x = d.getD p dA := ⟨_, rfl⟩
              obtain ⟨y, hy⟩ : ∃ x, x = d.getD q dA := ⟨_, rfl⟩
              have HX := hide (show x = l.getD p dA by rw [hx]; exact HC.out.2.2.2 p (by omega))
              have HY := hide (show y = l.getD q dA by rw [hy]; exact HC.out.2.2.2 q (by omega))
              have HPK := hide hp
              obtain ⟨b0, b1, b2, b3, b4⟩ := arc_own_at HO3.out HDL.out hpn hx.symm
              obtain ⟨a0, a1, a2, a3, a4⟩ := arc_own_at HO3.out HDL.out hqn hy.symm
              rw [show p * 5 = k * 5 + j * 5 by omega] at b0 b1 b2 b3 b4
              rw [show q * 5 = k * 5 + jj * 5 by omega] at a0 a1 a2 a3 a4
              have ek : (j : Int) - 1 = (jj : Int) := by omega
              have i0 : (0 : Int) ≤ (j : Int) := by omega
              have i1 : (j : Int) < (r : Int) := by omega
              have j0 : (0 : Int) ≤ (jj : Int) := by omega
              have j1 : (jj : Int) < (r : Int) := by omega
              have wk : IntKind.i64.wrap (jj : Int) = (jj : Int) := IntWalk.i64_in _ (by omega)
              have HJJ := hide hjj
              have hjq := Nat.le_of_eq hq
              have hjq' := Nat.le_of_eq hq.symm
              have hjp := Nat.le_of_eq hp
              have hjp' := Nat.le_of_eq hp.symm
              clear hy hp hq hjj
              have HXD := hide hx
              clear hx
              go_upto_region 11 with fail
              refine wp_mix (fun w' => w'.cell? ⟨g, k * 5 + j * 5, none⟩ = some (.int .i64 x.f) ∧ w'.cell? ⟨g, k * 5 + j * 5 + 1, none⟩ = some (.int .i64 x.t) ∧ w'.cell? ⟨g, k * 5 + j * 5 + 2, none⟩ = some (.int .i64 x.i) ∧ w'.cell? ⟨g, k * 5 + j * 5 + 3, none⟩ = some (.int .i64 x.o) ∧ w'.cell? ⟨g, k * 5 + j * 5 + 4, none⟩ = some (.int .i64 x.w) ∧ w'.cell? ⟨g, k * 5 + jj * 5, none⟩ = some (.int .i64 y.f) ∧ w'.cell? ⟨g, k * 5 + jj * 5 + 1, none⟩ = some (.int .i64 y.t) ∧ w'.cell? ⟨g, k * 5 + jj * 5 + 2, none⟩ = some (.int .i64 y.i) ∧ w'.cell? ⟨g, k * 5 + jj * 5 + 3, none⟩ = some (.int .i64 y.o) ∧ w'.cell? ⟨g, k * 5 + jj * 5 + 4, none⟩ = some (.int .i64 y.w)) 10 [(0, false), (1, false), (2, false), (3, false), (4, false), (5, false), (6, false), (7, false), (8, false), (9, false)] (by kernel_rfl) (by kernel_rfl) (by go_simp) ?_
              simp only [List.drop_succ_cons, List.drop_zero]
              repeat (refine mix_q (v := ?_) (by rfl) (by rfl) ?_ ?_; rotate_left; (focus (intro w' hC; (try dsimp only at hC); go_simp; (first | done | with_reducible rfl))); simp only [Act.put, List.setIfInBounds_toArray, List.set_cons_zero, List.set_cons_succ, List.getElem_toArray, List.getElem_cons_zero, List.getElem_cons_succ])
              refine mix_nil ?_; try simp only [Act.put, List.setIfInBounds_toArray, List.set_cons_zero, List.set_cons_succ, List.getElem_toArray, List.getElem_cons_zero, List.getElem_cons_succ]
              go_wp2_with fail
              refine (like_any x y _).mono ?_
              rintro e w2 ⟨rfl, hb2⟩
              replace HB := hide (HB.out.drew.trans (hb2.mono (by have := HB.out.size; simp; omega)))
              replace HO3 := hide (own_belowS (own_drew HO3.out) hb2)
              obtain ⟨lk, hlk⟩ : ∃ z, z = likeA x y := ⟨_, rfl⟩
              rw [← hlk]
              have HLK := hide hlk
              clear hb2 hlk b0 b1 b2 b3 b4 a0 a1 a2 a3 a4
              cases lk
              · have HCN := hide (compTo_keep (by rw [HLL.out]; exact hpn) HPQ.out (by rw [HPK.out]; exact HC.out) (by rw [← HX.out, ← HY.out]; exact HLK.out.symm))
                rw [← HX.out] at HCN
                have HON := hide (own_setA HO3.out HDL.out hmn x)
                have hfr := fun o => own_freeN HO3.out rfl (by omega) o
                obtain ⟨b0, b1, b2, b3, b4⟩ := arc_own_at HO3.out HDL.out hpn HXD.out.symm
                rw [show p * 5 = k * 5 + j * 5 by omega] at b0 b1 b2 b3 b4
                obtain ⟨z, hz⟩ : ∃ x, x = d.getD m dA := ⟨_, rfl⟩
                obtain ⟨a0, a1, a2, a3, a4⟩ := arc_own_at HO3.out HDL.out hmn hz.symm
                have hgz : g < w2.heap.size := by have := HB.out.size; omega
                have m0 : (0 : Int) ≤ (m : Int) := by omega
                have m1 : (m : Int) < (n : Int) := by omega
                clear hz
                go_wp2
                refine NoPanic.normal ?_
                go_wp2
                go_roundw
                case rel => exact ⟨m + 1, j + 1, d.set m x, by go_num, by go_num, by omega, by omega, by omega, hide (by have h := HB.out; exact ((((h.setCell (by exact hHg) _).setCell (by exact hHg) _).setCell (by exact hHg) _).setCell (by exact hHg) _).setCell (by exact hHg) _), HON, by rw [HPK.out] at HCN; exact HCN⟩
                case measure => simp [intOf]; omega
              · have HCN := hide (compTo_skip (by rw [HLL.out]; exact hpn) HPQ.out (by rw [HPK.out]; exact HC.out) (by rw [← HX.out, ← HY.out]; exact HLK.out.symm))
                go_wp2
                refine NoPanic.normal ?_
                go_wp2
                go_roundw
                case rel => exact ⟨m, j + 1, d, rfl, by go_num, by omega, by omega, hmn, HB, HO3, by rw [HPK.out] at HCN; exact HCN⟩
                case measure => simp [intOf]; omega
            · obtain rfl : j = r := by omega
              have hE := compTo_end (show CompTo l d l.length m by rw [HLL.out, show n = k + j by omega]; exact HC.out)
              have HE1 := hide hE.1
              have HE2 := hide hE.2.1
              obtain ⟨ys, hy1, hy2⟩ := own_setCells (by omega) (List.replicate ((n - m) * 5) (.int .i64 0)) (m * 5) _ _ HO3.out
              have hy3 := own_prefix hy1 (show m ≤ n by omega)
              rw [hy2, arcRow_take, HE1.out] at hy3
              have HY3 := hide hy3
              have hcl : ∀ ty, (Builtin.clear_ #[22] ty #[.slice (some ⟨g, m * 5, none⟩) (n - m) (c - m)]).run Try.prog wr = .ok (.tuple #[]) (wr.setCells g (m * 5) (List.replicate ((n - m) * 5) (.int .i64 0))) :=
                fun ty => run_clear_arcs wr _ _ ty Try.underlying22 Try.zeroValue45 g (m * 5) (n - m) (c - m) (fun i hi => by
                  have h1 := HO3.out.cells (g := g) rfl (m * 5 + i) ((arcRow d)[m * 5 + i]'(by rw [arcRow_length, HDL.out]; omega)) (by simp)
                  rw [addr_add, Nat.zero_add] at h1
                  rw [h1]; rfl) (fun i hi => own_freeN HO3.out rfl (by omega) _) (by omega)
              have m0 : (0 : Int) ≤ (m : Int) := by omega
              have m1 : (m : Int) ≤ (n : Int) := by omega
              have HBE := hide (below_setCells_at hHg (List.replicate ((n - m) * 5) (.int .i64 0)) (m * 5) wr HB.out)
              clear hE hy1 hy2 hy3
              go_wp2
              go_ret
              rw [← HE2.out]
              exact ⟨_, _, rfl, HY3.out, HBE.out⟩
      · obtain rfl : k = n := by omega
        have e : compact likeA l = l := by have := HC.out; rwa [← HLL.out, List.take_length] at this
        have HE := hide e
        clear e
        go_wp2
        go_ret
        rw [HE.out, HLL.out]
        exact ⟨_, _, rfl, HO2.out, HB.out.mono hb⟩
end Go.Proofs.Ytmgpcnkmmgkjgaa
