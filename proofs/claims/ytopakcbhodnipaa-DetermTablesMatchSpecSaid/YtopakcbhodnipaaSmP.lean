/- determ.smallest, loop by loop: the states behind, the marking of useful states, a state of each class, the numbers in the result. Plain law, and rows in memory over any program. -/
import Derived.Test.YtopakcbhodnipaaDqZ
import Derived.Test.YtopakcbhodnipaaPlG
import Derived.Test.YtopakcbhodnipaaGrL
import Derived.Test.YtopakcbhodnipaaNlL
namespace Gm
set_option linter.unusedSimpArgs false
set_option linter.unusedVariables false
def castL (l : List Nat) : List Int := l.map fun s : Nat => (s : Int)
theorem castL_append (l k : List Nat) : castL (l ++ k) = castL l ++ castL k := by unfold castL; rw [List.map_append]
theorem castL_len (l : List Nat) : (castL l).length = l.length := by unfold castL; rw [List.length_map]
theorem castL_at {l : List Nat} {i s : Nat} (h : l[i]? = some s) : (castL l).getD i 0 = (s : Int) := by
  unfold castL
  rw [List.getD_eq_getElem?_getD, List.getElem?_map, h]
  rfl
section
variable {L : List (List Int)} {F : List Bool}
/-- The states with an arc to t, among the first i; and k labels of the next one. -/
def bkN (L : List (List Int)) (i t : Nat) : List Nat := (List.range i).flatMap fun s => ((rowOf L s).filter fun x => decide (x = (t : Int))).map fun _ => s
def bkP (L : List (List Int)) (i k t : Nat) : List Nat := bkN L i t ++ (((rowOf L i).take k).filter fun x => decide (x = (t : Int))).map fun _ => i
theorem bkP_zero (i t : Nat) : bkP L i 0 t = bkN L i t := by unfold bkP; simp
theorem bkP_all {i k : Nat} (hk : (rowOf L i).length ≤ k) (t : Nat) : bkP L i k t = bkN L (i + 1) t := by
  unfold bkP bkN
  rw [List.take_of_length_le hk, flat_succ]
theorem bkP_next {i k : Nat} {x : Int} (hx : (rowOf L i)[k]? = some x) (t : Nat) : bkP L i (k + 1) t = if x = (t : Int) then bkP L i k t ++ [i] else bkP L i k t := by
  unfold bkP
  rw [List.take_add_one, hx, List.filter_append, List.map_append]
  by_cases h : x = (t : Int)
  · simp [h]
  · simp [h]
theorem bkN_mem {n r t : Nat} : r ∈ bkN L n t ↔ r < n ∧ (t : Int) ∈ rowOf L r := by
  unfold bkN
  rw [List.mem_flatMap]
  constructor
  · rintro ⟨s, hs, h⟩
    obtain ⟨x, hx, rfl⟩ := List.mem_map.1 h
    obtain ⟨h1, h2⟩ := List.mem_filter.1 hx
    have := of_decide_eq_true h2
    subst this
    exact ⟨List.mem_range.1 hs, h1⟩
  · rintro ⟨hr, h⟩
    exact ⟨r, List.mem_range.2 hr, List.mem_map.2 ⟨_, List.mem_filter.2 ⟨h, decide_eq_true rfl⟩, rfl⟩⟩
theorem bkN_len {q n : Nat} (h : ∀ s, s < n → (rowOf L s).length ≤ q) (t : Nat) : (bkN L n t).length ≤ n * q := by
  induction n with
  | zero => simp [bkN]
  | succ n ih =>
    have e : bkN L (n + 1) t = bkN L n t ++ ((rowOf L n).filter fun x => decide (x = (t : Int))).map fun _ => n := by unfold bkN; rw [flat_succ]
    rw [e, List.length_append, List.length_map, Nat.succ_mul]
    have h1 := ih fun s hs => h s (by omega)
    have h2 := List.length_filter_le (fun x : Int => decide (x = (t : Int))) (rowOf L n)
    have h3 := h n (by omega)
    omega
theorem bkP_len {q i k : Nat} (h : ∀ s, s < i → (rowOf L s).length ≤ q) (t : Nat) : (bkP L i k t).length ≤ i * q + k := by
  unfold bkP
  rw [List.length_append, List.length_map]
  have h1 := bkN_len h t
  have h2 := List.length_filter_le (fun x : Int => decide (x = (t : Int))) ((rowOf L i).take k)
  rw [List.length_take] at h2
  omega
def finN (F : List Bool) (i : Nat) : List Nat := (List.range i).filter (finOf F)
theorem finN_succ (i : Nat) : finN F (i + 1) = finN F i ++ if finOf F i = true then [i] else [] := by
  unfold finN
  rw [List.range_succ, List.filter_append]
  congr 1
  cases h : finOf F i <;> simp [h]
theorem finN_len (i : Nat) : (finN F i).length ≤ i := by
  unfold finN
  refine Nat.le_trans (List.length_filter_le _ _) ?_
  rw [List.length_range]; exact Nat.le_refl _
theorem finN_mem {i s : Nat} : s ∈ finN F i ↔ s < i ∧ finOf F s = true := by unfold finN; rw [List.mem_filter, List.mem_range]
theorem uinv_start {l : List Int} : UInv l (rowOf L) (finOf F) L.length (fun _ => false) (finN F L.length) where
  rng := fun s hs => (finN_mem.1 hs).1
  good := fun s hs h => by
    rcases h with h | h
    · cases h
    · exact ⟨[], (finN_mem.1 h).2⟩
  fins := fun s hs h => .inr (finN_mem.2 ⟨hs, h⟩)
  back := fun t _ h => by cases h
/-- How many may still come on the stack. -/
def pendF (f : Nat → Nat) (U : Nat → Bool) : Nat → Nat
  | 0 => 0
  | n + 1 => pendF f U n + (if U n = true then 0 else f n)
theorem pendF_far {f : Nat → Nat} {U : Nat → Bool} {k : Nat} : ∀ n, n ≤ k → pendF f (upd U k) n = pendF f U n
  | 0, _ => rfl
  | n + 1, h => by
    unfold pendF
    rw [pendF_far n (by omega)]
    have : upd U k n = U n := by unfold upd; rw [if_neg (by omega)]
    rw [this]
theorem pendF_upd {f : Nat → Nat} {U : Nat → Bool} {k : Nat} (h : U k = false) : ∀ n, k < n → pendF f (upd U k) n + f k = pendF f U n
  | 0, hk => by omega
  | n + 1, hk => by
    unfold pendF
    by_cases e : n = k
    · subst e
      rw [pendF_far n (Nat.le_refl _), upd_self, h]; simp
    · have ih := pendF_upd (f := f) h n (by omega)
      have : upd U k n = U n := by unfold upd; rw [if_neg e]
      rw [this]
      omega
theorem pendF_le {f : Nat → Nat} {U : Nat → Bool} {M : Nat} : ∀ n, (∀ i, i < n → f i ≤ M) → pendF f U n ≤ n * M
  | 0, _ => by simp [pendF]
  | n + 1, h => by
    have ih := pendF_le (f := f) (U := U) n fun i hi => h i (by omega)
    have h2 := h n (by omega)
    unfold pendF
    rw [Nat.succ_mul]
    split <;> omega
/-- A state of each class: the last one. -/
def repF (c : Nat → Nat) : Nat → Nat → Nat
  | 0, _ => 0
  | i + 1, k => if k = c i then i else repF c i k
theorem repF_spec {c : Nat → Nat} : ∀ {n s : Nat}, s < n → repF c n (c s) < n ∧ c (repF c n (c s)) = c s
  | 0, s, h => by omega
  | n + 1, s, h => by
    unfold repF
    by_cases e : c s = c n
    · rw [if_pos e]; exact ⟨by omega, e.symm⟩
    · rw [if_neg e]
      have : s ≠ n := fun g => e (by rw [g])
      obtain ⟨h1, h2⟩ := repF_spec (c := c) (n := n) (s := s) (by omega)
      exact ⟨by omega, h2⟩
/-- The number of a class in the result, or -1. -/
def plc (l : List Nat) (v : Nat) : Int := if v ∈ l then ((l.idxOf v : Nat) : Int) else -1
theorem plc_new {l : List Nat} {u : Nat} (h : u ∉ l) (v : Nat) : (if v = u then ((l.length : Nat) : Int) else plc l v) = plc (addL l u) v := by
  rw [show addL l u = l ++ [u] by unfold addL; rw [if_neg h]]
  unfold plc
  by_cases e : v = u
  · subst e
    rw [if_pos rfl, if_pos (by simp), List.idxOf_append, if_neg h]
    simp
  · rw [if_neg e]
    by_cases g : v ∈ l
    · rw [if_pos g, if_pos (by simp [g]), idx_pre g]
    · rw [if_neg g, if_neg (by simp [g, e])]
theorem plc_old {l : List Nat} {u : Nat} (h : u ∈ l) : addL l u = l := by unfold addL; rw [if_pos h]
theorem plc_at (l : List Nat) (u : Nat) : plc (addL l u) u = (((addL l u).idxOf u : Nat) : Int) := by unfold plc; rw [if_pos (addL_mem.2 (.inr rfl))]
theorem plc_neg {l : List Nat} {v : Nat} : plc l v < 0 ↔ v ∉ l := by
  unfold plc
  by_cases h : v ∈ l
  · rw [if_pos h]
    exact ⟨fun g => by omega, fun g => absurd h g⟩
  · rw [if_neg h]
    exact ⟨fun _ => h, fun _ => by omega⟩
theorem plc_rng (l : List Nat) (v : Nat) : -1 ≤ plc l v := by unfold plc; split <;> omega
/-- The rows without the states that lead nowhere, as a list. -/
def clnL (U : Nat → Bool) (L : List (List Int)) : List (List Int) := (List.range L.length).map fun s => cleanR U (rowOf L s)
theorem clnL_len (U : Nat → Bool) (L : List (List Int)) : (clnL U L).length = L.length := by unfold clnL; simp
theorem clnL_row (U : Nat → Bool) (L : List (List Int)) : rowOf (clnL U L) = fun s => cleanR U (rowOf L s) := by
  funext s
  show (clnL U L).getD s [] = _
  unfold clnL
  by_cases h : s < L.length
  · simp [List.getD, h]
  · have e : rowOf L s = [] := by unfold rowOf; rw [List.getD_eq_getElem?_getD, List.getElem?_eq_none (by omega)]; rfl
    rw [e]
    simp [List.getD, h, cleanR]
/-- The row under way: the first k places are cleaned. -/
def clnK (U : Nat → Bool) (r : List Int) (k : Nat) : List Int := cleanR U (r.take k) ++ r.drop k
theorem clnK_zero (U : Nat → Bool) (r : List Int) : clnK U r 0 = r := by unfold clnK cleanR; simp
theorem clnK_all (U : Nat → Bool) (r : List Int) {k : Nat} (h : r.length ≤ k) : clnK U r k = cleanR U r := by unfold clnK; rw [List.take_of_length_le h, List.drop_of_length_le h, List.append_nil]
theorem clnK_len (U : Nat → Bool) (r : List Int) (k : Nat) : (clnK U r k).length = r.length := by
  unfold clnK cleanR
  rw [List.length_append, List.length_map, List.length_take, List.length_drop]; omega
theorem clnK_next {U : Nat → Bool} {r : List Int} {k : Nat} {t : Int} (hk : k < r.length) (ht : r.getD k 0 = t) : clnK U r (k + 1) = if 0 ≤ t ∧ U t.toNat = false then (clnK U r k).set k (-1) else clnK U r k := by
  have e1 : r.take (k + 1) = r.take k ++ [t] := by
    rw [List.take_add_one]
    congr 1
    rw [← ht]
    simp [List.getD, hk]
  have e2 : r.drop k = t :: r.drop (k + 1) := by
    rw [List.drop_eq_getElem_cons hk]
    congr 1
    rw [← ht]
    simp [List.getD, hk]
  unfold clnK
  rw [e1, e2]
  unfold cleanR
  rw [List.map_append, List.map_cons, List.map_nil, List.append_assoc]
  have hl : ((r.take k).map fun t => if 0 ≤ t ∧ U t.toNat = false then -1 else t).length = k := by rw [List.length_map, List.length_take]; omega
  by_cases h : 0 ≤ t ∧ U t.toNat = false
  · rw [if_pos h, if_pos h, List.set_append, hl, if_neg (by omega), show k - k = 0 by omega, List.set_cons_zero]
    rfl
  · rw [if_neg h, if_neg h]
    rfl
end
/-! What is in the result. -/
section
variable {l : List Int} {L : List (List Int)} {F : List Bool} {U : Nat → Bool} {c : Nat → Nat} {k : Nat}
/-- The facts behind the refinement. -/
structure SmI (l : List Int) (L : List (List Int)) (F : List Bool) (U : Nat → Bool) (c : Nat → Nat) (k : Nat) : Prop where
  ok : SmOk l L F.length
  use : ∀ s, s < L.length → (U s = true ↔ ∃ w, accS (tstp l (rowOf L)) (finOf F) s w)
  zero : 0 < L.length ∧ U 0 = true
  low : ∀ s, s < L.length → c s < k
  onto : ∀ i, i < k → ∃ s, s < L.length ∧ c s = i
  same : ∀ s t, s < L.length → t < L.length → (c s = c t ↔ ∀ w, accS (tstp l fun s => cleanR U (rowOf L s)) (finOf F) s w ↔ accS (tstp l fun s => cleanR U (rowOf L s)) (finOf F) t w)
  le : k ≤ L.length
/-- The steps of the result. -/
def stpS (l : List Int) (L : List (List Int)) (U : Nat → Bool) (c : Nat → Nat) : Nat → List (Int × Nat) := cstp l (fun s => cleanR U (rowOf L s)) c (repF c L.length)
def finS (F : List Bool) (c : Nat → Nat) (n : Nat) : Nat → Bool := fun v => finOf F (repF c n v)
abbrev StS (l : List Int) (L : List (List Int)) (F : List Bool) (U : Nat → Bool) (c : Nat → Nat) (i : Nat) : (List Nat × List Arc) × List Fnl := StB (stpS l L U c) (finS F c L.length) (c 0) i
theorem SmI.rep (h : SmI l L F U c k) {v : Nat} (hv : v < k) : repF c L.length v < L.length ∧ c (repF c L.length v) = v := by
  obtain ⟨s, hs, rfl⟩ := h.onto v hv
  exact repF_spec hs
theorem SmI.row (h : SmI l L F U c k) {s : Nat} (hs : s < L.length) : (cleanR U (rowOf L s)).length = l.length ∧ ∀ t ∈ cleanR U (rowOf L s), -1 ≤ t ∧ t < (L.length : Int) := by
  obtain ⟨h1, h2⟩ := h.ok.row hs
  refine ⟨by unfold cleanR; rw [List.length_map]; exact h1, fun t ht => ?_⟩
  unfold cleanR at ht
  obtain ⟨p, hp, e⟩ := List.mem_map.1 ht
  have := h2 p hp
  split at e <;> omega
theorem SmI.steps (h : SmI l L F U c k) {v j : Nat} (hv : v < k) : ∀ e ∈ stpJ l (cleanR U (rowOf L (repF c L.length v))) c j, e.2 < k :=
  stpJ_rng fun t ht h0 => h.low _ (by have := (h.row (h.rep hv).1).2 t ht; omega)
theorem SmI.rng (h : SmI l L F U c k) (i : Nat) : ∀ v ∈ (StS l L F U c i).1.1, v < k :=
  stB_all (P := fun v => v < k) (h.low 0 h.zero.1) (fun v hv e he => by
    unfold stpS at he
    rw [← stpJ_cstp (j := l.length) (Nat.le_refl _)] at he
    exact h.steps hv e he) i
theorem SmI.len (h : SmI l L F U c k) (i : Nat) : (StS l L F U c i).1.1.length ≤ k := nodup_len (stB_nodup i) (h.rng i)
theorem SmI.canT_eq (h : SmI l L F U c k) : bfsM (stpS l L U c) (finS F c L.length) (c 0) L.length = canT l L F := by
  have hs := sm_canon (ls := l) (row := rowOf L) (fin := finOf F) (n := L.length) h.ok.inc h.ok.lens h.ok.rngs h.use (c := c) (rep := repF c L.length) h.same (fun s hs => repF_spec hs) h.zero.1 h.zero.2 (f := L.length) (Nat.le_refl _)
  unfold smM at hs
  rw [if_neg (by rw [h.zero.2]; simp; have := h.zero.1; intro e; rw [e] at this; simp at this)] at hs
  exact hs
/-- The fault, when a stage is too large. -/
theorem SmI.big (h : SmI l L F U c k) {i : Nat} (hi : i ≤ L.length) (hb : 400 < (StS l L F U c i).1.1.length ∨ 2000 < (StS l L F U c i).1.2.length) : limR (canT l L F) = (⟨0, [], []⟩, (17, -1)) := by
  rw [← h.canT_eq]
  unfold StS at hb
  obtain ⟨h1, h2⟩ := stB_len (stp := stpS l L U c) (fin := finS F c L.length) (s0 := c 0) hi
  unfold limR
  rw [if_pos]
  rcases hb with hb | hb
  · exact .inl (by omega)
  · exact .inr (by omega)
theorem SmI.done (h : SmI l L F U c k) {i : Nat} (hi : i ≤ L.length) (he : (StS l L F U c i).1.1.length ≤ i) (h1 : (StS l L F U c i).1.1.length ≤ 400) (h2 : (StS l L F U c i).1.2.length ≤ 2000) : limR (canT l L F) = (⟨((StS l L F U c i).1.1.length : Int), (StS l L F U c i).1.2, (StS l L F U c i).2⟩, (0, 0)) := by
  rw [← h.canT_eq, stB_end he hi]
  unfold limR
  rw [if_neg]
  rintro (g | g)
  · have g : (400 : Int) < (((StS l L F U c i).1.1.length : Nat) : Int) := g
    omega
  · have g : 2000 < (StS l L F U c i).1.2.length := g
    omega
theorem canT_not (hok : SmOk l L F.length) (hU : ∀ s, s < L.length → (U s = true ↔ ∃ w, accS (tstp l (rowOf L)) (finOf F) s w)) (h : L.length = 0 ∨ U 0 = false) : limR (canT l L F) = (⟨0, [], []⟩, (0, 0)) := by
  have e : canT l L F = ⟨0, [], []⟩ := by
    by_cases h0 : L.length = 0
    · exact canT_zero h0 hok.fin
    · rcases h with h | h
      · exact absurd h h0
      · refine canT_none fun hw => ?_
        rw [(hU 0 (by omega)).2 hw] at h
        cases h
  rw [e]
  unfold limR
  rw [if_neg (by simp)]
theorem SmI.of (hok : SmOk l L F.length) (hU : ∀ s, s < L.length → (U s = true ↔ ∃ w, accS (tstp l (rowOf L)) (finOf F) s w)) : Tab l (fun s => cleanR U (rowOf L s)) (finOf F) L.length := tab_clean hok.inc hok.lens hok.rngs hU
end
/-! Rows in memory. -/
section
open Go Go.RowKit
theorem rowIs_ne {w : World} {base sz n m g : Nat} {e t : TypeId} {v : Value} {xs : List Value} {f : Nat → Value} (h : w.ownsRow base e sz v n xs) (hr : w.rowIs g t m f) (hne : e ≠ t) : v.ownBlock ≠ some g := by
  obtain ⟨c, hb, _⟩ := hr
  exact own_bne h (show Blk w g t c from hb) hne
theorem own_apart {w w' : World} {b1 s1 n1 b2 s2 n2 : Nat} {e1 e2 : TypeId} {v1 v2 : Value} {x1 x2 : List Value} (h1 : w.ownsRow b1 e1 s1 v1 n1 x1) (h2 : w'.ownsRow b2 e2 s2 v2 n2 x2) (hb : w.heap.size ≤ b2) : v1.ownBlock = none ∨ v1.ownBlock ≠ v2.ownBlock := by
  cases e : v1.ownBlock with
  | none => exact .inl rfl
  | some k =>
    right
    intro e2
    have := (h1.lt k e).2
    have := (h2.lt k e2.symm).1
    omega
/-- The block of a value has not changed, or is a new one. -/
theorem apart_at {w : World} {base sz n : Nat} {e : TypeId} {v v0 v1 : Value} {xs : List Value} (h : w.ownsRow base e sz v n xs) (hd : v.ownBlock = none ∨ v.ownBlock ≠ v0.ownBlock) (hat : v1.ownBlock = v0.ownBlock ∨ v1.ownBlock = some w.heap.size ∨ ∃ H, v1.ownBlock = some H ∧ w.heap.size ≤ H) : v.ownBlock = none ∨ v.ownBlock ≠ v1.ownBlock := by
  cases e : v.ownBlock with
  | none => exact .inl rfl
  | some k =>
    right
    have hk := (h.lt k e).2
    rcases hat with g | g | ⟨H, g, hH⟩
    · rw [g, ← e]
      rcases hd with d | d
      · rw [d] at e; cases e
      · exact d
    · rw [g]; intro e2; injection e2 with e2; omega
    · rw [g]; intro e2; injection e2 with e2; omega
theorem apart_sym {v v0 : Value} (h : v.ownBlock = none ∨ v.ownBlock ≠ v0.ownBlock) : v0.ownBlock = none ∨ v0.ownBlock ≠ v.ownBlock := by
  rcases h with h | h
  · rw [h]
    cases v0.ownBlock <;> simp
  · exact .inr (Ne.symm h)
variable {w w1 : World} {base : Nat} {eO eI : TypeId} {sz G n : Nat} {vs : Nat → Value} {L : Nat → List Value} {m : Nat → Nat}
theorem OwnLL.congr {L' : Nat → List Value} {m' : Nat → Nat} (h : OwnLL w base eO eI sz G n vs L m) (e : ∀ i, i < n → L i = L' i) (e' : ∀ i, i < n → m i = m' i) : OwnLL w base eO eI sz G n vs L' m' :=
  ⟨h.row, h.low, fun i hi => by rw [← e i hi, ← e' i hi]; exact h.own i hi, h.dis⟩
theorem OwnLL.farB (h : OwnLL w base eO eI sz G n vs L m) {p : Addr} (hG : G ≠ p.block) (hp : ∀ i, i < n → (vs i).ownBlock ≠ some p.block) (u : Value) : OwnLL (w.setCell p u) base eO eI sz G n vs L m :=
  ⟨h.row.setOther hG u, h.low, fun i hi => ownsRow_setCell_other (h.own i hi) (hp i hi) u, h.dis⟩
/-- A store into one cell of one row. -/
theorem OwnLL.store (h : OwnLL w base eO eI sz G n vs L m) {i g c : Nat} (hi : i < n) (hv : vs i = .slice (some ⟨g, 0, none⟩) (m i) c) (j : Nat) (u : Value) :
    OwnLL (w.setCell ⟨g, j, none⟩ u) base eO eI sz G n vs (fun k => if k = i then (L i).set j u else L k) m := by
  have h1 := h.own i hi
  rw [hv] at h1
  obtain ⟨h2, hg⟩ := h1.stored j u
  have hob : (vs i).ownBlock = some g := by rw [hv]; rfl
  have hGg : G ≠ g := by have := ((h.own i hi).lt g hob).1; have := h.low; omega
  refine ⟨h.row.setOther hGg u, h.low, fun k hk => ?_, h.dis⟩
  by_cases e : k = i
  · subst e
    simp only [if_pos]
    rw [hv]
    exact h2
  · simp only [if_neg e]
    refine (h.own k hk).kept hg ?_
    rw [← hob]
    exact h.dis k i hk hi e
theorem OwnLL.rdl {r : Nat → List Int} (h : OwnLL w base eO eI 1 G n vs (fun i => intRow (r i)) m) (hm : ∀ i, i < n → m i ≤ big) : RdL w w.heap.size (some ⟨G, 0, none⟩) n ((List.range n).map r) := by
  refine ⟨vs, fun hn => ⟨G, 0, rfl, h.row.lt, fun i j hi hj => ?_⟩, fun i hi => ?_⟩
  · obtain rfl : j = 0 := by omega
    rw [Nat.zero_add, Nat.mul_one, Nat.add_zero]
    exact h.row.cell hi
  · have e : ((List.range n).map r).getD i [] = r i := by simp [List.getD, hi]
    rw [e]
    exact nums_own (h.own i hi) (hm i hi)
end
end Gm
namespace Gm
open Go Go.RowKit
/-- A row that has just been made is put in its place. -/
theorem OwnLL.put {w w1 : World} {base : Nat} {eO eI : TypeId} {sz G n : Nat} {vs : Nat → Value} {L : Nat → List Value} {m : Nat → Nat} (h : OwnLL w base eO eI sz G n vs L m) (hb : base ≤ w.heap.size) (hbw : Below w.heap.size w w1) {i : Nat} {v' : Value} {m' : Nat} {xs' : List Value} (hown : w1.ownsRow w.heap.size eI sz v' m' xs') :
    OwnLL (w1.setCell ⟨G, i, none⟩ v') base eO eI sz G n (fun j => if j = i then v' else vs j) (fun j => if j = i then xs' else L j) (fun j => if j = i then m' else m j) := by
  have h1 := h.below hbw
  have hset : ∀ (v : Value) (k : Nat) (xs : List Value), w1.ownsRow base eI sz v k xs → (w1.setCell ⟨G, i, none⟩ v').ownsRow base eI sz v k xs := fun v k xs hh => ownsRow_setCell_below hh (a := ⟨G, i, none⟩) h.low v'
  have hnew : ∀ j, j < n → (vs j).ownBlock = none ∨ (vs j).ownBlock ≠ v'.ownBlock := fun j hj => own_apart (h.own j hj) hown (Nat.le_refl _)
  refine ⟨h1.row.set i v', h.low, fun j hj => ?_, fun j k hj hk hjk => ?_⟩
  · by_cases e : j = i
    · simp only [if_pos e]
      exact hset _ _ _ (own_low hown hb)
    · simp only [if_neg e]
      exact hset _ _ _ (h1.own j hj)
  · by_cases e : j = i
    · by_cases e2 : k = i
      · omega
      · simp only [if_pos e, if_neg e2]
        exact apart_sym (hnew k hk)
    · by_cases e2 : k = i
      · simp only [if_neg e, if_pos e2]
        exact hnew j hj
      · simp only [if_neg e, if_neg e2]
        exact h.dis j k hj hk hjk
end Gm
