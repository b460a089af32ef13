/- product.useful, walked: the couples that are on a path, in order. Written by gen_us.py. -/
import Derived.Test.YtmgpcnkmmgkjgaaXpW
import Derived.Test.YtmgpcnkmmgkjgaaSrS
import Derived.Shelf.SlSortCmp.NoneTotal
import Derived.IntWalk
import Derived.Maps.RangeWalk
namespace Gm
open Go Go.RowKit Go.Proofs Go.Sort
set_option linter.unusedSimpArgs false
set_option linter.unusedVariables false
/-- Couples with small numbers. -/
abbrev Cs : Type := {c : Fnl // okC c}
instance : Inhabited Cs := ⟨⟨⟨0, 0⟩, by unfold okC; simp⟩⟩
def encQ (c : Cs) : List Value := [.int .i64 c.1.s, .int .i64 c.1.w]
def cplCmp (x y : Cs) : Int := if x.1.s ≠ y.1.s then x.1.s - y.1.s else x.1.w - y.1.w
theorem ltOf_cpl (x y : Cs) : ltOf cplCmp x y = true ↔ cLt x.1 y.1 := by
  rw [ltOf, decide_eq_true_eq]
  unfold cplCmp cLt
  split <;> omega
theorem swo_cpl : SWO (ltOf cplCmp) where
  irrefl x := by
    cases e : ltOf cplCmp x x
    · rfl
    · exact absurd ((ltOf_cpl x x).1 e) (cLt_irrefl _)
  trans x y z h1 h2 := by rw [ltOf_cpl] at *; exact cLt_trans h1 h2
  ntrans x y z h1 h2 := by
    cases e : ltOf cplCmp x z
    · rfl
    · exfalso
      have e := (ltOf_cpl x z).1 e
      have h1 : ¬ cLt x.1 y.1 := fun h => by rw [(ltOf_cpl x y).2 h] at h1; cases h1
      have h2 : ¬ cLt y.1 z.1 := fun h => by rw [(ltOf_cpl y z).2 h] at h2; cases h2
      unfold cLt at *
      omega
def unC (l : List Cs) : List Fnl := l.map (·.1)
theorem encQ_get (c : Cs) (j : Nat) (hj : j < 2) : (encQ c)[j]? = some (finCell [c.1] 0 j) := by
  rcases (by omega : j = 0 ∨ j = 1) with rfl | rfl <;> rfl
theorem flatQ_get (l : List Cs) (t : Nat) (h : t < l.length * 2) : (finRow (unC l))[t]? = some (flatK encQ 2 l.toArray)[t]! := by
  have hi : t / 2 < l.length := by omega
  have hi' : t / 2 < (unC l).length := by unfold unC; rw [List.length_map]; exact hi
  have hj : t % 2 < 2 := Nat.mod_lt _ (by omega)
  have h1 := finRow_at (unC l) (t / 2) (t % 2) hi' hj
  rw [show t / 2 * 2 + t % 2 = t by omega] at h1
  rw [h1, get_flatK _ _ _ _ (by simpa using h)]
  have h3 : l.toArray[t / 2]! = l[t / 2] := by
    rw [getElem!_pos l.toArray (t / 2) (by simpa using hi)]
    simp
  have h4 : (unC l).getD (t / 2) dF = l[t / 2].1 := by
    unfold unC
    simp [hi]
  rw [h3]
  congr 1
  rw [List.getElem!_eq_getElem?_getD, encQ_get _ _ hj]
  rcases (by omega : t % 2 = 0 ∨ t % 2 = 1) with e | e <;> (rw [e]; simp only [List.getD_eq_getElem?_getD] at h4; simp [finCell, h4])
theorem holdsQ_own {w : World} {base n c g : Nat} {e : TypeId} {l : List Cs} (h : w.ownsRow base e 2 (.slice (some ⟨g, 0, none⟩) n c) n (finRow (unC l))) (hl : l.length = n) (hn : 0 < n) : HoldsK encQ 2 w g 0 l.toArray := by
  intro j hj
  rw [size_flatK] at hj
  have hj' : j < l.length * 2 := by simpa using hj
  have hc := h.cells (g := g) rfl j _ (flatQ_get l j hj')
  have hadd : (⟨g, 0, none⟩ : Addr).add j = ⟨g, 0 + j, none⟩ := by unfold Addr.add; split <;> simp_all
  rw [hadd] at hc
  refine ⟨hc, ?_⟩
  rcases h.2 with ⟨_, h0⟩ | ⟨g', cap', cur, h1, h2, h3, h4⟩
  · omega
  · injection h1 with h1 _ hc
    injection h1 with h1
    injection h1 with h1
    subst h1
    simp [World.frozen?, h3]
theorem ownQ_sorted {w : World} {base n c g m : Nat} {e : TypeId} {l k : List Cs} {os : Array Obj} (h : w.ownsRow base e 2 (.slice (some ⟨g, 0, none⟩) n c) n (finRow (unC l))) (hl : l.length = n) (hk : k.length = n) (hn : 0 < n) :
    (sortWorldK encQ 2 w g 0 m k.toArray os).ownsRow base e 2 (.slice (some ⟨g, 0, none⟩) n c) n (finRow (unC k)) ∧ w.grownBy (sortWorldK encQ 2 w g 0 m k.toArray os) (some g) := by
  have hkl : (unC k).length = n := by unfold unC; rw [List.length_map, hk]
  rcases h.2 with ⟨_, h0⟩ | ⟨g', cap', cur, h1, h2, h3, h4, h5, h6, h7⟩
  · omega
  · injection h1 with h1 _ hc
    injection h1 with h1
    injection h1 with h1
    subst h1
    have hsz : g < w.heap.size := (Array.getElem?_eq_some_iff.1 h3).1
    have hblk : (sortWorldK encQ 2 w g 0 m k.toArray os).heap[g]? = some (.cells (putCells id 0 (flatK encQ 2 k.toArray) cur) e (0, 0)) := by
      simp only [sortWorldK, putRowK, putRow, grow, mapBlock, Sort.ahead]
      rw [Array.getElem?_append_left (by simpa using hsz), Array.getElem?_modify, if_pos rfl, h3]
      rfl
    refine ⟨⟨by rw [finRow_length, hkl], .inr ⟨g, cap', putCells id 0 (flatK encQ 2 k.toArray) cur, by rw [hc], h2, hblk, h4, h5, ?_, ?_⟩⟩, ?_⟩
    · simp [putCells, h6]
    · have hle : n * 2 ≤ cur.size := by rw [h6]; omega
      apply List.ext_getElem?
      intro t
      by_cases ht : t < n * 2
      · rw [List.getElem?_take_of_lt ht, flatQ_get k t (by rw [hk]; exact ht)]
        have hs : t < cur.size := by omega
        simp [putCells, hs, hk, ht]
      · rw [List.getElem?_eq_none (by simp [putCells]; omega), List.getElem?_eq_none (by rw [finRow_length, hkl]; omega)]
    · refine ⟨rfl, rfl, rfl, ?_, ?_⟩
      · simp [sortWorldK, putRowK, putRow, grow, mapBlock, Sort.ahead]
      · intro q hq hne
        simp only [sortWorldK, putRowK, putRow, grow, mapBlock, Sort.ahead]
        rw [Array.getElem?_append_left (by simpa using hq), Array.getElem?_modify, if_neg (fun e => hne (by rw [e]))]
theorem lift_cs : ∀ l : List Fnl, (∀ c ∈ l, okC c) → ∃ k : List Cs, unC k = l
  | [], _ => ⟨[], rfl⟩
  | c :: l, h => by
    obtain ⟨k, rfl⟩ := lift_cs l (fun d hd => h d (by simp [hd]))
    exact ⟨⟨c, h c (by simp)⟩ :: k, rfl⟩
end Gm
namespace Go.Proofs.Ytmgpcnkmmgkjgaa
open Go.RowKit Gm Go.Sort Go.Shelf
set_option linter.unusedSimpArgs false
set_option linter.unusedVariables false
set_option maxHeartbeats 400000 in
theorem cplcmp_grow (x y : Cs) (w : World) :
    Calls Try.prog 61 #[.agg #[.int .i64 x.1.s, .int .i64 x.1.w], .agg #[.int .i64 y.1.s, .int .i64 y.1.w]] w fun e w' => e = .returned (.int .i64 (cplCmp x y)) ∧ ∃ q os', w' = grow (w.drewN q) os' := by
  obtain ⟨⟨a, b⟩, ha⟩ := x
  obtain ⟨⟨c, d⟩, hc⟩ := y
  unfold okC at ha hc
  dsimp only at ha hc ⊢
  have w1 : IntKind.i64.wrap (a - c) = a - c := IntWalk.i64_in _ (by omega)
  have w2 : IntKind.i64.wrap (b - d) = b - d := IntWalk.i64_in _ (by omega)
  by_cases h : a = c
  · have t : (a != c) = false := by simp [h]
    have e : cplCmp ⟨⟨a, b⟩, ha⟩ ⟨⟨c, d⟩, hc⟩ = b - d := by unfold cplCmp; rw [if_neg (by simpa using h)]
    rw [e]
    clear h ha hc e
    go_enter Try.func61, Try.ntmps61
    go_wp2
    go_ret
    refine ⟨rfl, 0, ?os, ?eq⟩
    case eq => rw [alloc_eq_grow, alloc_eq_grow]; exact grow_grow _ _ _
  · have t : (a != c) = true := by simp [h]
    have e : cplCmp ⟨⟨a, b⟩, ha⟩ ⟨⟨c, d⟩, hc⟩ = a - c := by unfold cplCmp; rw [if_pos (by simpa using h)]
    rw [e]
    clear h ha hc e
    go_enter Try.func61, Try.ntmps61
    go_wp2
    go_ret
    refine ⟨rfl, 0, ?os, ?eq⟩
    case eq => rw [alloc_eq_grow, alloc_eq_grow]; exact grow_grow _ _ _
theorem isAggQ : ∀ w, (isAgg (Try.laySortC_ren.t 24)).run Try.prog w = .ok true w := fun w => by kernel_rfl
theorem sizeOfQ : ∀ w, (Go.sizeOf (Try.laySortC_ren.t 24)).run Try.prog w = .ok 2 w := fun w => by kernel_rfl
theorem sortc_own (l : List Cs) (n c g base : Nat) (w : World) (hl : l.length = n) (hn : 0 < n) (hn2 : n ≤ 1000000000) (h : w.ownsRow base 65 2 (.slice (some ⟨g, 0, none⟩) n c) n (finRow (unC l))) :
    Calls Try.prog 60 #[.slice (some ⟨g, 0, none⟩) n c, .func (.func 61) #[] #[]] w fun e w' => e = .returned (.tuple #[]) ∧ ∃ k : List Cs, k.Perm l ∧ (k.Pairwise fun x y => ¬ cLt y.1 x.1) ∧ w'.ownsRow base 65 2 (.slice (some ⟨g, 0, none⟩) n c) n (finRow (unC k)) ∧ w.grownBy w' (some g) := by
  have eg : ∀ args w, (callFunc 61 args).run Try.prog w = .ok (.enter 61 args) w := enters_of Try.func61 (by kernel_rfl) rfl
  have hblk := (h.lt g rfl).2
  have hcon := AnyQ.slices_SortFunc Try.laySortC 2 isAggQ sizeOfQ encQ (fun _ => rfl) (fun x v hv => by simp [encQ] at hv; rcases hv with rfl | rfl <;> rfl) cplCmp swo_cpl 61 #[] g 0 c l.toArray w eg
    (fun _ _ _ _ x y => cplcmp_grow x y _) (holdsQ_own h hl hn) hblk (by simp; omega)
  rw [show l.toArray.size = n by simpa using hl] at hcon
  change Calls Try.prog 60 _ _ _ at hcon
  refine hcon.mono ?_
  rintro e w' ⟨rfl, d', m, os, hp, hs, rfl⟩
  have hz : d'.size = n := by have := hp.1; simpa [hl] using this
  have hperm : d'.toList.Perm l := by
    have h2 := hp.2.2
    rw [Array.extract_eq_self_of_le (by omega), Array.extract_eq_self_of_le (by simp; omega)] at h2
    simpa using h2
  have hsort : d'.toList.Pairwise fun x y => ¬ cLt y.1 x.1 := by
    refine List.pairwise_iff_getElem.2 fun i j hi hj hij => ?_
    have h2 := hs i j (Nat.zero_le _) hij (by simpa [hz] using hj)
    rw [getElem!_pos d' j (by simpa using hj), getElem!_pos d' i (by simpa using hi)] at h2
    intro hc
    have := (ltOf_cpl _ _).2 hc
    simp at h2 this
    rw [h2] at this; cases this
  have hd : d' = d'.toList.toArray := by simp
  refine ⟨rfl, d'.toList, hperm, hsort, ?_⟩
  rw [hd]
  exact ownQ_sorted h hl (by simpa using hz) hn
theorem sortc_none (A : Option Addr) (c : Nat) (w : World) :
    Calls Try.prog 60 #[.slice A 0 c, .func (.func 61) #[] #[]] w fun e w' => e = .returned (.tuple #[]) ∧ w' = w := by
  have h := AnyF.slices_SortFunc_none Try.laySortC A c (.func (.func 61) #[] #[]) w
  exact h
/-- Sorting couples, at a row that may be empty. -/
theorem sortc_any (l : List Fnl) (n base : Nat) (v : Value) (w : World) (hl : l.length = n) (hn2 : n ≤ 1000000000) (hok : ∀ c ∈ l, okC c) (h : w.ownsRow base 65 2 v n (finRow l)) :
    Calls Try.prog 60 #[v, .func (.func 61) #[] #[]] w fun e w' => e = .returned (.tuple #[]) ∧ ∃ k : List Fnl, k.Perm l ∧ (k.Pairwise fun x y => ¬ cLt y x) ∧ w'.ownsRow base 65 2 v n (finRow k) ∧ w.grownBy w' v.ownBlock := by
  obtain ⟨lq, rfl⟩ := lift_cs l hok
  have hlq : lq.length = n := by rw [← hl]; unfold unC; rw [List.length_map]
  by_cases hn : 0 < n
  · obtain ⟨g, c, rfl, _⟩ := own_formN5 h hn
    refine (sortc_own lq n c g base w hlq hn hn2 h).mono ?_
    rintro e w' ⟨h1, k, h2, h3, h4, h5⟩
    exact ⟨h1, unC k, h2.map _, List.pairwise_map.2 h3, h4, h5⟩
  · obtain rfl : n = 0 := by omega
    obtain ⟨A, c, rfl, _⟩ := own_value h
    obtain rfl : lq = [] := List.length_eq_zero_iff.1 hlq
    exact (sortc_none A c w).mono fun e w' ⟨h1, h2⟩ => by
      subst h2
      exact ⟨h1, [], List.Perm.refl _, List.Pairwise.nil, h, ⟨rfl, rfl, rfl, Nat.le_refl _, fun _ _ _ => rfl⟩⟩
end Go.Proofs.Ytmgpcnkmmgkjgaa
namespace Gm
open Go Go.RowKit
set_option linter.unusedSimpArgs false
set_option linter.unusedVariables false
theorem own_at {w w' : World} {base sz n : Nat} {e : TypeId} {v : Value} {xs : List Value} (h : w.ownsRow base e sz v n xs) (hb : ∀ q, v.ownBlock = some q → w'.heap[q]? = w.heap[q]?) : w'.ownsRow base e sz v n xs := by
  obtain ⟨h1, h2⟩ := h
  refine ⟨h1, ?_⟩
  rcases h2 with h2 | ⟨g, cap, cur, hv, hg, hh, r⟩
  · exact .inl h2
  · exact .inr ⟨g, cap, cur, hv, hg, (hb g (by rw [hv]; rfl)).trans hh, r⟩
theorem wpList_extract {P : Program} {ops : Array Oper} {rest : List Oper} {o : Oper} {A : Act} {w : World} {Q : Exit → Act → World → Prop} (hg : o.guard = none) (t : Operand) (i : Nat) (hop : o.op = Op.extract t i) {vs : Array Value} {v : Value} (ht : A.eval t = .tuple vs) (hv : vs[i]? = some v)
    (hK : wpList P ops Q rest (A.put o.dst v) w) : wpList P ops Q (o :: rest) A w := by
  refine wpList_plain hg fun K' hK' => ?_
  unfold Oper.wp
  have hrun : (Instr.extract (.tuple vs) i).run P w = .ok v w := by simp [Instr.extract, hv]
  simp [execOp, hop, ht, hrun, Result.andThen]
  exact hK' _ _ hK
theorem rd_blk {w : World} {g : Nat} {e : TypeId} {x y : Int} (h : Blk w g e #[.int .i64 x, .int .i64 y]) : Rd w (g + 1) 2 (some ⟨g, 0, none⟩) 1 (finCell [⟨x, y⟩]) := fun _ =>
  ⟨g, 0, rfl, Nat.lt_succ_self _, fun i j hi hj => by
    obtain rfl : i = 0 := by omega
    have h := h.cell (0 + (0 * 2 + j))
    rw [h]
    rcases (by omega : j = 0 ∨ j = 1) with rfl | rfl <;> rfl⟩
/-- What stands at a key; nothing: the empty slice. -/
def vAt (L : List (Fnl × Value)) (k : Fnl) : Value := (lk L k).getD (.slice none 0 0)
/-- The rows of couples that the map of steps backwards holds. -/
def BackR (w : World) (base : Nat) (CT : TypeId) (BL : List (Fnl × Value)) (E : List (Fnl × Fnl)) : Prop :=
  (∀ k, w.ownsRow base CT 2 (vAt BL k) (bk E k).length (finRow (bk E k))) ∧ ∀ k k', k ≠ k' → ∀ q, (vAt BL k).ownBlock = some q → (vAt BL k').ownBlock ≠ some q
theorem BackR.nil (w : World) (base : Nat) (CT : TypeId) : BackR w base CT [] [] :=
  ⟨fun k => World.ownsRow_nil _ _ _ _, fun k k' _ q hq => by simp [vAt, Value.ownBlock] at hq⟩
theorem BackR.below {w w' : World} {base : Nat} {CT : TypeId} {BL : List (Fnl × Value)} {E : List (Fnl × Fnl)} (h : BackR w base CT BL E) (hb : Below w.heap.size w w') : BackR w' base CT BL E :=
  ⟨fun k => own_below' (h.1 k) hb, h.2⟩
theorem BackR.low {w w' : World} {base q : Nat} {CT : TypeId} {BL : List (Fnl × Value)} {E : List (Fnl × Fnl)} (h : BackR w base CT BL E) (hg : w.grownBy w' (some q)) (hq : q < base) : BackR w' base CT BL E :=
  ⟨fun k => own_keepN (h.1 k) hg hq, h.2⟩
/-- One couple is put behind the row of key k. -/
theorem back_rel {wr w6 w8 w9 : World} {base Bb nk : Nat} {CT : TypeId} {BL : List (Fnl × Value)} {E : List (Fnl × Fnl)} {k c : Fnl} {vk v' : Value} {o : Obj} (h : BackR wr base CT BL E) (hBb : Bb < base) (hz : base ≤ wr.heap.size) (hvk : vk = vAt BL k) (hnk : nk = (bk E k).length)
    (h6 : (wr.alloc o).grownBy w6 (some Bb)) (z6 : w6.heap.size = wr.heap.size + 1) (h8 : w6.grownBy w8 vk.ownBlock) (hat : v'.ownBlock = vk.ownBlock ∨ v'.ownBlock = some w6.heap.size) (ho : w8.ownsRow base CT 2 v' (nk + 1) (finRow (bk E k) ++ finRow [c])) (h9 : w8.grownBy w9 (some Bb)) (z9 : w9.heap.size = w8.heap.size) :
    BackR w9 base CT (upL BL k v') (E ++ [(c, k)]) ∧ wr.heap.size ≤ w9.heap.size ∧ (∀ q, q < base → q ≠ Bb → w9.heap[q]? = wr.heap[q]?) ∧ (∀ X, X < wr.heap.size → base ≤ X → (∀ d, (vAt BL d).ownBlock ≠ some X) → (w9.heap[X]? = wr.heap[X]? ∧ ∀ d, (vAt (upL BL k v') d).ownBlock ≠ some X)) := by
  have s8 := h8.size
  have low : ∀ q, q < wr.heap.size → q ≠ Bb → vk.ownBlock ≠ some q → w9.heap[q]? = wr.heap[q]? := fun q hq hne hv => by
    have e1 := Below.heap_alloc wr o q hq
    have e2 := h6.block q (by simp; omega) (fun e => hne (Option.some.inj e))
    have e3 := h8.block q (by omega) (fun e => hv e.symm)
    have e4 := h9.block q (by omega) (fun e => hne (Option.some.inj e))
    rw [e4, e3, e2, e1]
  have hown : ∀ d q, (vAt BL d).ownBlock = some q → base ≤ q ∧ q < wr.heap.size := fun d q hq => (h.1 d).lt q hq
  have hvu : ∀ d, vAt (upL BL k v') d = if d = k then v' else vAt BL d := fun d => by
    unfold vAt; rw [lk_up]; by_cases e : d = k <;> simp [e]
  have hv'b : ∀ q, v'.ownBlock = some q → q ≠ Bb := fun q hq => by have := (ho.lt q hq).1; omega
  refine ⟨⟨fun d => ?_, fun d d' hne q hq => ?_⟩, by omega, fun q hq hne => ?_, fun X hX hXb hno => ⟨low X hX (by omega) (by rw [hvk]; exact hno k), fun d => ?_⟩⟩
  · rw [hvu d, bk_snoc]
    by_cases e : d = k
    · subst e
      rw [if_pos rfl, if_pos rfl, List.length_append, ← hnk, finRow_append]
      exact own_at ho fun q hq => h9.block q (by have := (ho.lt q hq).2; omega) (fun e => hv'b q hq (Option.some.inj e))
    · rw [if_neg e, if_neg e]
      exact own_at (h.1 d) fun q hq => low q (hown d q hq).2 (by have := (hown d q hq).1; omega) (by rw [hvk]; exact h.2 d k e q hq)
  · rw [hvu d] at hq
    rw [hvu d']
    by_cases e : d = k
    · rw [if_pos e] at hq
      have e' : d' ≠ k := fun e2 => hne (by rw [e, e2])
      rw [if_neg e']
      intro h2
      have hb := hown d' q h2
      rcases hat with g | g
      · rw [g, hvk] at hq
        exact h.2 k d' (fun x => e' x.symm) q hq h2
      · rw [g] at hq
        have := Option.some.inj hq
        omega
    · rw [if_neg e] at hq
      have hb := hown d q hq
      by_cases e' : d' = k
      · rw [if_pos e']
        intro h2
        rcases hat with g | g
        · rw [g, hvk] at h2
          exact h.2 d k e q hq h2
        · rw [g] at h2
          have := Option.some.inj h2
          omega
      · rw [if_neg e']
        exact h.2 d d' hne q hq
  · rcases Nat.lt_or_ge q wr.heap.size with hlt | hge
    · exact low q hlt hne (fun e => by rw [hvk] at e; have := (hown k q e).1; omega)
    · omega
  · rw [hvu d]
    by_cases e : d = k
    · rw [if_pos e]
      rcases hat with g | g
      · rw [g, hvk]; exact hno k
      · rw [g]; intro h2; have := Option.some.inj h2; omega
    · rw [if_neg e]; exact hno d
/-- What the map of couples seen holds. -/
def SeenR (SL : List (Fnl × Value)) (D : List Fnl) : Prop := ∀ c, lk SL c = if c ∈ D then some (.int .i64 1) else none
end Gm
namespace Go.Proofs.Ytmgpcnkmmgkjgaa
open Go.RowKit Gm Go.Sort Go.Shelf
set_option linter.unusedSimpArgs false
set_option linter.unusedVariables false
set_option maxRecDepth 100000 in
set_option maxHeartbeats 16000000 in
theorem useful_any (Mb Fb lo : Nat) (a b : Mach) (w : World) (hVa : Valid a) (hVb : Valid b) (hE : ExpP w lo 68 a b Mb Fb true) :
    Calls Try.prog 47 #[.agg #[.map (some Mb), .map (some Fb)]] w fun e w' => ∃ A c, e = .returned (.slice A (keepL a b).length c) ∧ w'.ownsRow w.heap.size 65 2 (.slice A (keepL a b).length c) (keepL a b).length (finRow (keepL a b)) ∧ Below w.heap.size w w' := by
  obtain ⟨_, _, hX, ht0⟩ := hE
  have htot := ht0.1 rfl
  clear ht0
  obtain ⟨L, hM, hK, hST, hF⟩ := hX rfl
  have HVA := hide hVa
  have HVB := hide hVb
  have HK := hide hK
  have hMlt := hM.lt
  have hFlt := hF.lt
  have HM := hide hM
  have HST := hide hST
  have HF := hide hF
  have HTOT := hide htot
  have HNDL := hide hM.nodup
  obtain ⟨ic, hi0, hi1, hi2, hi3⟩ := info_parts cpl_info
  clear hX htot hM hK hST hF hVa hVb
  go_enter Try.func47, Try.ntmps47
  have hmm := @run_makeMap Try.prog
  go_upto_region 2 with fail
  clear hmm
  generalize hW1 : World.alloc _ _ = W1
  have HBW1 := hide (show Below w.heap.size w W1 by rw [← hW1]; go_grown)
  have HP1 := hide (show Blk W1 w.heap.size 59 #[.map (some Mb), .map (some Fb)] by rw [← hW1]; exact (Blk.at_ rfl).alloc _)
  have HB1 := hide (show MapIs W1 cplV okC (w.heap.size + 1) [] by rw [← hW1]; have h := MapIs.made (w.alloc (Obj.cells #[.map (some Mb), .map (some Fb)] 59)) cplV okC; simpa using h)
  have hz1 : W1.heap.size = w.heap.size + 1 + 1 := by rw [← hW1]; simp
  obtain ⟨Bb, hBb⟩ : ∃ z, z = w.heap.size + 1 := ⟨_, rfl⟩
  have pc0 : W1.cell? ⟨w.heap.size, 0, none⟩ = some (.map (some Mb)) := HP1.out.cell 0
  have lP := HP1.out.lt
  rw [← hBb] at HB1
  simp only [← hBb]
  have hBw : w.heap.size < Bb := by omega
  have hB1 : W1.heap.size ≤ Bb + 1 := by omega
  have hB1' : Bb + 1 ≤ W1.heap.size := by omega
  obtain ⟨base, hbase⟩ : ∃ z, z = Bb + 1 + 1 := ⟨_, rfl⟩
  have hbase1 : base ≤ Bb + 1 + 1 := by omega
  have hbase2 : Bb + 1 + 1 ≤ base := by omega
  clear hW1 hz1 hBb hbase
  go_upto_region 3 with (at_range; refine wpList_range_is rfl _ 56 rfl Try.underlying56 rfl (HM.out.below HBW1.out hMlt) ?_; intro W2 hrg hg2 hz2)
  try go_frame
  obtain ⟨R1, hR1⟩ : ∃ z, z = W1.heap.size := ⟨_, rfl⟩
  rw [← hR1] at hrg hz2 ⊢
  have HRG := hide hrg
  have HBW2 := hide (HBW1.out.grown hg2 (by omega) (fun q hq => by cases hq))
  have HP2 := hide (show Blk W2 w.heap.size 59 #[.map (some Mb), .map (some Fb)] from (hg2.block _ (by omega) (by simp)).trans HP1.out)
  have HB2 := hide (HB1.out.kept hg2 (by simp))
  have hR1b : Bb < R1 := by omega
  have hR1b2 : R1 < base := by omega
  have hz2' : base ≤ W2.heap.size := by omega
  clear hrg hg2 hz2 hR1 pc0 lP hB1 hB1' HP1 HB1 HBW1
  have HE0 := hide (EI.start (a := a) (b := b) (Q := L.map (·.1)) HNDL.out (fun c => by rw [← lk_isSome]; exact HK.out c))
  have HBR0 := hide (BackR.nil W2 base 65)
  go_loopw [] (fun wr => ∃ (left : List (Fnl × Value)) (E : List (Fnl × Fnl)) (BL : List (Fnl × Value)), Hid (RangeIs wr cplV okC Mb R1 L left) ∧ Hid (EI a b E (left.map (·.1))) ∧ Hid (BackR wr base 65 BL E) ∧ Hid (MapIs wr cplV okC Bb BL) ∧ Hid (Blk wr w.heap.size 59 #[.map (some Mb), .map (some Fb)]) ∧ Hid (Below w.heap.size w wr) ∧ base ≤ wr.heap.size) (fun wr => wr.rangeLeft Mb R1)
  case atStart => exact ⟨L, [], [], HRG, HE0, HBR0, HB2, HP2, HBW2, hz2'⟩
  case round =>
    clear HRG HE0 HBR0 HB2 HP2 HBW2 hz2'
    obtain ⟨left, E, BL, HRG, HEI, HBR, HB, HP, HBW, hz⟩ := hrel
    go_wp2_with (at_next; refine wpList_next_is rfl _ rfl rfl HRG.out ?_ ?_)
    · intro hleft
      subst hleft
      have HEI1 := hide (show EI a b E [] from HEI.out)
      obtain ⟨LF, hLF⟩ : ∃ z, z = finsE (fun c => (lk L c).isSome) a.fins b.fins := ⟨_, rfl⟩
      rw [← hLF] at HF
      have hLFl : LF.length ≤ 160000 := by
        rw [hLF]
        have h1 := flatMap_len (f := fun x => finE (fun c => (lk L c).isSome) x b.fins) (q := b.fins.length) (fun x => by unfold finE; rw [List.length_map]; exact List.length_filter_le _ _) a.fins
        have h2 := HVA.out.finLen
        have h3 := HVB.out.finLen
        have h4 : a.fins.length * b.fins.length ≤ 400 * 400 := Nat.mul_le_mul h2 h3
        unfold finsE
        omega
      have HLF := hide hLF
      have HROW := hide (show ∀ k q, (vAt BL k).ownBlock = some q → q < wr.heap.size from fun k q hq => ((HBR.out.1 k).lt q hq).2)
      obtain ⟨wa, rfl⟩ : ∃ W : World, W = wr := ⟨_, rfl⟩
      clear hLF HRG HEI
      have hmm := @run_makeMap Try.prog
      go_upto_region 12 with fail
      clear hmm
      generalize hV1 : World.alloc _ _ = V1
      obtain ⟨Sb, hSb⟩ : ∃ z, z = wa.heap.size := ⟨_, rfl⟩
      have hbV : Below wa.heap.size wa V1 := by rw [← hV1]; exact (Below.refl _ _).alloc (Nat.le_refl _) _
      have HS1 := hide (show MapIs V1 cplV okC Sb [] by rw [← hV1, hSb]; exact MapIs.made wa cplV okC)
      have HBR1 := hide (HBR.out.below hbV)
      have HB1 := hide (HB.out.below hbV HB.out.lt)
      have HP1 := hide (HP.out.below hbV HP.out.lt)
      have HBW1 := hide (HBW.out.trans (hbV.mono (by omega)))
      have hV1z : V1.heap.size = wa.heap.size + 1 := by rw [← hV1]; simp
      have hV1a : V1.heap.size ≤ Sb + 1 := by omega
      have hV1b : Sb + 1 ≤ V1.heap.size := by omega
      have hSbb : base ≤ Sb := by omega
      rw [← hSb] at HROW
      simp only [← hSb]
      have HF1 := hide (HF.out.below HBW1.out hFlt)
      have pc1 : V1.cell? ⟨w.heap.size, 1, none⟩ = some (.map (some Fb)) := HP1.out.cell 1
      have lP := HP1.out.lt
      clear hV1 hbV hV1z hSb HBR HB HP HBW hz
      go_upto_region 13 with (at_range; refine wpList_range_is rfl _ 57 rfl Try.underlying57 rfl HF1.out ?_; intro V2 hrg hg2 hz2)
      try go_frame
      obtain ⟨R2, hR2⟩ : ∃ z, z = V1.heap.size := ⟨_, rfl⟩
      rw [← hR2] at hrg hz2 ⊢
      have HRG := hide hrg
      have HBR2 := hide (show BackR V2 base 65 BL E from ⟨fun k => own_at (HBR1.out.1 k) (fun q hq => hg2.block q (by have := HROW.out k q hq; omega) (by simp)), HBR1.out.2⟩)
      have HB2 := hide (HB1.out.kept hg2 (by simp))
      have HS2 := hide (HS1.out.kept hg2 (by simp))
      have HP2 := hide (HP1.out.grown hg2 (by simp))
      have HBW2 := hide (HBW1.out.grown hg2 (by omega) (fun q hq => by cases hq))
      obtain ⟨base2, hb2⟩ : ∃ z, z = R2 + 1 := ⟨_, rfl⟩
      have hR2a : Sb < R2 := by omega
      have hR2b : R2 < base2 := by omega
      have hV2z : base2 ≤ V2.heap.size := by omega
      have HPE0 := hide (show (([] : List Fnl) ++ LF.map (·.1)).Perm (LF.map (·.1)) by simp)
      clear hrg hg2 hz2 hR2 hb2 pc1 lP HBR1 HB1 HS1 HP1 HBW1 HF1
      go_loopw [9] (fun v9 wr => ∃ (left : List (Fnl × Value)) (T : List Fnl), Hid (RangeIs wr cplV okC Fb R2 LF left) ∧ Hid (wr.ownsRow base2 65 2 v9 T.length (finRow T)) ∧ Hid ((T ++ left.map (·.1)).Perm (LF.map (·.1))) ∧ Hid (MapIs wr cplV okC Sb []) ∧ Hid (Below Sb V2 wr) ∧ base2 ≤ wr.heap.size) (fun _ wr => wr.rangeLeft Fb R2)
      case atStart => exact ⟨LF, [], HRG, hide (World.ownsRow_nil _ _ _ _), HPE0, HS2, hide (Below.refl _ _), hV2z⟩
      case round =>
        clear HRG HPE0 HS2 hV2z
        obtain ⟨left, T, HRG, HOT, HPE, HS, HBV, hz⟩ := hrel
        go_wp2_with (at_next; refine wpList_next_is rfl _ rfl rfl HRG.out ?_ ?_)
        · intro hleft
          subst hleft
          have hpe := HPE.out
          simp only [List.map_nil, List.append_nil] at hpe
          have hTl : T.length ≤ 160000 := by have := hpe.length_eq; simp at this; omega
          have HTK := hide (show ∀ c ∈ T, KeepC a b c from fun c hc => by
            have hm := hpe.mem_iff.1 hc
            rw [HLF.out] at hm
            obtain ⟨p, hp, rfl⟩ := List.mem_map.1 hm
            obtain ⟨x, hx, y, hy, hr, rfl⟩ := mem_finsE.1 hp
            exact KeepC.fin (rng_valid HVA.out) (rng_valid HVB.out) hx hy ((HK.out _).1 hr))
          have HTF := hide (show ∀ x ∈ a.fins, ∀ y ∈ b.fins, (⟨x.s, y.s⟩ : Fnl) ∈ reachL a b → (⟨x.s, y.s⟩ : Fnl) ∈ T from fun x hx y hy hr => by
            refine hpe.mem_iff.2 ?_
            rw [HLF.out]
            exact List.mem_map.2 ⟨_, mem_finsE.2 ⟨x, hx, y, hy, (HK.out _).2 hr, rfl⟩, rfl⟩)
          obtain ⟨TF, hTF⟩ : ∃ z, z = T := ⟨_, rfl⟩
          have HUI := hide (show UI a b E TF [] T from ⟨List.nodup_nil, fun c hc => HTK.out c (by simpa using hc), fun c hc => by rw [hTF] at hc; simpa using hc, fun d hd => by cases hd⟩)
          rw [← hTF] at HTF
          obtain ⟨N, hN⟩ : ∃ z, z = a.n.toNat * b.n.toNat := ⟨_, rfl⟩
          have hN2 : N ≤ 160000 := by
            have h4 := HVA.out.n4
            have h4' := HVB.out.n4
            have := Nat.mul_le_mul (show a.n.toNat ≤ 400 by omega) (show b.n.toNat ≤ 400 by omega)
            omega
          have HNN := hide hN
          have hEl : E.length ≤ 200000 := by have := HEI1.out.len; have := HTOT.out; omega
          have HSE := hide (show SeenR [] [] from fun c => by simp)
          have HBVa := hide (HBV.out)
          obtain ⟨V3, rfl⟩ : ∃ W : World, W = wr := ⟨_, rfl⟩
          have hQ : N * 200001 + 160000 ≤ 40000000000 := Nat.le_trans (Nat.add_le_add_right (Nat.mul_le_mul_right 200001 hN2) 160000) (Nat.le_of_ble_eq_true rfl)
          have hT0 : (N - 0) * 200001 + T.length ≤ 40000000000 := by
            rw [Nat.sub_zero]; exact Nat.le_trans (Nat.add_le_add_left hTl _) hQ
          clear hQ
          clear hpe HTK hTF hN HPE HRG
          go_wp2
          go_loopg [9] ((N - 0) * 200001 + T.length) (fun gk v9 wr => ∃ (D T : List Fnl) (SL : List (Fnl × Value)), Hid (wr.ownsRow base2 65 2 v9 T.length (finRow T)) ∧ Hid (MapIs wr cplV okC Sb SL) ∧ Hid (SeenR SL D) ∧ Hid (UI a b E TF D T) ∧ Hid (Below Sb V2 wr) ∧ base2 ≤ wr.heap.size ∧ (N - D.length) * 200001 + T.length ≤ gk ∧ gk ≤ 40000000000)
          case atStart => exact ⟨[], T, [], HOT, HS, HSE, HUI, HBVa, hz, Nat.le_refl _, hT0⟩
          case round =>
            clear HOT HS HSE HUI HBVa HBV hz hT0 hTl
            obtain ⟨D, T, SL, HOT, HS, HSE, HUI, HBV, hz, hgk, hgk2⟩ := hrel
            rcases List.eq_nil_or_concat T with hnil | ⟨T', cc, hcat⟩
            · subst hnil
              have hot0 : wr.ownsRow base2 65 2 _ 0 (finRow []) := HOT.out
              obtain ⟨AT0, cT0, rfl, _, _⟩ := own_value hot0
              have HALL := hide (fun c => HUI.out.all (rng_valid HVA.out) (rng_valid HVB.out) HEI1.out HTF.out (c := c))
              have HBWr := hide (HBW2.out.trans (HBV.out.mono (by omega)))
              have HNDS := hide HS.out.nodup
              have HKS := hide (show ∀ c, c ∈ SL.map (·.1) ↔ KeepC a b c from fun c => by
                rw [← lk_isSome, HSE.out c, ← HALL.out c]
                by_cases e : c ∈ D <;> simp [e])
              have hSlt := HS.out.lt
              obtain ⟨wb, rfl⟩ : ∃ W : World, W = wr := ⟨_, rfl⟩
              clear hot0 HOT HUI HSE hgk hgk2
              go_upto_region 24 with (at_range; refine wpList_range_is rfl _ 57 rfl Try.underlying57 rfl HS.out ?_; intro V4 hrg hg2 hz2)
              try go_frame
              obtain ⟨R3, hR3⟩ : ∃ z, z = wb.heap.size := ⟨_, rfl⟩
              rw [← hR3] at hrg hz2 ⊢
              have HRG := hide hrg
              have HBW4 := hide (HBWr.out.grown hg2 (by have := HBWr.out.size; omega) (fun q hq => by cases hq))
              obtain ⟨base3, hb3⟩ : ∃ z, z = R3 + 1 := ⟨_, rfl⟩
              have hR3a : Sb < R3 := by omega
              have hR3b : R3 < base3 := by omega
              have hV4z : base3 ≤ V4.heap.size := by omega
              have hw3 : w.heap.size ≤ base3 := by have := HBWr.out.size; omega
              have HPE0 := hide (show (([] : List Fnl) ++ SL.map (·.1)).Perm (SL.map (·.1)) by simp)
              have hSLl : SL.length ≤ 160000 := by
                have h1 := len_sub HNDS.out (k := allC a b) (fun x hx => mem_allC.2 (mem_reachL.1 ((HKS.out x).1 hx).1).1)
                rw [List.length_map, allC_len, ← HNN.out] at h1
                omega
              clear hrg hg2 hz2 hR3 hb3 HBWr HBV HS
              go_loopw [12] (fun v12 wr => ∃ (left : List (Fnl × Value)) (l : List Fnl), Hid (RangeIs wr cplV okC Sb R3 SL left) ∧ Hid (wr.ownsRow base3 65 2 v12 l.length (finRow l)) ∧ Hid ((l ++ left.map (·.1)).Perm (SL.map (·.1))) ∧ Hid (Below w.heap.size w wr) ∧ base3 ≤ wr.heap.size) (fun _ wr => wr.rangeLeft Sb R3)
              case atStart => exact ⟨SL, [], HRG, hide (World.ownsRow_nil _ _ _ _), HPE0, HBW4, hV4z⟩
              case round =>
                clear HRG HPE0 HBW4 hV4z
                obtain ⟨left, l, HRG, HOT, HPE, HBW, hz⟩ := hrel
                go_wp2_with (at_next; refine wpList_next_is rfl _ rfl rfl HRG.out ?_ ?_)
                · intro hleft
                  subst hleft
                  have hpe := HPE.out
                  simp only [List.map_nil, List.append_nil] at hpe
                  have hTl : l.length ≤ 160000 := by have := hpe.length_eq; simp at this; omega
                  have HLK := hide (show ∀ c, c ∈ l ↔ KeepC a b c from fun c => by rw [hpe.mem_iff, HKS.out c])
                  have HLN := hide (show l.Nodup from hpe.nodup_iff.2 HNDS.out)
                  have HLOK := hide (show ∀ c ∈ l, okC c from fun c hc => by
                    have hin := (mem_reachL.1 ((HLK.out c).1 hc).1).1
                    have h4 := HVA.out.n4
                    have h4' := HVB.out.n4
                    unfold inC at hin
                    unfold okC; omega)
                  obtain ⟨nl, hnl⟩ : ∃ z, z = l.length := ⟨_, rfl⟩
                  rw [← hnl] at HOT hTl
                  have HNL := hide hnl
                  have HSF := hide (fun W (hW : W = wr) => sortc_any l nl base3 u12 W HNL.out.symm (by omega) HLOK.out (by rw [hW]; exact HOT.out))
                  clear hpe hnl HPE HRG
                  go_wp2_with fail
                  refine (HSF.out _ rfl).mono ?_
                  rintro e w9 ⟨rfl, k, hk1, hk2, hk3, hk4⟩
                  have hke : k = keepL a b := keepL_of hk2 (hk1.nodup_iff.2 HLN.out) (fun c => by rw [hk1.mem_iff, HLK.out c])
                  have hkl : nl = (keepL a b).length := by rw [HNL.out, ← hke]; exact hk1.length_eq.symm
                  subst hke
                  obtain ⟨A9, c9, rfl, _, _⟩ := own_value hk3
                  have HK3 := hide hk3
                  have HKL := hide hkl
                  have HB9 := hide (HBW.out.grown hk4 (by omega) (fun q hq => by have := (HOT.out.lt q hq).1; omega))
                  clear hk1 hk2 hk3 hk4 hkl
                  go_wp2
                  exact bodyPost_ret (v := .slice A9 nl c9) (by simp [results, Try.results47, go_sem]) rfl ⟨A9, c9, by rw [HKL.out], by rw [← HKL.out]; exact own_monoB' HK3.out hw3, HB9.out⟩
                · intro l1 cc vv l2 W3 hleft hmem hrg3 hg3 hz3 hen
                  have HRG3 := hide hrg3
                  have HOT3 := hide (own_keepN HOT.out hg3 (by omega))
                  have HBW3 := hide (HBW.out.grown hg3 (by omega) (fun q hq => by have := Option.some.inj hq; omega))
                  have hz3' : base3 ≤ W3.heap.size := by omega
                  have HRL := hide (show (l1 ++ l2).length < wr.rangeLeft Sb R3 by rw [HRG.out.left_eq, hleft]; simp <;> omega)
                  have hpe := HPE.out
                  rw [hleft, List.map_append, List.map_cons] at hpe
                  have HPE3 := hide (show ((l ++ [cc]) ++ (l1 ++ l2).map (·.1)).Perm (SL.map (·.1)) from by
                    refine List.Perm.trans ?_ hpe
                    rw [List.map_append, List.append_assoc]
                    refine (List.perm_append_left_iff l).2 ?_
                    exact (List.perm_middle (a := cc) (l₁ := l1.map (·.1)) (l₂ := l2.map (·.1))).symm)
                  have hTl : l.length ≤ 160000 := by
                    have := hpe.length_eq
                    simp at this
                    omega
                  obtain ⟨nT, hnT⟩ : ∃ z, z = l.length := ⟨_, rfl⟩
                  rw [← hnT] at HOT3 hTl
                  have HNT := hide hnT
                  obtain ⟨cs, cw⟩ := cc
                  unfold cplV at hen ⊢
                  clear HRG HOT HBW hz hleft hmem hrg3 hg3 hz3 hpe HPE hnT
                  go_wp2_with (at_builtin; refine wpList_append_own _ rfl (.tmp 82) (.tmp 84) 62 rfl base3 65 ic _ 2 16 Try.underlying62 hi0 hi1 hi2 hi3 rfl (by omega) u12 nT _ rfl ((HOT3.out.alloc _).alloc _) ⟨W3.heap.size + 1, 0, none⟩ 1 1 (finRow [⟨cs, cw⟩]) rfl (by rfl) (World.news_of_block (cs := (finRow [⟨cs, cw⟩]).toArray) (t := 65) (fr := (0, 0)) (Blk.at_ (by simp))) (finRow_one _) (by simp only [maxLen]; omega) (by omega) (by simp <;> omega) ?_; intro v' w8 hown8 hg8 _; have HN8 := hide hown8; have HG8 := hide hg8; clear hown8 hg8)
                  have hs8 := HG8.out.size
                  simp at hs8
                  have HLOW := hide (show ∀ q, u12.ownBlock = some q → base3 ≤ q from fun q hq => (HOT3.out.lt q hq).1)
                  have HRG8 := hide (((HRG3.out.alloc _).alloc _).kept HG8.out (fun e => by have := HLOW.out _ e.symm; omega) (fun e => by have := HLOW.out _ e.symm; omega))
                  go_roundw
                  case rel => exact ⟨l1 ++ l2, l ++ [⟨cs, cw⟩], HRG8, hide (by rw [finRow_append, List.length_append, ← HNT.out]; exact HN8.out), HPE3, hide (((HBW3.out.alloc (by omega) _).alloc (by simp <;> omega) _).grown HG8.out (by simp <;> omega) (fun q hq => by have := HLOW.out q hq; omega)), by omega⟩
                  case measure => rw [HRG8.out.left_eq]; exact HRL.out
            · rw [List.concat_eq_append] at hcat
              subst hcat
              have hown := HOT.out
              rw [finRow_append, List.length_append] at hown
              obtain ⟨cs, cw⟩ := cc
              obtain ⟨g, cap, rfl, hg1, hg2⟩ := hown.form (by simp)
              have hown : wr.ownsRow base2 65 2 (.slice (some ⟨g, 0, none⟩) (T'.length + 1) cap) (T'.length + 1) (finRow T' ++ [.int .i64 cs, .int .i64 cw]) := hown
              obtain ⟨A1, c1, hv1, hc1, hc2⟩ := own_value hown
              obtain ⟨rfl, rfl⟩ : A1 = some ⟨g, 0, none⟩ ∧ c1 = cap := by injection hv1 with e1 e2 e3; exact ⟨e1.symm, e3.symm⟩
              clear hv1
              have cT0 : wr.cell? ⟨g, T'.length * 2, none⟩ = some (.int .i64 cs) := by
                rw [hown.cellAt _ (by omega), List.getElem?_append_right (by rw [finRow_length]; exact Nat.le_refl _), finRow_length]; simp
              have cT1 : wr.cell? ⟨g, T'.length * 2 + 1, none⟩ = some (.int .i64 cw) := by
                rw [hown.cellAt _ (by omega), List.getElem?_append_right (by rw [finRow_length]; omega), finRow_length]; simp
              have hpop := ownsRow_pop (finRow_length T') hown
              obtain ⟨n1, hn1⟩ : ∃ z, z = T'.length := ⟨_, rfl⟩
              have hTl2 : (T' ++ [(⟨cs, cw⟩ : Fnl)]).length = n1 + 1 := by rw [hn1]; simp
              rw [hTl2] at hgk
              rw [show ([⟨cs, cw⟩] : List Fnl).length = 1 from rfl]
              rw [← hn1] at hc1 cT0 cT1 hpop ⊢
              have HPOP := hide hpop
              have HN1 := hide hn1
              have hn1b : n1 ≤ 40000000000 := by omega
              have hkc := HUI.out.kp ⟨cs, cw⟩ (by simp)
              have hin := (mem_reachL.1 hkc.1).1
              have hok : okC ⟨cs, cw⟩ := by
                have h4 := HVA.out.n4
                have h4' := HVB.out.n4
                unfold inC at hin
                unfold okC; dsimp only at *; omega
              have HOK := hide hok
              clear hown hpop hn1 hTl2 hkc hin hok HOT
              go_upto_region 19 with fail
              clear cT0 cT1
              generalize hW5 : World.alloc _ _ = W5
              obtain ⟨X5, hX5⟩ : ∃ z, z = wr.heap.size := ⟨_, rfl⟩
              have hb5 : Below wr.heap.size wr W5 := by rw [← hW5]; exact (Below.refl _ _).alloc (Nat.le_refl _) _
              have bX5 : Blk W5 X5 65 #[.int .i64 cs, .int .i64 cw] := by rw [← hW5, hX5]; exact Blk.at_ rfl
              have hs5 : W5.heap.size ≤ wr.heap.size + 1 := by rw [← hW5]; simp
              have hs5' : base2 ≤ W5.heap.size := by have := hb5.size; omega
              have HPOP5 := hide (own_below' HPOP.out hb5)
              have HS5 := hide (HS.out.below hb5 HS.out.lt)
              have HBV5 := hide (HBV.out.trans (hb5.mono (by omega)))
              have k40 : W5.cell? ⟨X5, 0, none⟩ = some (.int .i64 cs) := bX5.cell 0
              have k41 : W5.cell? ⟨X5, 1, none⟩ = some (.int .i64 cw) := bX5.cell 1
              have l4 := bX5.lt
              have HX5 := hide bX5
              have HPW := hide (show ∀ q, (Value.slice (some ⟨g, 0, none⟩) n1 c1).ownBlock = some q → q < X5 from fun q hq => by have := (HPOP.out.lt q hq).2; omega)
              have hX5b : base2 ≤ X5 := by omega
              simp only [← hX5]
              clear hW5 hX5 hb5 bX5 HPOP HS HBV
              by_cases hd : (⟨cs, cw⟩ : Fnl) ∈ D
              · have hl := HSE.out ⟨cs, cw⟩
                rw [if_pos hd] at hl
                have HL := hide (show (lk SL ⟨cs, cw⟩).getD (.int .i64 0) = .int .i64 1 by rw [hl]; rfl)
                have HUK := hide (HUI.out.skip hd)
                clear hl hd
                go_wp2_with (at_lookup; refine wpList_look_one rfl _ _ 57 rfl kl_cpl Try.underlying57 zero_int' rfl HS5.out ⟨cs, cw⟩ rfl HOK.out _ HL.out ?_)
                go_roundg (gk - 1)
                case measure => omega
                case rel => exact ⟨D, T', SL, by rw [← HN1.out]; exact HPOP5, HS5, HSE, HUK, HBV5, hs5', by rw [← HN1.out]; omega, by omega⟩
              · have hl := HSE.out ⟨cs, cw⟩
                rw [if_neg hd] at hl
                have HL := hide (show (lk SL ⟨cs, cw⟩).getD (.int .i64 0) = .int .i64 0 by rw [hl]; rfl)
                have HUK := hide (HUI.out.take (rng_valid HVA.out) (rng_valid HVB.out) HEI1.out hd)
                have hroom := HUK.out.room
                rw [← HNN.out, List.length_append] at hroom
                simp at hroom
                have HSE2 := hide (show SeenR (upL SL ⟨cs, cw⟩ (.int .i64 1)) (D ++ [⟨cs, cw⟩]) from fun c => by
                  rw [lk_up, HSE.out c]
                  by_cases e : c = ⟨cs, cw⟩
                  · subst e; simp
                  · rw [if_neg e]
                    by_cases e2 : c ∈ D
                    · rw [if_pos e2, if_pos (by simp [e2])]
                    · rw [if_neg e2, if_neg (by simp [e2, e])])
                obtain ⟨mb, hmb⟩ : ∃ z, z = (bk E ⟨cs, cw⟩).length := ⟨_, rfl⟩
                have hmbb : mb ≤ 200000 := by rw [hmb]; exact Nat.le_trans (bk_len _ _) hEl
                have HMS := hide (show (N - (D.length + [(⟨cs, cw⟩ : Fnl)].length)) * 200001 + (n1 + mb) ≤ gk - 1 from by
                  rw [List.length_singleton]
                  obtain ⟨r, hr⟩ : ∃ r, N - D.length = r + 1 := ⟨N - D.length - 1, by omega⟩
                  have e1 : N - (D.length + 1) = r := by omega
                  rw [hr, Nat.succ_mul] at hgk
                  rw [e1]
                  clear hr e1
                  generalize r * 200001 = z at *
                  omega)
                have howb := HBR2.out.1 ⟨cs, cw⟩
                rw [← hmb] at howb
                obtain ⟨AB, cB, hvb, hcb, hcb2⟩ := own_value howb
                rw [hvb] at howb
                have HVB2 := hide (show (lk BL ⟨cs, cw⟩).getD (.slice none 0 0) = .slice AB mb cB from hvb)
                have hrow := HROW.out ⟨cs, cw⟩
                rw [hvb] at hrow
                have HOB := hide (own_at (w' := W5) howb (fun q hq => HBV5.out.block q (hrow q hq)))
                have HOBL := hide hrow
                have HMB := hide hmb
                have hAB : AB = none → mb = 0 := fun e => by
                  subst e
                  rcases howb.2 with ⟨_, h0⟩ | ⟨g9, c9, u9, h9, _⟩
                  · exact h0
                  · injection h9 with h9 _ _; cases h9
                have HAB := hide hAB
                clear hl hd hmb howb hvb hrow hAB
                have HB5 := hide ((HB2.out.below HBV5.out (by omega) : MapIs W5 cplV okC Bb BL))
                go_wp2_with (first
                  | (at_lookup; refine wpList_look_one rfl _ _ 57 rfl kl_cpl Try.underlying57 zero_int' rfl HS5.out ⟨cs, cw⟩ rfl HOK.out _ HL.out ?_)
                  | (at_lookup; refine wpList_look_one rfl _ _ 82 rfl kl_cpl Try.underlying82 zero_cpls rfl HB6.out ⟨cs, cw⟩ rfl HOK.out _ HVB2.out ?_)
                  | (at_mapUpdate; refine wpList_mapup rfl _ _ _ 57 rfl kl_cpl Try.underlying57 rfl HS5.out ⟨cs, cw⟩ rfl HOK.out (.int .i64 1) rfl ?_; intro w6 hm6 hg6 hz6; have HM6 := hide hm6; have HG6 := hide hg6; have HPOP6 := hide (own_keepN HPOP5.out hg6 (by omega)); have HOB6 := hide (own_at (w' := w6) HOB.out (fun q hq => hg6.block q (by have := (HOB.out.lt q hq).2; omega) (fun e => by have := HOBL.out q hq; have := Option.some.inj e; omega))); have HB6 := hide (HB5.out.kept hg6 (fun e => by have := Option.some.inj e; omega)); have bX6 := HX5.out.grown hg6 (fun e => by have := Option.some.inj e; omega); have k60 : w6.cell? ⟨X5, 0, none⟩ = some (.int .i64 cs) := bX6.cell 0; have k61 : w6.cell? ⟨X5, 1, none⟩ = some (.int .i64 cw) := bX6.cell 1; have l6 := bX6.lt; have lz6 : W5.heap.size ≤ w6.heap.size := (by omega); clear hm6 hg6 hz6 bX6)
                  | (at_builtin; refine wpList_append_any _ rfl (.tmp 71) (.tmp 74) 62 rfl base2 65 ic _ 2 16 Try.underlying62 hi0 hi1 hi2 hi3 rfl (by omega) (.slice (some ⟨g, 0, none⟩) n1 c1) n1 _ rfl HPOP6.out w6.heap.size AB mb cB (finRow (bk E ⟨cs, cw⟩)) (finCell (bk E ⟨cs, cw⟩)) rfl (Rd.of_own HOB6.out (fun i j hi hj => finRow_at _ i j (by rw [← HMB.out]; exact hi) hj)) HAB.out (by rw [finRow_length, ← HMB.out]) (fun i j hi hj => finRow_at _ i j (by rw [← HMB.out]; exact hi) hj) (finRow_one _) (by simp only [maxLen]; omega) (by omega) (by omega) ?_; intro v' w8 hown8 hg8 _; have HN8 := hide hown8; have HG8 := hide hg8; clear hown8 hg8))
                have hs8 := HG8.out.size
                have HLOW := hide (show ∀ q, (Value.slice (some ⟨g, 0, none⟩) n1 c1).ownBlock = some q → base2 ≤ q from fun q hq => (HPOP6.out.lt q hq).1)
                go_roundg (gk - 1)
                case measure => omega
                case rel => exact ⟨D ++ [⟨cs, cw⟩], T' ++ bk E ⟨cs, cw⟩, _, hide (by rw [finRow_append, List.length_append, ← HN1.out, ← HMB.out]; exact HN8.out), hide (HM6.out.kept HG8.out (fun e => by have := HLOW.out _ e.symm; omega)), HSE2, HUK, hide ((HBV5.out.grown HG6.out (by omega) (fun q hq => by have := Option.some.inj hq; omega)).grown HG8.out (by omega) (fun q hq => by have := HLOW.out q hq; omega)), by omega, by rw [List.length_append, List.length_append, ← HN1.out, ← HMB.out]; exact HMS.out, by omega⟩
        · intro l1 cc vv l2 W3 hleft hmem hrg3 hg3 hz3 hen
          have HRG3 := hide hrg3
          have HOT3 := hide (own_keepN HOT.out hg3 (by omega))
          have HS3 := hide (HS.out.kept hg3 (fun e => by have := Option.some.inj e; omega))
          have HBV3 := hide (HBV.out.grown hg3 (by omega) (fun q hq => by have := Option.some.inj hq; omega))
          have hz3' : base2 ≤ W3.heap.size := by omega
          have HRL := hide (show (l1 ++ l2).length < wr.rangeLeft Fb R2 by rw [HRG.out.left_eq, hleft]; simp <;> omega)
          have hpe := HPE.out
          rw [hleft, List.map_append, List.map_cons] at hpe
          have HPE3 := hide (show ((T ++ [cc]) ++ (l1 ++ l2).map (·.1)).Perm (LF.map (·.1)) from by
            refine List.Perm.trans ?_ hpe
            rw [List.map_append, List.append_assoc]
            refine (List.perm_append_left_iff T).2 ?_
            exact (List.perm_middle (a := cc) (l₁ := l1.map (·.1)) (l₂ := l2.map (·.1))).symm)
          have hTl : T.length ≤ 160000 := by
            have := hpe.length_eq
            simp at this
            omega
          obtain ⟨nT, hnT⟩ : ∃ z, z = T.length := ⟨_, rfl⟩
          rw [← hnT] at HOT3 hTl
          have HNT := hide hnT
          obtain ⟨cs, cw⟩ := cc
          unfold cplV at hen ⊢
          clear HRG HOT HS HBV hz hleft hmem hrg3 hg3 hz3 hpe HPE hnT
          go_wp2_with (at_builtin; refine wpList_append_own _ rfl (.tmp 47) (.tmp 49) 62 rfl base2 65 ic _ 2 16 Try.underlying62 hi0 hi1 hi2 hi3 rfl (by omega) u9 nT _ rfl ((HOT3.out.alloc _).alloc _) ⟨W3.heap.size + 1, 0, none⟩ 1 1 (finRow [⟨cs, cw⟩]) rfl (by rfl) (World.news_of_block (cs := (finRow [⟨cs, cw⟩]).toArray) (t := 65) (fr := (0, 0)) (Blk.at_ (by simp))) (finRow_one _) (by simp only [maxLen]; omega) (by omega) (by simp <;> omega) ?_; intro v' w8 hown8 hg8 _; have HN8 := hide hown8; have HG8 := hide hg8; clear hown8 hg8)
          have hs8 := HG8.out.size
          simp at hs8
          have HLOW := hide (show ∀ q, u9.ownBlock = some q → base2 ≤ q from fun q hq => (HOT3.out.lt q hq).1)
          go_roundw
          case rel => exact ⟨l1 ++ l2, T ++ [⟨cs, cw⟩], hide (((HRG3.out.alloc _).alloc _).kept HG8.out (fun e => by have := HLOW.out _ e.symm; omega) (fun e => by have := HLOW.out _ e.symm; omega)), hide (by rw [finRow_append, List.length_append, ← HNT.out]; exact HN8.out), HPE3, hide (((HS3.out.alloc _).alloc _).kept HG8.out (fun e => by have := HLOW.out _ e.symm; omega)), hide (((HBV3.out.alloc (by omega) _).alloc (by simp <;> omega) _).grown HG8.out (by simp <;> omega) (fun q hq => by have := HLOW.out q hq; omega)), by omega⟩
          case measure =>
            have h1 : RangeIs w8 cplV okC Fb R2 LF (l1 ++ l2) := (((HRG3.out.alloc _).alloc _).kept HG8.out (fun e => by have := HLOW.out _ e.symm; omega) (fun e => by have := HLOW.out _ e.symm; omega))
            rw [h1.left_eq]; exact HRL.out
    · intro l1 cc vv l2 W3 hleft hmem hrg3 hg3 hz3 hen
      have hlk := lk_of_mem HNDL.out hmem
      have hrc : cc ∈ reachL a b := (HK.out cc).1 (by rw [hlk]; rfl)
      obtain ⟨A, n, cp, e1, e2, e3⟩ := HST.out cc hrc
      obtain rfl : vv = .slice A n cp := Option.some.inj (hlk.symm.trans e1)
      have HN := hide e2
      have HRD := hide (Rd.of_own e3 (f := arcCell (stepsOf a b cc)) (by rw [e2]; exact arcRow_at _))
      have HRC := hide hrc
      have HRG3 := hide hrg3
      have HBR3 := hide (HBR.out.low hg3 hR1b2)
      have HB3 := hide (HB.out.kept hg3 (fun e => Nat.ne_of_lt hR1b (Option.some.inj e)))
      have HP3 := hide (HP.out.grown hg3 (fun e => Nat.ne_of_lt (show w.heap.size < R1 by omega) (Option.some.inj e)))
      have HBW3 := hide (HBW.out.grown hg3 (by omega) (fun q hq => by have := Option.some.inj hq; omega))
      have hz3' : base ≤ W3.heap.size := by omega
      have HRL := hide (show W3.rangeLeft Mb R1 < wr.rangeLeft Mb R1 by rw [hrg3.left_eq, HRG.out.left_eq, hleft]; simp <;> omega)
      have hEI := HEI.out
      rw [hleft, List.map_append, List.map_cons] at hEI
      have hlen := hEI.len
      rw [totL_mid, ← e2] at hlen
      have htt := HTOT.out
      have hEn : E.length + n ≤ 200000 := by omega
      have HEI3 := hide hEI
      obtain ⟨cs, cw⟩ := cc
      unfold cplV at hen ⊢
      clear HRG HEI HBR HB HP HBW hz hleft hmem hrg3 hg3 hz3 hlk hrc e1 e2 e3 hEI hlen htt
      go_wp2
      clear hen
      generalize hW4 : World.alloc _ _ = W4
      obtain ⟨X4, hX4⟩ : ∃ z, z = W3.heap.size := ⟨_, rfl⟩
      have HX4 := hide (show Blk W4 X4 65 #[.int .i64 cs, .int .i64 cw] by rw [← hW4, hX4]; exact Blk.at_ rfl)
      have HRG4 := hide (show RangeIs W4 cplV okC Mb R1 L (l1 ++ l2) by rw [← hW4]; exact HRG3.out.alloc _)
      have HBR4 := hide (show BackR W4 base 65 BL (E ++ edg ⟨cs, cw⟩ ((stepsOf a b ⟨cs, cw⟩).take 0)) by rw [← hW4, show E ++ edg ⟨cs, cw⟩ ((stepsOf a b ⟨cs, cw⟩).take 0) = E by simp [edg]]; exact HBR3.out.below ((Below.refl _ _).alloc (Nat.le_refl _) _))
      have HB4 := hide (show MapIs W4 cplV okC Bb BL by rw [← hW4]; exact HB3.out.alloc _)
      have HP4 := hide (show Blk W4 w.heap.size 59 #[.map (some Mb), .map (some Fb)] by rw [← hW4]; exact HP3.out.alloc _)
      have HBW4 := hide (show Below w.heap.size w W4 by rw [← hW4]; exact HBW3.out.alloc (by omega) _)
      have hz4 : base ≤ W4.heap.size := by rw [← hW4]; simp; omega
      have HNX4 := hide (show ∀ d, (vAt BL d).ownBlock ≠ some X4 from fun d e => by have := ((HBR3.out.1 d).lt _ e).2; omega)
      have hX4b : base ≤ X4 := by omega
      have hX4s : W4.rangeLeft Mb R1 = W3.rangeLeft Mb R1 := by rw [HRG4.out.left_eq, HRG3.out.left_eq]
      have hX4z : X4 < W4.heap.size := HX4.out.lt
      have HRL4 := hide (show W4.rangeLeft Mb R1 < wr.rangeLeft Mb R1 by rw [hX4s]; exact HRL.out)
      simp only [← hX4]
      have HRLn := hide (show (l1 ++ l2).length < wr.rangeLeft Mb R1 by rw [← HRG4.out.left_eq]; exact HRL4.out)
      clear hW4 hX4 HRG3 HBR3 HB3 HP3 HBW3 hz3' HRL hX4s
      go_loopw [25] (fun iv wr => ∃ (j : Nat) (BL : List (Fnl × Value)), j ≤ n ∧ iv = .int .i64 j ∧ Hid (RangeIs wr cplV okC Mb R1 L (l1 ++ l2)) ∧ Hid (BackR wr base 65 BL (E ++ edg ⟨cs, cw⟩ ((stepsOf a b ⟨cs, cw⟩).take j))) ∧ Hid (MapIs wr cplV okC Bb BL) ∧ Hid (Blk wr w.heap.size 59 #[.map (some Mb), .map (some Fb)]) ∧ Hid (Below w.heap.size w wr) ∧ base ≤ wr.heap.size ∧ Hid (Blk wr X4 65 #[.int .i64 cs, .int .i64 cw]) ∧ Hid (∀ d, (vAt BL d).ownBlock ≠ some X4)) (fun iv _ => n - (intOf iv).toNat)
      case atStart => exact ⟨0, BL, by omega, rfl, HRG4, HBR4, HB4, HP4, HBW4, hz4, HX4, HNX4⟩
      case round =>
        clear HRG4 HBR4 HB4 HP4 HBW4 hz4 HX4 HNX4 hX4z
        obtain ⟨j, BL, hj, rfl, HRG, HBR, HB, HP, HBW, hz, HX, HNX⟩ := hrel
        by_cases hjn : j < n
        · obtain ⟨blk, off, st, rfl, hbB, c0, c1, c2, c3, c4, HS⟩ := arcs_at (HRD.out.below HBW.out (Nat.le_refl _)) hjn
          have hjl : j < (stepsOf a b ⟨cs, cw⟩).length := by rw [← HN.out]; exact hjn
          have hmem : st ∈ stepsOf a b ⟨cs, cw⟩ := getD_mem hjl HS.out
          have hin := (mem_reachL.1 HRC.out).1
          obtain ⟨s0, s1, s2, s3⟩ := step_in (rng_valid HVA.out) (rng_valid HVB.out) hin hmem
          have hok : okC (toC st) := by
            have h4 := HVA.out.n4
            have h4' := HVB.out.n4
            unfold okC; unfold toC at *; dsimp only at *; omega
          have HOK := hide hok
          have hws := HBW.out.size
          have lb : blk < wr.heap.size := by omega
          have HED := hide (edg_take (c := ⟨cs, cw⟩) hjl HS.out)
          obtain ⟨E', hE'⟩ : ∃ z, z = E ++ edg ⟨cs, cw⟩ ((stepsOf a b ⟨cs, cw⟩).take j) := ⟨_, rfl⟩
          have hEl : E'.length ≤ 200000 := by
            rw [hE', List.length_append, edg_len, List.length_take]
            omega
          rw [← hE'] at HBR
          have HE' := hide hE'
          obtain ⟨vk, hvk⟩ : ∃ z, z = vAt BL (toC st) := ⟨_, rfl⟩
          obtain ⟨nk, hnk⟩ : ∃ z, z = (bk E' (toC st)).length := ⟨_, rfl⟩
          have hnkb : nk ≤ 200000 := by rw [hnk]; exact Nat.le_trans (bk_len _ _) hEl
          have hownk := HBR.out.1 (toC st)
          rw [← hvk, ← hnk] at hownk
          have HVK := hide hvk
          have HNK := hide hnk
          have HOW := hide hownk
          clear hjl hmem hin s0 s1 s2 s3 hok hE' hEl hvk hnk hownk HS
          go_upto_region 8 with fail
          clear c0 c1 c2 c3 c4
          generalize hW5 : World.alloc _ _ = W5
          obtain ⟨X7, hX7⟩ : ∃ z, z = wr.heap.size := ⟨_, rfl⟩
          have hb5 : Below wr.heap.size wr W5 := by rw [← hW5]; exact (Below.refl _ _).alloc (Nat.le_refl _) _
          have hs5 : wr.heap.size + 1 ≤ W5.heap.size := by rw [← hW5]; simp
          have bS5 : Blk W5 X7 68 #[.int .i64 st.f, .int .i64 st.t, .int .i64 st.i, .int .i64 st.o, .int .i64 st.w] := by rw [← hW5, hX7]; exact Blk.at_ rfl
          have bX5 := HX.out.below hb5 HX.out.lt
          have HB5 := hide (HB.out.below hb5 HB.out.lt)
          have HOW5 := hide (own_below' HOW.out hb5)
          have HBR5 := hide (HBR.out.below hb5)
          have HRG5 := hide (HRG.out.below hb5 HRG.out.map.lt HRG.out.ltr)
          have HP5 := hide (HP.out.below hb5 HP.out.lt)
          have HX5 := hide bX5
          have HBW5 := hide (HBW.out.trans (hb5.mono (by omega)))
          have k70 : W5.cell? ⟨X7, 0, none⟩ = some (.int .i64 st.f) := bS5.cell 0
          have k71 : W5.cell? ⟨X7, 1, none⟩ = some (.int .i64 st.t) := bS5.cell 1
          have l7 := bS5.lt
          have k40 : W5.cell? ⟨X4, 0, none⟩ = some (.int .i64 cs) := bX5.cell 0
          have k41 : W5.cell? ⟨X4, 1, none⟩ = some (.int .i64 cw) := bX5.cell 1
          have l4 := bX5.lt
          have hs5' : base ≤ W5.heap.size := by omega
          have hX4w : X4 < W5.heap.size := l4
          simp only [← hX7]
          clear hW5 hX7 hb5 hs5 bS5 bX5 HRG HBR HB HP HBW HX HOW
          have HREL := hide (fun W6 W8 W9 v' h6 z6 h8 hat ho h9 z9 => back_rel (wr := W5) (w6 := W6) (w8 := W8) (w9 := W9) (k := toC st) (c := ⟨cs, cw⟩) (vk := vk) (v' := v') (nk := nk) (o := .cells #[.int .i64 cs, .int .i64 cw] 65) HBR5.out (show Bb < base by omega) hs5' HVK.out HNK.out h6 z6 h8 hat ho h9 z9)
          go_wp2_with (first
            | (at_builtin; refine wpList_append_any _ rfl (.tmp 32) (.tmp 34) 62 rfl base 65 ic _ 2 16 Try.underlying62 hi0 hi1 hi2 hi3 rfl (by omega) vk nk _ rfl OW6.out _ _ 1 1 (finRow [⟨cs, cw⟩]) (finCell [⟨cs, cw⟩]) rfl (rd_blk BN6.out) (fun e => by cases e) rfl (finRow_at [⟨cs, cw⟩]) (finRow_one _) (by simp only [maxLen]; omega) (by omega) (by omega) ?_; intro v' w8 hown8 hg8 hat8; have HN8 := hide hown8; have HG8 := hide hg8; have HAT8 := hide hat8; have HM8 := hide (HM6.out.kept hg8 (fun e => by have := (OW6.out.lt _ e.symm).1; omega)); have HST8 := hide (HST6.out.kept hg8 (fun e => by have := (OW6.out.lt _ e.symm).1; omega)); clear hown8 hg8 hat8)
            | (refine wpList_mapentry rfl (.tmp 29) (.tmp 31) 82 rfl kl_cpl Try.underlying82 zero_cpls rfl (HB5.out.alloc _) (toC st) rfl HOK.out ?_; intro w6 n6 hm6 hst6 hg6 hz6; rw [show (lk BL (toC st)).getD (.slice none 0 0) = vk from HVK.out.symm]; have HM6 := hide hm6; have HST6 := hide hst6; have HG6 := hide hg6; have HZ6 := hide (show w6.heap.size = W5.heap.size + 1 by rw [hz6]; simp); have OW6 := hide (own_keepN (HOW5.out.alloc _) hg6 (by omega)); have BN6 := hide (Blk.grown (Blk.at_ (w := W5) (g := W5.heap.size) (t := 65) (cs := (finRow [⟨cs, cw⟩]).toArray) rfl) hg6 (fun e => by have := Option.some.inj e; omega)); have hz6' : base ≤ w6.heap.size := (by have := HZ6.out; omega); clear hm6 hst6 hg6 hz6)
            | (refine wpList_estore rfl (.tmp 29) (.tmp 37) (.tmp 36) 82 rfl kl_cpl n6 rfl HM8.out (toC st) HOK.out HST8.out rfl v' rfl ?_; intro w9 hm9 hg9 hz9; have HM9 := hide hm9; have HG9 := hide hg9; have HZ9 := hide hz9; clear hm9 hg9 hz9))
          go_roundw
          case rel =>
            obtain ⟨q1, q2, q3, q4⟩ := HREL.out w6 w8 w9 v' HG6.out HZ6.out HG8.out HAT8.out HN8.out HG9.out HZ9.out
            obtain ⟨q5, q6⟩ := q4 X4 hX4w hX4b HNX.out
            refine ⟨j + 1, upL BL (toC st) v', by omega, by go_num, hide (HRG5.out.of_block (q3 Mb (by omega) (by omega)) (q3 R1 (by omega) (by omega))), hide ?_, hide ?_, hide ((q3 _ (by omega) (by omega)).trans HP5.out), hide ?_, by omega, hide (q5.trans HX5.out), hide q6⟩
            · rw [HED.out, ← List.append_assoc, ← HE'.out]; exact q1
            · have h := HM9.out
              rw [up_entL] at h
              exact h
            · exact (((HBW5.out.alloc (by omega) _).grown HG6.out (by simp <;> omega) (fun q hq => by have := Option.some.inj hq; omega)).grown HG8.out (by omega) (fun q hq => by have := (OW6.out.lt q hq).1; omega)).grown HG9.out (by have := HG8.out.size; omega) (fun q hq => by have := Option.some.inj hq; omega)
          case measure => simp [intOf]; omega
        · have hend : (stepsOf a b ⟨cs, cw⟩).take j = stepsOf a b ⟨cs, cw⟩ := List.take_of_length_le (by rw [← HN.out]; omega)
          rw [hend] at HBR
          have HEI4 := hide (EI.step HEI3.out)
          clear hend
          go_wp2
          go_roundw
          case rel => exact ⟨l1 ++ l2, _, BL, HRG, hide (by rw [List.map_append]; exact HEI4.out), HBR, HB, HP, HBW, hz⟩
          case measure => rw [HRG.out.left_eq]; exact HRLn.out
end Go.Proofs.Ytmgpcnkmmgkjgaa
