/- slices.SortFunc with machine.Order, at a row of arcs that the call owns: it is in order. -/
import Derived.Test.YtmgpcnkmmgkjgaaShelf
import Derived.Test.YtmgpcnkmmgkjgaaSrP
import Derived.Test.YtmgpcnkmmgkjgaaCmp
import Derived.Test.YtmgpcnkmmgkjgaaOwn
namespace Gm
open Go Go.RowKit Go.Proofs Go.Sort
set_option linter.unusedSimpArgs false
set_option linter.unusedVariables false
instance : Inhabited Arc := ⟨dA⟩
/-- An arc's five cells. -/
def encA (a : Arc) : List Value := [.int .i64 a.f, .int .i64 a.t, .int .i64 a.i, .int .i64 a.o, .int .i64 a.w]
theorem ltOf_arc (a b : Arc) : ltOf arcCmp a b = arcLess a b := by
  rw [arcLess_cmp, ltOf]
  by_cases h : arcCmp a b < 0
  · rw [decide_eq_true h]; simp; omega
  · rw [decide_eq_false h]; simp; omega
theorem swo_arc : SWO (ltOf arcCmp) where
  irrefl x := by rw [ltOf_arc]; exact arcLess_irrefl x
  trans x y z h1 h2 := by rw [ltOf_arc] at *; exact arcLess_trans h1 h2
  ntrans x y z h1 h2 := by
    rw [ltOf_arc] at *
    cases e : arcLess x z
    · rfl
    · exfalso
      rcases arcLess_total y x with h | h | h
      · have := arcLess_trans h e; rw [h2] at this; cases this
      · subst h; rw [h2] at e; cases e
      · rw [h1] at h; cases h
theorem encA_get (a : Arc) (j : Nat) (hj : j < 5) : (encA a)[j]? = some (.int .i64 (fld a j)) := by
  rcases (by omega : j = 0 ∨ j = 1 ∨ j = 2 ∨ j = 3 ∨ j = 4) with rfl | rfl | rfl | rfl | rfl <;> rfl
theorem flat_get (l : List Arc) (t : Nat) (h : t < l.length * 5) : (arcRow l)[t]? = some (flatK encA 5 l.toArray)[t]! := by
  have hi : t / 5 < l.length := by omega
  have hj : t % 5 < 5 := Nat.mod_lt _ (by omega)
  have h1 := arcRow_at l (t / 5) (t % 5) hi hj
  rw [show t / 5 * 5 + t % 5 = t by omega] at h1
  rw [h1, get_flatK _ _ _ _ (by simpa using h)]
  have h2 := encA_get (l.getD (t / 5) dA) (t % 5) hj
  have h3 : l.toArray[t / 5]! = l.getD (t / 5) dA := by
    rw [getElem!_pos l.toArray (t / 5) (by simpa using hi)]
    simp [hi]
  rw [h3]
  congr 1
  rw [List.getElem!_eq_getElem?_getD, h2]; rfl
theorem flat_row (l : List Arc) : (flatK encA 5 l.toArray).toList = arcRow l := by
  apply List.ext_getElem?
  intro t
  by_cases h : t < l.length * 5
  · rw [flat_get l t h]
    have hs : t < (flatK encA 5 l.toArray).size := by rw [size_flatK]; simpa using h
    rw [getElem!_pos _ t hs]
    simp [hs]
  · rw [List.getElem?_eq_none (by rw [Array.length_toList, size_flatK]; simp; omega), List.getElem?_eq_none (by rw [arcRow_length]; omega)]
theorem holds_own {w : World} {base n c g : Nat} {e : TypeId} {l : List Arc} (h : w.ownsRow base e 5 (.slice (some ⟨g, 0, none⟩) n c) n (arcRow l)) (hl : l.length = n) (hn : 0 < n) : HoldsK encA 5 w g 0 l.toArray := by
  intro j hj
  rw [size_flatK] at hj
  have hj' : j < l.length * 5 := by simpa using hj
  have hc := h.cells (g := g) rfl j _ (flat_get l j hj')
  have hadd : (⟨g, 0, none⟩ : Addr).add j = ⟨g, 0 + j, none⟩ := by unfold Addr.add; split <;> simp_all
  rw [hadd] at hc
  refine ⟨hc, ?_⟩
  rcases h.2 with ⟨_, h0⟩ | ⟨g', cap', cur, h1, h2, h3, h4⟩
  · omega
  · injection h1 with h1 _ hc
    injection h1 with h1
    injection h1 with h1
    subst h1
    simp [World.frozen?, h3]
theorem own_sorted {w : World} {base n c g m : Nat} {e : TypeId} {l k : List Arc} {os : Array Obj} (h : w.ownsRow base e 5 (.slice (some ⟨g, 0, none⟩) n c) n (arcRow l)) (hl : l.length = n) (hk : k.length = n) (hn : 0 < n) :
    (sortWorldK encA 5 w g 0 m k.toArray os).ownsRow base e 5 (.slice (some ⟨g, 0, none⟩) n c) n (arcRow k) ∧ w.grownBy (sortWorldK encA 5 w g 0 m k.toArray os) (some g) := by
  rcases h.2 with ⟨_, h0⟩ | ⟨g', cap', cur, h1, h2, h3, h4, h5, h6, h7⟩
  · omega
  · injection h1 with h1 _ hc
    injection h1 with h1
    injection h1 with h1
    subst h1
    have hsz : g < w.heap.size := (Array.getElem?_eq_some_iff.1 h3).1
    have hblk : (sortWorldK encA 5 w g 0 m k.toArray os).heap[g]? = some (.cells (putCells id 0 (flatK encA 5 k.toArray) cur) e (0, 0)) := by
      simp only [sortWorldK, putRowK, putRow, grow, mapBlock, Sort.ahead]
      rw [Array.getElem?_append_left (by simpa using hsz), Array.getElem?_modify, if_pos rfl, h3]
      rfl
    refine ⟨⟨by rw [arcRow_length, hk], .inr ⟨g, cap', putCells id 0 (flatK encA 5 k.toArray) cur, by rw [hc], h2, hblk, h4, h5, ?_, ?_⟩⟩, ?_⟩
    · simp [putCells, h6]
    · have hle : n * 5 ≤ cur.size := by rw [h6]; omega
      apply List.ext_getElem?
      intro t
      by_cases ht : t < n * 5
      · rw [List.getElem?_take_of_lt ht, flat_get k t (by rw [hk]; exact ht)]
        have hs : t < cur.size := by omega
        simp [putCells, hs, hk, ht]
      · rw [List.getElem?_eq_none (by simp [putCells]; omega), List.getElem?_eq_none (by rw [arcRow_length]; omega)]
    · refine ⟨rfl, rfl, rfl, ?_, ?_⟩
      · simp [sortWorldK, putRowK, putRow, grow, mapBlock, Sort.ahead]
      · intro q hq hne
        simp only [sortWorldK, putRowK, putRow, grow, mapBlock, Sort.ahead]
        rw [Array.getElem?_append_left (by simpa using hq), Array.getElem?_modify, if_neg (fun e => hne (by rw [e]))]
theorem own_formN5 {w : World} {base sz n : Nat} {e : TypeId} {v : Value} {xs : List Value} (h : w.ownsRow base e sz v n xs) (hn : 0 < n) : ∃ g cap, v = .slice (some ⟨g, 0, none⟩) n cap ∧ base ≤ g ∧ g < w.heap.size ∧ n ≤ cap ∧ cap ≤ maxLen := by
  rcases h.2 with ⟨_, h0⟩ | ⟨g, cap, cur, h1, h2, h3, h4, h5, _⟩
  · omega
  · exact ⟨g, cap, h1, h2, (Array.getElem?_eq_some_iff.1 h3).1, h4, h5⟩
end Gm
namespace Go.Proofs.Ytmgpcnkmmgkjgaa
open Go.RowKit Gm Go.Sort Go.Shelf
set_option linter.unusedSimpArgs false
set_option linter.unusedVariables false
set_option maxHeartbeats 400000 in
theorem order_grow (a b : Arc) (w : World) :
    Calls Try.prog 54 #[.agg #[.int .i64 a.f, .int .i64 a.t, .int .i64 a.i, .int .i64 a.o, .int .i64 a.w], .agg #[.int .i64 b.f, .int .i64 b.t, .int .i64 b.i, .int .i64 b.o, .int .i64 b.w]] w fun e w' => e = .returned (.int .i64 (arcCmp a b)) ∧ ∃ q os', w' = grow (w.drewN q) os' := by
  go_enter Try.func54, Try.ntmps54
  go_wp2
  refine wp_quiet_tail_lit 25 (by kernel_rfl) (by kernel_rfl) ?_
  simp only [List.take_succ_cons, List.take_zero, List.drop_succ_cons, List.drop_zero]
  repeat (quiet_step ((go_at_call 73; exact Calls.quiet_of_same ((compare_any _ _ _).mono (fun e w' h => ⟨h.1, h.2.symm⟩)))))
  refine wpQuiet_nil ?_
  intro _ hw'; obtain ⟨nq, hw''⟩ := hw'; subst hw''
  go_wp2_with fail
  refine (or_any (some ⟨w.heap.size + 1 + 1, 0, none⟩) 5 5 [cmpI a.f b.f, cmpI a.i b.i, cmpI a.o b.o, cmpI a.t b.t, cmpI a.w b.w] _ (w.heap.size + 1 + 1 + 1) rfl (by omega) ?_).mono ?_
  · intro _
    refine ⟨_, _, rfl, by omega, fun i j hi hj => ?_⟩
    obtain rfl : j = 0 := by omega
    rcases (by omega : i = 0 ∨ i = 1 ∨ i = 2 ∨ i = 3 ∨ i = 4) with rfl | rfl | rfl | rfl | rfl <;> go_simp <;> rfl
  · rintro e w' ⟨rfl, rfl⟩
    go_wp2
    go_ret
    refine ⟨rfl, nq, ?os, ?eq⟩
    case eq =>
      rw [alloc_eq_grow, alloc_eq_grow, alloc_eq_grow, grow_grow]
      exact grow_grow (w.drewN nq) _ _
theorem isAggA : ∀ w, (isAgg (Try.laySortA_ren.t 24)).run Try.prog w = .ok true w := fun w => by kernel_rfl
theorem sizeOfA : ∀ w, (Go.sizeOf (Try.laySortA_ren.t 24)).run Try.prog w = .ok 5 w := fun w => by kernel_rfl
theorem sort_own (l : List Arc) (n c g base : Nat) (w : World) (hl : l.length = n) (hn : 0 < n) (hn2 : n ≤ 1000000000) (h : w.ownsRow base 45 5 (.slice (some ⟨g, 0, none⟩) n c) n (arcRow l)) :
    Calls Try.prog 53 #[.slice (some ⟨g, 0, none⟩) n c, .func (.func 54) #[] #[]] w fun e w' => e = .returned (.tuple #[]) ∧ w'.ownsRow base 45 5 (.slice (some ⟨g, 0, none⟩) n c) n (arcRow (srtA l)) ∧ w.grownBy w' (some g) := by
  have eg : ∀ args w, (callFunc 54 args).run Try.prog w = .ok (.enter 54 args) w := enters_of Try.func54 (by kernel_rfl) rfl
  have hblk := (h.lt g rfl).2
  have hcon := AnyQ.slices_SortFunc Try.laySortA 5 isAggA sizeOfA encA (fun _ => rfl) (fun x v hv => by simp [encA] at hv; rcases hv with rfl | rfl | rfl | rfl | rfl <;> rfl) arcCmp swo_arc 54 #[] g 0 c l.toArray w eg
    (fun _ _ _ _ x y => order_grow x y _) (holds_own h hl hn) hblk (by simp; omega)
  rw [show l.toArray.size = n by simpa using hl] at hcon
  change Calls Try.prog 53 _ _ _ at hcon
  refine hcon.mono ?_
  rintro e w' ⟨rfl, d', m, os, hp, hs, rfl⟩
  have hz : d'.size = n := by have := hp.1; simpa [hl] using this
  have hperm : d'.toList.Perm l := by
    have h2 := hp.2.2
    rw [Array.extract_eq_self_of_le (by omega), Array.extract_eq_self_of_le (by simp; omega)] at h2
    simpa using h2
  have hsort : SortedA d'.toList := by
    refine List.pairwise_iff_getElem.2 fun i j hi hj hij => ?_
    have h2 := hs i j (Nat.zero_le _) hij (by simpa [hz] using hj)
    rw [ltOf_arc, getElem!_pos d' j (by simpa using hj), getElem!_pos d' i (by simpa using hi)] at h2
    simpa using h2
  have hd : d' = (srtA l).toArray := by
    have := srtA_eq hsort hperm
    rw [← this]
  have hkl : (srtA l).length = n := by rw [(srtA_perm l).length_eq, hl]
  rw [hd]
  exact ⟨rfl, own_sorted h hl hkl hn⟩
end Go.Proofs.Ytmgpcnkmmgkjgaa
