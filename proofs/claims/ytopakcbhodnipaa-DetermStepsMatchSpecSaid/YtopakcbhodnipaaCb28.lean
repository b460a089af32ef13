/- The texts AbW, JoP, InP, KbC, BoP, BxP, InQ of this proof. No conditions. -/
import Derived.Test.YtopakcbhodnipaaCb2
import Derived.IntWalk
import Derived.Deep.Cut
import Derived.LoopTactic
import Derived.Test.YtopakcbhodnipaaCb20
import Derived.Test.YtopakcbhodnipaaCb24
import Derived.Deep.RegionHeld3
import Derived.Test.YtopakcbhodnipaaCb3
import Derived.Test.YtopakcbhodnipaaProg
import Derived.DeepKeys4
/- Text AbW. -/
namespace Gm
def alphB (l : List Int) (k : Nat) : Option (Int × Int) := if l.getD k 0 < 1 ∨ 1114111 < l.getD k 0 then some (3, (k : Int)) else if 0 < k ∧ l.getD k 0 ≤ l.getD (k - 1) 0 then some (13, (k : Int)) else none
def alphF (l : List Int) (ix : Int) : Int × Int := if 300 < l.length then (2, ix) else ((List.range l.length).findSome? (alphB l)).getD (0, 0)
theorem alph_at {l : List Int} {k : Nat} {r : Int × Int} {ix : Int} (hl : ¬ 300 < l.length) (hk : k < l.length) (h : ∀ j, j < k → alphB l j = none) (hr : alphB l k = some r) : alphF l ix = r := by
 unfold alphF
 rw [if_neg hl]
 have e : List.range l.length = List.range k ++ (k :: (List.range (l.length - k - 1)).map (· + (k + 1))) := by
  refine List.ext_getElem? fun i => ?_
  rcases Nat.lt_trichotomy i k with g | g | g
  · rw [List.getElem?_append_left (by simpa using g)]; simp [g, Nat.lt_trans g hk]
  · subst g; rw [List.getElem?_append_right (by simp)]; simp [hk]
  ·
   rw [List.getElem?_append_right (by simp; omega)]
   obtain ⟨d, rfl⟩ : ∃ d, i = k + 1 + d := ⟨i - (k + 1), by omega⟩
   simp only [List.length_range, show k + 1 + d - k = d + 1 by omega, List.getElem?_cons_succ, List.getElem?_map]
   by_cases gd : k + 1 + d < l.length
   · rw [List.getElem?_range gd, List.getElem?_range (by omega)]; simp; omega
   · rw [List.getElem?_eq_none (by simp; omega), List.getElem?_eq_none (by simp; omega)]; rfl
 rw [e, List.findSome?_append, List.findSome?_eq_none_iff.2 (fun j hj => h j (List.mem_range.1 hj)), List.findSome?_cons, hr]
 rfl
theorem alph_no {l : List Int} {ix : Int} (hl : ¬ 300 < l.length) (h : ∀ j, j < l.length → alphB l j = none) : alphF l ix = (0, 0) := by
 unfold alphF
 rw [if_neg hl, List.findSome?_eq_none_iff.2 (fun j hj => h j (List.mem_range.1 hj))]
 rfl
end Gm
namespace Go.Proofs.Ytopakcbhodnipaa
open Go.RowKit Gm
set_option linter.unusedSimpArgs false
set_option linter.unusedVariables false
end Go.Proofs.Ytopakcbhodnipaa
/- Text JoP. -/
namespace Gm
set_option linter.unusedSimpArgs false
set_option linter.unusedVariables false
structure DmOk (t : Mach) (S : Nat) : Prop where
 n : t.n = (S : Int)
 n4 : S ≤ 400
 len : t.arcs.length ≤ 2000
 flen : t.fins.length ≤ 400
 rng : inRange t.arcs S
 frng : ∀ x ∈ t.fins, 0 ≤ x.s ∧ x.s < (S : Int)
 det : DetA t.arcs
 lab : ∀ a ∈ t.arcs, 0 < a.i ∧ a.i ≤ 1114111
theorem dmOk_empty : DmOk emptyM 0 := ⟨rfl, by omega, by decide, by decide, (fun a ha => by cases ha), (fun x hx => by cases hx), (fun a ha => by cases ha), (fun a ha => by cases ha)⟩
theorem dmOk_det {m : Mach} (h : (detW m).2 = (0, 0)) : ∃ S, DmOk (detW m).1 S := by
 obtain ⟨_, ⟨e, _⟩ | ⟨N, _, _, _, K, hK, hB⟩⟩ := detW_form h
 · rw [e]; exact ⟨0, dmOk_empty⟩
 · exact ⟨K, hK.n, hK.n4, hK.len, hK.flen, hK.rng, hK.frng, hB.det, hK.lab⟩
def nxI (t : Mach) (s x : Int) : Int := if 0 ≤ s then afterL t.arcs s.toNat x else -1
def acI (t : Mach) (s : Int) : Bool := decide (0 ≤ s) && (decide (s < t.n) && fnB t.fins t.fins.length s.toNat)
def acR (t : Mach) : Int → List Int → Bool
 | s, [] => acI t s
 | s, x :: w => acR t (nxI t s x) w
def s0I (t : Mach) : Int := if 0 < t.n then 0 else -1
section
variable {t : Mach} {S : Nat}
theorem nxI_rng (h : DmOk t S) (s x : Int) : -1 ≤ nxI t s x ∧ nxI t s x < (S : Int) ∨ nxI t s x = -1 := by
 unfold nxI
 split
 · exact afterL_rng h.rng _ _
 · exact .inr rfl
theorem acR_neg : ∀ (w : List Int), acR t (-1) w = false
 | [] => by unfold acR acI; rfl
 | x :: w => by
  unfold acR
  have : nxI t (-1) x = -1 := by unfold nxI; rw [if_neg (by omega)]
  rw [this]; exact acR_neg w
theorem acR_lang (h : DmOk t S) : ∀ (w : List Int) (s : Nat), s < S → (acR t (s : Int) w = true ↔ langM t s w)
 | [], s, hs => by
  show acI t (s : Int) = true ↔ finM' t s = true
  unfold acI
  rw [← finM_fnB, h.n]
  simp
  intro _
  omega
 | x :: w, s, hs => by
  show acR t (nxI t (s : Int) x) w = true ↔ ∃ u, (x, u) ∈ tstp (lsM t) (rowM t) s ∧ langM t u w
  unfold rowM
  have h0 : ∀ a ∈ t.arcs, 0 ≤ a.t := fun a ha => (h.rng a ha).2.2.1
  have e : nxI t (s : Int) x = afterL t.arcs s x := by unfold nxI; rw [if_pos (by omega)]; simp
  constructor
  ·
   intro hw
   by_cases hn : 0 ≤ afterL t.arcs s x
   ·
    have hr := nxI_rng h (s : Int) x
    rw [e] at hr hw
    have e2 : afterL t.arcs s x = (((afterL t.arcs s x).toNat : Nat) : Int) := by omega
    rw [e2] at hw
    obtain ⟨a, ha, g1, g2, g3⟩ := (afterL_iff h.det h0 (u := (afterL t.arcs s x).toNat)).1 ⟨hn, rfl⟩
    refine ⟨(afterL t.arcs s x).toNat, (mem_rowL h.det h0).2 ⟨(labsR_mem _ _).2 ⟨by rw [← g2]; have := (h.lab a ha).1; omega, a, ha, g2⟩, a, ha, g1, g2, g3⟩, (acR_lang h w _ (by omega)).1 hw⟩
   ·
    have e3 : afterL t.arcs s x = -1 := by
     rcases nxI_rng h (s : Int) x with g | g <;> (rw [e] at g; omega)
    rw [e, e3, acR_neg] at hw
    cases hw
  ·
   rintro ⟨u, hu, hw⟩
   obtain ⟨_, a, ha, g1, g2, g3⟩ := (mem_rowL h.det h0).1 hu
   obtain ⟨k1, k2⟩ := (afterL_iff h.det h0 (u := u)).2 ⟨a, ha, g1, g2, g3⟩
   have hr := h.rng a ha
   rw [e, show afterL t.arcs s x = (u : Int) by omega]
   exact (acR_lang h w u (by omega)).2 hw
theorem acR_start (h : DmOk t S) (w : List Int) : acR t (s0I t) w = true ↔ langM t 0 w := by
 unfold s0I
 by_cases hn : 0 < t.n
 ·
  rw [if_pos hn]
  exact acR_lang h w 0 (by have := h.n; omega)
 ·
  rw [if_neg hn, acR_neg]
  have hS : S = 0 := by have := h.n; omega
  constructor
  · intro g; cases g
  ·
   intro g
   exfalso
   have hA : t.arcs = [] := by
    cases e : t.arcs with
    | nil => rfl
    | cons a l => have := h.rng a (by rw [e]; exact List.mem_cons_self); omega
   have hF : t.fins = [] := by
    cases e : t.fins with
    | nil => rfl
    | cons a l => have := h.frng a (by rw [e]; exact List.mem_cons_self); omega
   have g' := (langM_accE h.det (fun a ha => (h.rng a ha).2.2.1) (fun a ha => by have := (h.lab a ha).1; omega) w 0).1 g
   rw [hA, hF] at g'
   exact accE_nil _ w g'
end
def stpC (a b : Mach) (l : List Int) (c : Int × Int) : List (Int × (Int × Int)) := l.map fun x => (x, (nxI a c.1 x, nxI b c.2 x))
def stpCk (a b : Mach) (l : List Int) (c : Int × Int) (k : Nat) : List (Int × (Int × Int)) := (l.take k).map fun x => (x, (nxI a c.1 x, nxI b c.2 x))
theorem stpCk_zero (a b : Mach) (l : List Int) (c : Int × Int) : stpCk a b l c 0 = [] := by unfold stpCk; simp
theorem stpCk_next {a b : Mach} {l : List Int} {c : Int × Int} {k : Nat} {x : Int} (h : l[k]? = some x) : stpCk a b l c (k + 1) = stpCk a b l c k ++ [(x, (nxI a c.1 x, nxI b c.2 x))] := by
 unfold stpCk
 rw [List.take_add_one, h, List.map_append]
 rfl
theorem stpCk_all {a b : Mach} {l : List Int} {c : Int × Int} {k : Nat} (h : l.length ≤ k) : stpCk a b l c k = stpC a b l c := by unfold stpCk stpC; rw [List.take_of_length_le h]
abbrev StC (a b : Mach) (l : List Int) (i : Nat) : (List (Int × Int) × List Arc) × List Fnl := StB (stpC a b l) (fun _ => false) (s0I a, s0I b) i
def LsC (a b : Mach) (l : List Int) (i : Nat) : List (Int × Int) := (StC a b l i).1.1
def cpC (a b : Mach) (l : List Int) (i : Nat) : Int × Int := (LsC a b l i).getD i (-1, -1)
def rowC (a b : Mach) (l : List Int) (i : Nat) : List Int := l.map fun x => (((LsC a b l (i + 1)).idxOf (nxI a (cpC a b l i).1 x, nxI b (cpC a b l i).2 x) : Nat) : Int)
def finC (a b : Mach) (l : List Int) (K : Bool → Bool → Bool) (i : Nat) : Bool := K (acI a (cpC a b l i).1) (acI b (cpC a b l i).2)
def rowsC (a b : Mach) (l : List Int) (i : Nat) : List (List Int) := (List.range i).map (rowC a b l)
def finsC (a b : Mach) (l : List Int) (K : Bool → Bool → Bool) (i : Nat) : List Bool := (List.range i).map (finC a b l K)
section
variable {a b : Mach} {l : List Int}
theorem lsC_next {i : Nat} (h : i < (LsC a b l i).length) : LsC a b l (i + 1) = (bfsRow i (stpC a b l (cpC a b l i)) (StC a b l i).1).1 := by
 have hc : (StC a b l i).1.1[i]? = some (cpC a b l i) := by
  unfold cpC
  rw [List.getD_eq_getElem?_getD, List.getElem?_eq_getElem h]
  exact List.getElem?_eq_getElem h
 unfold LsC
 rw [show StC a b l (i + 1) = StB (stpC a b l) (fun _ => false) (s0I a, s0I b) (i + 1) from rfl, stB_next hc]
theorem lsC_pre {i j : Nat} (h : i ≤ j) : ∃ k, LsC a b l j = LsC a b l i ++ k := by
 obtain ⟨d, rfl⟩ : ∃ d, j = i + d := ⟨j - i, by omega⟩
 unfold LsC
 induction d with
 | zero => exact ⟨[], by simp⟩
 | succ d ih =>
  obtain ⟨k, hk⟩ := ih (by omega)
  show ∃ k, (bfsGo _ _ (i + d + 1) 0 _ _).1.1 = _
  rw [bfsGo_succ]
  obtain ⟨k2, A, e, _⟩ := bfsGo_pre (stp := stpC a b l) (fin := fun _ => false) 1 (0 + (i + d)) (StC a b l (i + d)).1 (StC a b l (i + d)).2
  refine ⟨k ++ k2, ?_⟩
  rw [← List.append_assoc, ← hk]
  exact e
theorem lsC_at {i j : Nat} (hi : i < (LsC a b l i).length) (h : i ≤ j) : (LsC a b l j)[i]? = some (cpC a b l i) := by
 obtain ⟨k, e⟩ := lsC_pre (a := a) (b := b) (l := l) h
 rw [e, List.getElem?_append_left hi]
 unfold cpC
 rw [List.getD_eq_getElem?_getD, List.getElem?_eq_getElem hi]
 rfl
theorem lsC_step {i : Nat} (h : i < (LsC a b l i).length) {x : Int} (hx : x ∈ l) : (nxI a (cpC a b l i).1 x, nxI b (cpC a b l i).2 x) ∈ LsC a b l (i + 1) := by
 rw [lsC_next h]
 exact (bfsRow_mem i _ _ _).2 (.inr ⟨x, List.mem_map.2 ⟨x, hx, rfl⟩⟩)
theorem rowsC_lang {K : Bool → Bool → Bool} {I : Nat} (hI : (LsC a b l I).length = I) (hs : l.Pairwise (· < ·)) : ∀ (w : List Int) (i : Nat), i < I → (accS (tstp l (rowOf (rowsC a b l I))) (finOf (finsC a b l K I)) i w ↔ (∀ x ∈ w, x ∈ l) ∧ K (acR a (cpC a b l i).1 w) (acR b (cpC a b l i).2 w) = true) := by
 have hlt : ∀ i, i < I → i < (LsC a b l i).length := by
  intro i hi
  apply Decidable.byContradiction
  intro g
  have e := bfsGo_none (stp := stpC a b l) (fin := fun _ => false) (i := 0 + i) (st := (StC a b l i).1) (F := (StC a b l i).2) (by unfold LsC at g; omega)
  have e2 : (StC a b l I).1.1 = (StC a b l i).1.1 := by
   obtain ⟨d, rfl⟩ : ∃ d, I = i + d := ⟨I - i, by omega⟩
   clear hI hi
   induction d with
   | zero => rfl
   | succ d ih =>
    show (bfsGo _ _ (i + d + 1) 0 _ _).1.1 = _
    rw [bfsGo_succ]
    have e3 := bfsGo_none (stp := stpC a b l) (fin := fun _ => false) (i := 0 + (i + d)) (st := (StC a b l (i + d)).1) (F := (StC a b l (i + d)).2) (by rw [ih]; unfold LsC at g; omega) 1
    show (bfsGo _ _ 1 (0 + (i + d)) (StC a b l (i + d)).1 (StC a b l (i + d)).2).1.1 = _
    rw [e3]
    exact ih
  unfold LsC at hI g
  rw [e2] at hI
  omega
 intro w
 induction w with
 | nil =>
  intro i hi
  show finOf (finsC a b l K I) i = true ↔ _
  have e : finOf (finsC a b l K I) i = finC a b l K i := by
   unfold finOf finsC
   simp [List.getD_eq_getElem?_getD, hi]
  rw [e]
  unfold finC
  constructor
  · intro h; exact ⟨(fun x hx => by cases hx), h⟩
  · intro h; exact h.2
 | cons x w ih =>
  intro i hi
  have er : rowOf (rowsC a b l I) i = rowC a b l i := by
   unfold rowOf rowsC
   simp [List.getD_eq_getElem?_getD, hi]
  have key : ∀ (x : Int), x ∈ l → ∃ u : Nat, u < I ∧ (((LsC a b l (i + 1)).idxOf (nxI a (cpC a b l i).1 x, nxI b (cpC a b l i).2 x) : Nat) : Int) = (u : Int) ∧ cpC a b l u = (nxI a (cpC a b l i).1 x, nxI b (cpC a b l i).2 x) := by
   intro x hx
   have hm := lsC_step (hlt i hi) hx
   have hu := List.idxOf_lt_length_of_mem hm
   obtain ⟨k, e⟩ := lsC_pre (a := a) (b := b) (l := l) (show i + 1 ≤ I by omega)
   have hle : (LsC a b l (i + 1)).length ≤ I := by rw [← hI, e, List.length_append]; omega
   refine ⟨_, by omega, rfl, ?_⟩
   have h1 : (LsC a b l I)[(LsC a b l (i + 1)).idxOf (nxI a (cpC a b l i).1 x, nxI b (cpC a b l i).2 x)]? = some (nxI a (cpC a b l i).1 x, nxI b (cpC a b l i).2 x) := by
    rw [e, List.getElem?_append_left hu, List.getElem?_eq_getElem hu, List.getElem_idxOf]
   have h2 := lsC_at (a := a) (b := b) (l := l) (hlt ((LsC a b l (i + 1)).idxOf (nxI a (cpC a b l i).1 x, nxI b (cpC a b l i).2 x)) (by omega)) (show _ ≤ I by omega)
   rw [h1] at h2
   injection h2 with h2
   exact h2.symm
  show (∃ u, (x, u) ∈ tstp l (rowOf (rowsC a b l I)) i ∧ accS _ _ u w) ↔ (∀ y ∈ x :: w, y ∈ l) ∧ K (acR a (nxI a (cpC a b l i).1 x) w) (acR b (nxI b (cpC a b l i).2 x) w) = true
  constructor
  ·
   rintro ⟨u, hu, hw⟩
   obtain ⟨j, tg, h1, h2, h3, rfl⟩ := mem_tstp.1 hu
   rw [er] at h2
   unfold rowC at h2
   rw [List.getElem?_map, h1] at h2
   have h2 : (((LsC a b l (i + 1)).idxOf (nxI a (cpC a b l i).1 x, nxI b (cpC a b l i).2 x) : Nat) : Int) = tg := by injection h2
   have hx := List.mem_of_getElem? h1
   obtain ⟨u, hu1, hu2, hu3⟩ := key x hx
   have e : tg.toNat = u := by omega
   rw [e] at hw
   obtain ⟨g1, g2⟩ := (ih u hu1).1 hw
   rw [hu3] at g2
   exact ⟨fun y hy => by rcases List.mem_cons.1 hy with rfl | hy; exact hx; exact g1 y hy, g2⟩
  ·
   rintro ⟨g1, g2⟩
   have hx := g1 x List.mem_cons_self
   obtain ⟨u, hu1, hu2, hu3⟩ := key x hx
   obtain ⟨j, hj⟩ := List.getElem?_of_mem hx
   refine ⟨u, mem_tstp.2 ⟨j, (u : Int), hj, ?_, by omega, by simp⟩, (ih u hu1).2 ⟨fun y hy => g1 y (List.mem_cons_of_mem _ hy), by rw [hu3]; exact g2⟩⟩
   rw [er]
   unfold rowC
   rw [List.getElem?_map, hj]
   exact congrArg some hu2
theorem rowC_at {i k : Nat} (hi : i < (LsC a b l i).length) {x : Int} (hx : l[k]? = some x) : (rowC a b l i)[k]? = some ((((addL (bfsRow i (stpCk a b l (cpC a b l i) k) (StC a b l i).1).1 (nxI a (cpC a b l i).1 x, nxI b (cpC a b l i).2 x)).idxOf (nxI a (cpC a b l i).1 x, nxI b (cpC a b l i).2 x) : Nat) : Int)) := by
 unfold rowC
 rw [List.getElem?_map, hx]
 have e : ∃ p, stpC a b l (cpC a b l i) = stpCk a b l (cpC a b l i) (k + 1) ++ p := by
  refine ⟨(l.drop (k + 1)).map fun x => (x, (nxI a (cpC a b l i).1 x, nxI b (cpC a b l i).2 x)), ?_⟩
  unfold stpC stpCk
  rw [← List.map_append, List.take_append_drop]
 obtain ⟨p, e⟩ := e
 have e3 : ∃ k2, LsC a b l (i + 1) = addL (bfsRow i (stpCk a b l (cpC a b l i) k) (StC a b l i).1).1 (nxI a (cpC a b l i).1 x, nxI b (cpC a b l i).2 x) ++ k2 := by
  rw [lsC_next hi, e, bfsRow_append, stpCk_next hx, bfsRow_one]
  exact bfsRow_pre i p _
 obtain ⟨k2, e3⟩ := e3
 show some ((((LsC a b l (i + 1)).idxOf (nxI a (cpC a b l i).1 x, nxI b (cpC a b l i).2 x) : Nat) : Int)) = _
 rw [e3]
 have h := idx_pre (k := k2) (show (nxI a (cpC a b l i).1 x, nxI b (cpC a b l i).2 x) ∈ addL (bfsRow i (stpCk a b l (cpC a b l i) k) (StC a b l i).1).1 (nxI a (cpC a b l i).1 x, nxI b (cpC a b l i).2 x) from addL_mem.2 (.inr rfl))
 exact congrArg (fun z : Nat => some ((z : Nat) : Int)) ((idx_inst _ _ _ _).trans (h.trans (idx_inst _ _ _ _)))
theorem rowC_len (i : Nat) : (rowC a b l i).length = l.length := by unfold rowC; rw [List.length_map]
def okCp (n : Int) (c : Int × Int) : Prop := -1 ≤ c.1 ∧ c.1 < n ∧ -1 ≤ c.2 ∧ c.2 < n
theorem okCp_next {Sa Sb : Nat} (ha : DmOk a Sa) (hb : DmOk b Sb) (p q x : Int) : okCp 401 (nxI a p x, nxI b q x) := by
 have h1 := nxI_rng ha p x
 have h2 := nxI_rng hb q x
 have := ha.n4
 have := hb.n4
 unfold okCp
 dsimp only
 omega
theorem okCp_start {Sa Sb : Nat} (ha : DmOk a Sa) (hb : DmOk b Sb) : okCp 401 (s0I a, s0I b) := by
 unfold okCp s0I
 dsimp only
 split <;> split <;> omega
theorem lsC_ok {Sa Sb : Nat} (ha : DmOk a Sa) (hb : DmOk b Sb) (i : Nat) : ∀ c ∈ LsC a b l i, okCp 401 c := stB_all (P := okCp 401) (okCp_start ha hb) (fun s _ e he => by
 obtain ⟨x, _, rfl⟩ := List.mem_map.1 he
 exact okCp_next ha hb _ _ _) i
theorem bfsRow_grow {α : Type} [DecidableEq α] (i : Nat) : ∀ (p : List (Int × α)) (st : List α × List Arc), (bfsRow i p st).1.length ≤ st.1.length + p.length
 | [], st => by simp [bfsRow]
 | (x, u) :: p, st => by
  unfold bfsRow
  have h := bfsRow_grow i p (addL st.1 u, st.2 ++ [⟨(i : Int), ((addL st.1 u).idxOf u : Nat), x, x, 0⟩])
  have h2 : (addL st.1 u).length ≤ st.1.length + 1 := by
   unfold addL
   split
   · omega
   · simp
  rw [List.length_cons]
  dsimp only at h
  omega
theorem stk_len (i k : Nat) : (bfsRow i (stpCk a b l (cpC a b l i) k) (StC a b l i).1).1.length ≤ (LsC a b l i).length + k := by
 have h := bfsRow_grow i (stpCk a b l (cpC a b l i) k) (StC a b l i).1
 have h2 : (stpCk a b l (cpC a b l i) k).length ≤ k := by unfold stpCk; rw [List.length_map, List.length_take]; omega
 unfold LsC
 omega
end
def JoinR (a b : Mach) (l : List Int) (K : Bool → Bool → Bool) (r : Mach × (Int × Int)) : Prop := (r = (emptyM, (17, -1)) ∧ ∃ i, 20000 < (LsC a b l i).length) ∨ ∃ I, (LsC a b l I).length = I ∧ I ≤ 20000 ∧ r = leastR l (rowsC a b l I) (finsC a b l K I)
end Gm
/- Text InP. -/
namespace Gm
open Go
set_option linter.unusedSimpArgs false
set_option linter.unusedVariables false
def updR {α : Type} (f : Nat → α) (i : Nat) (x : α) : Nat → α := fun k => if k = i then x else f k
theorem updR_same {α : Type} (f : Nat → α) (i : Nat) (x : α) : updR f i x i = x := by simp [updR]
theorem updR_ne {α : Type} (f : Nat → α) {i k : Nat} (x : α) (h : k ≠ i) : updR f i x k = f k := by simp [updR, h]
def putR : List Oper → Nat → (Nat → Value) → Act → Act
 | [], _, _, a => a
 | o :: os, n, v, a => putR os (n + 1) v (a.put o.dst (v n))
theorem putV_put (os : List Oper) : ∀ (n : Nat) (v : Nat → Value) (a : Act) (d : Option Tmp) (u : Value),
 (∀ o ∈ os, ∀ t, d = some t → o.dst ≠ some t) → (putR os n v a).put d u = putR os n v (a.put d u) := by
 induction os with
 | nil => intro n v a d u _; rfl
 | cons o os ih =>
  intro n v a d u h
  show (putR os (n + 1) v (a.put o.dst (v n))).put d u = putR os (n + 1) v ((a.put d u).put o.dst (v n))
  rw [ih _ _ _ _ _ (fun o' ho' => h o' (List.mem_cons_of_mem _ ho')), Act.put_comm a u (v n) (fun t ht => h o List.mem_cons_self t ht)]
theorem putR_put (a : Act) (d : Option Tmp) (x y : Value) : (a.put d x).put d y = a.put d y := by
 cases d with
 | none => rfl
 | some t => simp [Act.put]
theorem putV_low (os : List Oper) : ∀ (n : Nat) (v v' : Nat → Value) (a : Act), (∀ k, n ≤ k → v k = v' k) → putR os n v a = putR os n v' a := by
 induction os with
 | nil => intro n v v' a _; rfl
 | cons o os ih =>
  intro n v v' a h
  show putR os (n + 1) v (a.put o.dst (v n)) = putR os (n + 1) v' (a.put o.dst (v' n))
  rw [h n (Nat.le_refl _), ih _ v v' _ (fun k hk => h k (by omega))]
def dstsB : List Oper → Bool
 | [] => true
 | o :: os => (match o.dst with | some t => os.all (fun o' => o'.dst != some t) | none => true) && dstsB os
theorem putV_upd (os : List Oper) : ∀ (n i : Nat) (v : Nat → Value) (a : Act) (o : Oper) (u : Value), dstsB os = true → os[i]? = some o →
 (putR os n v a).put o.dst u = putR os n (updR v (n + i) u) a := by
 induction os with
 | nil => intro n i v a o u _ h; cases h
 | cons o os ih =>
  intro n i v a o' u hd h
  have hd' : dstsB os = true := by
   unfold dstsB at hd
   rw [Bool.and_eq_true] at hd
   exact hd.2
  cases i with
  | zero =>
   injection h with h
   subst h
   show (putR os (n + 1) v (a.put o.dst (v n))).put o.dst u = putR os (n + 1) (updR v n u) (a.put o.dst (updR v n u n))
   rw [putV_put _ _ _ _ _ _ (fun o' ho' t ht => by
    unfold dstsB at hd
    rw [Bool.and_eq_true, ht] at hd
    have := List.all_eq_true.1 hd.1 o' ho'
    simpa using this), putR_put, updR_same]
   exact putV_low _ _ _ _ _ (fun k hk => (updR_ne v u (by omega)).symm)
  | succ i =>
   have h' : os[i]? = some o' := h
   show (putR os (n + 1) v (a.put o.dst (v n))).put o'.dst u = putR os (n + 1) (updR v (n + (i + 1)) u) (a.put o.dst (updR v (n + (i + 1)) u n))
   rw [ih (n + 1) i v _ o' u hd' h', updR_ne v u (by omega), show n + 1 + i = n + (i + 1) by omega]
theorem putR_self (a : Act) (d : Option Tmp) : a.put d (match d with | some t => a.tmps.getD t undef | none => undef) = a := by
 cases d with
 | none => rfl
 | some t =>
  obtain ⟨ts, ds⟩ := a
  simp only [Act.put]
  congr 1
  apply Array.ext
  · simp
  ·
   intro i h1 h2
   by_cases e : t = i
   · subst e; simp [h2]
   · rw [Array.getElem_setIfInBounds_ne h2 e]
def valR (os : List Oper) (a : Act) (k : Nat) : Value := match (os[k]?).bind (·.dst) with | some t => a.tmps.getD t undef | none => undef
theorem putV_same (a : Act) (os : List Oper) : ∀ (n : Nat) (v : Nat → Value), (∀ k o, os[k]? = some o → v (n + k) = (match o.dst with | some t => a.tmps.getD t undef | none => undef)) → putR os n v a = a := by
 induction os with
 | nil => intro n v _; rfl
 | cons o os ih =>
  intro n v h
  show putR os (n + 1) v (a.put o.dst (v n)) = a
  rw [show v n = _ from h 0 o rfl, putR_self]
  exact ih (n + 1) v (fun k o' ho' => by rw [show n + 1 + k = n + (k + 1) by omega]; exact h (k + 1) o' ho')
def CloR (os : List Oper) (l : Nat → Bool) : Prop := ∀ k o, os[k]? = some o → l k = true → ∀ e ∈ o.after, Region.binds .any e = true → l e.on = true
theorem CloR.step {os : List Oper} {l : Nat → Bool} (h : CloR os l) {i : Nat} {o : Oper} (ho : os[i]? = some o) (hd : ∀ e ∈ o.after, Region.binds .any e = true → l e.on = true) : CloR os (updR l i true) := by
 intro k o' hk hl e he hb
 have h1 : l e.on = true := by
  by_cases g : k = i
  ·
   subst g
   rw [ho] at hk
   injection hk with hk
   subst hk
   exact hd e he hb
  ·
   rw [updR_ne _ _ g] at hl
   exact h k o' hk hl e he hb
 unfold updR
 split
 · rfl
 · exact h1
def StepR (P : Program) (Q : Exit → Act → World → Prop) (F : (Nat → Bool) → (Nat → Value) → World → Prop) (A : (Nat → Value) → Act) (ops : Array Oper) (i : Nat) (o : Oper) : Prop :=
 ∀ (l : Nat → Bool) (v : Nat → Value) (w : World), l i = false → (∀ e ∈ o.after, Region.binds .any e = true → l e.on = true) → CloR ops.toList l → F l v w →
  ∀ K : Act → World → Prop, Shut (∀ u w', F (updR l i true) (updR v i u) w' → K ((A v).put o.dst u) w') →
   if Region.wanted o (yielded ops (A v).tmps) = true then Oper.wp P o (A v) w K Q else K ((A v).put o.dst undef) w
def StepsR (P : Program) (Q : Exit → Act → World → Prop) (F : (Nat → Bool) → (Nat → Value) → World → Prop) (A : (Nat → Value) → Act) (ops : Array Oper) : Nat → List Oper → Prop
 | _, [] => True
 | n, o :: os => StepR P Q F A ops n o ∧ StepsR P Q F A ops (n + 1) os
theorem StepsR.cons {P : Program} {Q : Exit → Act → World → Prop} {F : (Nat → Bool) → (Nat → Value) → World → Prop} {A : (Nat → Value) → Act} {ops : Array Oper} {n : Nat} {o : Oper} {os : List Oper} (h : StepR P Q F A ops n o) (hs : StepsR P Q F A ops (n + 1) os) : StepsR P Q F A ops n (o :: os) := ⟨h, hs⟩
theorem StepsR.at_ {P : Program} {Q : Exit → Act → World → Prop} {F : (Nat → Bool) → (Nat → Value) → World → Prop} {A : (Nat → Value) → Act} {ops : Array Oper} : ∀ (os : List Oper) (n : Nat), StepsR P Q F A ops n os → ∀ i o, os[i]? = some o → StepR P Q F A ops (n + i) o
 | [], _, _, i, o, h => by cases h
 | o :: os, n, hs, 0, o', h => by injection h with h; subst h; exact hs.1
 | o :: os, n, hs, i + 1, o', h => by
  have := StepsR.at_ os (n + 1) hs.2 i o' h
  rw [show n + 1 + i = n + (i + 1) by omega] at this
  exact this
theorem lt_of_getD_false {L : Array Bool} {i : Nat} (h : L.getD i true = false) : i < L.size := by
 rcases Nat.lt_or_ge i L.size with g | g
 · exact g
 · simp [Array.getElem?_eq_none g] at h
theorem inv_any {P : Program} {os : List Oper} {Q : Exit → Act → World → Prop} {F : (Nat → Bool) → (Nat → Value) → World → Prop} {A : (Nat → Value) → Act} {a0 : Act}
 (hA : ∀ v, putR os 0 v a0 = A v) (hd : dstsB os = true) (hsteps : StepsR P Q F A os.toArray 0 os)
 (hend : ∀ l v w, (∀ k, k < os.length → l k = true) → F l v w → Q .normal (A v) w) :
 ∀ (fuel : Nat) (L : Array Bool) (v : Nat → Value) (w : World) (hready : Region.ready .any os.toArray L = [] → ∀ k, k < os.length → L.getD k true = true) (hsz : L.size = os.length)
  (hmore : ∀ L' : Array Bool, L'.size = os.length → Region.ready .any os.toArray L' = [] → ∀ k, k < os.length → L'.getD k true = true)
  (hcount : (L.toList.filter (fun b => !b)).length ≤ fuel) (hcl : CloR os (fun k => L.getD k true)),
  F (fun k => L.getD k true) v w → wpAny P .any os.toArray Q fuel L (A v) w := by
 have hfin : ∀ (L : Array Bool) (v : Nat → Value) (w : World), (∀ k, k < os.length → L.getD k true = true) → F (fun k => L.getD k true) v w → Q .normal (A v) w := fun L v w h hF => hend _ v w h hF
 intro fuel
 induction fuel with
 | zero =>
  intro L v w hready hsz hmore hcount hcl hF
  have hall : ∀ k, k < os.length → L.getD k true = true := by
   intro k hk
   by_cases e : L.getD k true = true
   · exact e
   ·
    exfalso
    have hk' : k < L.size := by omega
    have e2 : L[k] = false := by simpa [Array.getD, hk'] using e
    have : false ∈ L.toList.filter (fun b => !b) := List.mem_filter.2 ⟨by rw [← e2]; exact Array.getElem_mem_toList hk', rfl⟩
    have := List.length_pos_of_mem this
    omega
  refine ⟨?_, hfin L v w hall hF⟩
  unfold Region.ready
  rw [List.filter_eq_nil_iff]
  intro i hi
  have hi' : i < os.length := by simpa using List.mem_range.1 hi
  rw [hall i hi']
  simp
 | succ fuel ih =>
  intro L v w hready hsz hmore hcount hcl hF
  refine ⟨fun hr => hfin L v w (hready hr) hF, fun i hi => ?_⟩
  obtain ⟨hun, o, ho, hall⟩ := mem_ready.1 hi
  have ho' : os[i]? = some o := by simpa using ho
  have hil : i < L.size := lt_of_getD_false hun
  refine wpOp_step ho (fun K hK => ?_)
  have hst := StepsR.at_ os 0 hsteps i o ho'
  rw [Nat.zero_add] at hst
  have hdn : ∀ e ∈ o.after, Region.binds .any e = true → L.getD e.on true = true := fun e he hb => by
   have := hall e he hb
   rcases Nat.lt_or_ge e.on L.size with g | g
   · simpa [Array.getD, g] using this
   · simp [Array.getElem?_eq_none g] at this
  have hfun : (fun k => (L.setIfInBounds i true).getD k true) = updR (fun k => L.getD k true) i true := by
   funext k
   unfold updR
   by_cases e : k = i
   · subst e; simp [Array.getD]
   ·
    rw [if_neg e]
    simp [Array.getElem?_setIfInBounds, Ne.symm e]
  refine hst (fun k => L.getD k true) v w hun hdn hcl hF K (show Shut _ from fun u w' hF' => ?_)
  ·
   refine hK _ _ ?_
   have hput : (A v).put o.dst u = A (updR v i u) := by
    rw [← hA v, ← hA (updR v i u), putV_upd os 0 i v a0 o u hd ho', Nat.zero_add]
   rw [hput]
   refine ih (L.setIfInBounds i true) (updR v i u) w' (fun hr => hmore _ (by simp [hsz]) hr) (by simp [hsz]) hmore ?_ (by rw [hfun]; exact hcl.step ho' hdn) ?_
   ·
    have h1 : (L.setIfInBounds i true).toList = L.toList.set i true := by simp
    rw [h1]
    have h2 : L.toList[i]? = some false := by
     have : L[i] = false := by simpa [Array.getD, hil] using hun
     simp [hil, this]
    have h3 : ∀ (l : List Bool) (i : Nat), l[i]? = some false → ((l.set i true).filter (fun b => !b)).length + 1 = (l.filter (fun b => !b)).length := by
     intro l
     induction l with
     | nil => intro i h; cases h
     | cons b l ihl =>
      intro i h
      cases i with
      | zero => injection h with h; subst h; simp
      | succ i =>
       have := ihl i h
       cases b
       · simp at this ⊢; omega
       · simpa using this
    have := h3 _ _ h2
    omega
   ·
    rw [hfun]
    exact hF'
def downB (os : List Oper) : Bool := (List.range os.length).all fun i => match os[i]? with | some o => o.after.all (fun e => !Region.binds .any e || decide (e.on < i)) | none => true
theorem ready_full {os : List Oper} (h : downB os = true) (L : Array Bool) (hsz : L.size = os.length) (hr : Region.ready .any os.toArray L = []) : ∀ k, k < os.length → L.getD k true = true := by
 intro k
 induction k using Nat.strongRecOn with
 | ind k ih =>
  intro hk
  by_cases e : L.getD k true = true
  · exact e
  ·
   exfalso
   have e2 : L.getD k true = false := by simpa using e
   have hm : k ∈ Region.ready .any os.toArray L := by
    rw [mem_ready]
    refine ⟨e2, os[k], by simp [hk], fun ed hed hb => ?_⟩
    unfold downB at h
    have h1 := List.all_eq_true.1 h k (List.mem_range.2 hk)
    rw [List.getElem?_eq_getElem hk] at h1
    have h2 : ed.on < k := by
     have h3 := Array.all_eq_true_iff_forall_mem.1 h1 ed hed
     rw [hb] at h3
     simpa using h3
    have h4 := ih ed.on h2 (by omega)
    have h5 : ed.on < L.size := by omega
    simpa [Array.getD, h5] using h4
   rw [hr] at hm
   cases hm
theorem wp_region_inv {P : Program} {id : Nat} {os : List Oper} {Q : Exit → Act → World → Prop} (F : (Nat → Bool) → (Nat → Value) → World → Prop) {A : (Nat → Value) → Act} {a0 : Act} {w : World}
 (hA : ∀ v, putR os 0 v a0 = A v) (hm : P.follows .mixedOrders = true) (hd : dstsB os = true) (hdown : downB os = true)
 (h0 : ∀ v, F (fun k => (Array.replicate os.length false).getD k true) v w.drew)
 (hend : ∀ l v w, (∀ k, k < os.length → l k = true) → F l v w → Q .normal (A v) w)
 (hsteps : StepsR P Q F A os.toArray 0 os) : (Code.region id os.toArray true).wp P Q a0 w := by
 refine wp_region_any hm ?_
 have h := inv_any (P := P) (Q := Q) (F := F) (A := A) (a0 := a0) hA hd hsteps hend os.toArray.size (Array.replicate os.toArray.size false) (valR os a0) w.drew
  (fun hr => ready_full hdown _ (by simp) hr) (by simp) (fun L' h1 h2 => ready_full hdown L' h1 h2)
  (by simp) (fun k o hk hl => by
   have hk' : k < os.length := (List.getElem?_eq_some_iff.1 hk).1
   simp [hk'] at hl) (by have := h0 (valR os a0); simpa using this)
 rw [← hA (valR os a0), putV_same a0 os 0 (valR os a0) (fun k o ho => by
  unfold valR
  rw [Nat.zero_add, ho]
  rfl)] at h
 exact h
end Gm
/- Text KbC. -/
namespace Gm
open Go Go.RowKit
set_option linter.unusedSimpArgs false
set_option linter.unusedVariables false
def cplB (c : Int × Int) : Value := .agg #[.int .i64 c.1, .int .i64 c.2]
def okB (c : Int × Int) : Prop := -1 ≤ c.1 ∧ c.1 ≤ 2000000 ∧ -1 ≤ c.2 ∧ c.2 ≤ 2000000
theorem cplB_inj (c d : Int × Int) (h : cplB c = cplB d) : c = d := by
 unfold cplB at h
 injection h with h
 have h1 := congrArg (fun a : Array Value => a[0]?) h
 have h2 := congrArg (fun a : Array Value => a[1]?) h
 simp at h1 h2
 exact Prod.ext h1 h2
def mapC (A : List Arc) : List ((Int × Int) × Value) := A.foldl (fun L a => upL L (a.f, a.i) (.int .i64 a.t)) []
theorem mapC_snoc (A : List Arc) (a : Arc) : mapC (A ++ [a]) = upL (mapC A) (a.f, a.i) (.int .i64 a.t) := by unfold mapC; rw [List.foldl_append]; rfl
def nxA (A : List Arc) (s x : Int) : Int := if 0 ≤ s then afterL A s.toNat x else -1
theorem lkC {A : List Arc} (h0 : ∀ a ∈ A, 0 ≤ a.f) (s x : Int) : ∀ i, (lk (mapC (A.take i)) (s, x) = none ∧ nxA (A.take i) s x = -1) ∨ lk (mapC (A.take i)) (s, x) = some (.int .i64 (nxA (A.take i) s x))
 | 0 => .inl ⟨by rw [List.take_zero]; rfl, by rw [List.take_zero]; unfold nxA; split <;> rfl⟩
 | i + 1 => by
  have ih := lkC h0 s x i
  cases e : A[i]? with
  | none =>
   have hl : A.length ≤ i := List.getElem?_eq_none_iff.1 e
   rw [List.take_of_length_le hl] at ih
   rw [List.take_of_length_le (by omega)]
   exact ih
  | some a =>
   have ha := h0 a (List.mem_of_getElem? e)
   rw [List.take_add_one, e]
   show (lk (mapC (A.take i ++ [a])) (s, x) = none ∧ nxA (A.take i ++ [a]) s x = -1) ∨ lk (mapC (A.take i ++ [a])) (s, x) = some (.int .i64 (nxA (A.take i ++ [a]) s x))
   rw [mapC_snoc, lk_up]
   by_cases g : (s, x) = (a.f, a.i)
   ·
    right
    rw [if_pos g]
    injection g with g1 g2
    unfold nxA
    rw [if_pos (by omega), afterL_snoc, if_pos ⟨by omega, g2.symm⟩]
   ·
    rw [if_neg g]
    have : nxA (A.take i ++ [a]) s x = nxA (A.take i) s x := by
     unfold nxA
     split
     ·
      rw [afterL_snoc, if_neg]
      rintro ⟨g1, g2⟩
      exact g (by rw [g1, g2]; congr 1; omega)
     · rfl
    rw [this]
    exact ih
end Gm
namespace Go.Proofs.Ytopakcbhodnipaa
open Go.RowKit Gm
theorem cpl_laidB : laidOutB Try.prog = true := by kernel_rfl
theorem cpl_rowB : (122 : TypeId) < Try.prog.types.size := of_decide_eq_true (by kernel_rfl)
theorem cpl_wideB : (match Try.prog.underlying 122 with | some (.array _ _) | some (.struct _) => true | _ => false) = true := by rw [Try.underlying122]
set_option maxRecDepth 100000 in
theorem cpl_lawB : WideMaps.KeyLaw Try.prog 122 := deep_law_laid cpl_laidB (m := 2) (by omega) cpl_rowB (by kernel_rfl) cpl_wideB
theorem cpl_typeB : Try.prog.keyType 122 = true := by kernel_rfl
theorem cpl_sizeB : Try.prog.cellsOf 122 = 2 := by kernel_rfl
theorem int_size1B : Try.prog.cellsOf 3 = 1 := by kernel_rfl
theorem cpl_readB (c : Int × Int) (h : okB c) : ∃ l, keyOf Try.prog 122 (cplB c) = some l := by
 unfold okB at h
 have w1 : (Lit.int .i64 c.1).wf = true := by simp [Lit.wf, IntKind.min, IntKind.max, IntKind.signed, IntKind.bits]; omega
 have w2 : (Lit.int .i64 c.2).wf = true := by simp [Lit.wf, IntKind.min, IntKind.max, IntKind.signed, IntKind.bits]; omega
 have hf : (cplB c).formed Try.prog 122 = true := by
  unfold cplB
  simp [Value.formed, Try.underlying122]
  exact cpl_sizeB.symm
 have hN : Try.prog.types.size = (Try.prog.types.size - 1) + 1 := by have h : (122 : Nat) < Try.prog.types.size := cpl_rowB; omega
 have hi : ∀ (N : Nat) (x : Int), (Lit.int .i64 x).wf = true → Try.prog.keyLits (N + 1) 3 [.int .i64 x] = some [.int .i64 x] := fun N x hx => by
  unfold Program.keyLits
  rw [Try.underlying3]
  simp [hx]
 have hl : Try.prog.keyLits (Try.prog.types.size + 1) 122 [.int .i64 c.1, .int .i64 c.2] = some [.int .i64 c.1, .int .i64 c.2] := by
  unfold Program.keyLits
  rw [Try.underlying122, hN]
  simp [cpl_sizeB, int_size1B, hi _ _ w1, hi _ _ w2]
 refine ⟨.string (keyBytes [.int .i64 c.1, .int .i64 c.2]), ?_⟩
 unfold keyOf
 rw [Try.underlying122, cpl_typeB, hf]
 simp only [Bool.and_self, if_true]
 rw [show (cplB c).cells.toList = [.int .i64 c.1, .int .i64 c.2] from rfl, hl]
 rfl
theorem kl_cplB : KL Try.prog 122 cplB okB := ⟨Maps.Keyed.of_law cpl_lawB, cpl_readB, cplB_inj⟩
theorem zero_intB (W : World) : (zeroValue 3).run Try.prog W = .ok (.int .i64 0) W := by kernel_rfl
theorem cplB_info : (Try.prog.info? 122).map (fun i => (i.zero, i.size, i.bytes)) = some (some (.agg #[.int .i64 0, .int .i64 0]), 2, 16) := by kernel_rfl
end Go.Proofs.Ytopakcbhodnipaa
/- Text BoP. -/
namespace Gm
set_option linter.unusedSimpArgs false
set_option linter.unusedVariables false
def jnL (a b : Mach) (l : List Int) (K : Bool → Bool → Bool) : Lang := fun w => (∀ x ∈ w, x ∈ l) ∧ K (acR a (s0I a) w) (acR b (s0I b) w) = true
theorem join_form {a b : Mach} {l : List Int} {K : Bool → Bool → Bool} {r : Mach × (Int × Int)} (h : JoinR a b l K r) (hz : r.2 = (0, 0)) : LabOk l ∧ ∃ N, Reg l (jnL a b l K) N ∧ r.1 = canonM l (jnL a b l K) N ∧ r.1.n ≤ 400 ∧ r.1.arcs.length ≤ 2000 := by
 rcases h with ⟨e, _⟩ | ⟨I, hI, hI2, e⟩
 · rw [e] at hz; exact absurd hz (by decide)
 ·
  have hI0 : 0 < I := by
   obtain ⟨k, hk⟩ := lsC_pre (a := a) (b := b) (l := l) (Nat.zero_le I)
   have h0 : (LsC a b l 0).length = 1 := rfl
   rw [← hI, hk, List.length_append, h0]
   omega
  by_cases ht : (tblF l (rowsC a b l I) (finsC a b l K I).length).1 = 0
  ·
   obtain ⟨ht0, hT⟩ := tblF_zero ht
   rw [leastR_ok ht0] at e
   have hS := hT.sm
   have hlen : (rowsC a b l I).length = I := by unfold rowsC; rw [List.length_map, List.length_range]
   have hL : accS (tstp l (rowOf (rowsC a b l I))) (finOf (finsC a b l K I)) 0 = jnL a b l K := by
    funext w
    refine propext ((rowsC_lang hI hT.inc w 0 hI0).trans ?_)
    have hc : cpC a b l 0 = (s0I a, s0I b) := rfl
    rw [hc]
    exact Iff.rfl
   have hreg := reg_tab (fin := finOf (finsC a b l K I)) hS.inc hS.pos hS.rngs (s := 0) (by rw [hlen]; exact hI0)
   rw [hL] at hreg
   unfold limR at e
   by_cases hg : 400 < (canT l (rowsC a b l I) (finsC a b l K I)).n ∨ 2000 < (canT l (rowsC a b l I) (finsC a b l K I)).arcs.length
   ·
    rw [if_pos hg] at e
    rw [e] at hz
    exact absurd hz (by decide)
   ·
    rw [if_neg hg] at e
    have e1 : r.1 = canT l (rowsC a b l I) (finsC a b l K I) := by rw [e]
    refine ⟨fun x hx => by have := hT.lab x hx; omega, _, hreg, ?_, by rw [e1]; omega, by rw [e1]; omega⟩
    rw [e1]
    unfold canT
    rw [hL]
  ·
   unfold leastR at e
   rw [if_pos ht] at e
   rw [e] at hz
   dsimp only at hz
   exact absurd (show (tblF l (rowsC a b l I) (finsC a b l K I).length).1 = 0 by rw [hz]) ht
theorem reg_acc {ls : List Int} {L : Lang} {N : Nat} (h : Reg ls L N) (hl : LabOk ls) (w : List Int) : accA (canonM ls L N).arcs (canonM ls L N).fins 0 w ↔ L w := by
 by_cases hL : ∃ w, L w
 ·
  obtain ⟨K, hK⟩ := canon_form h hL (Nat.le_refl N)
  exact (hK.words (fun x hx => by have := hl x hx; omega) w).symm.trans (canon_lang h (Nat.le_refl _) w)
 ·
  rw [canon_none hL]
  exact ⟨fun g => absurd g (empty_words 0 w), fun g => absurd ⟨w, g⟩ hL⟩
open Classical in
noncomputable def bA (m : Mach) (w : List Int) : Bool := decide (accA m.arcs m.fins 0 w)
theorem bA_iff {m : Mach} {w : List Int} : bA m w = true ↔ accA m.arcs m.fins 0 w := by unfold bA; simp
theorem acR_det {m : Mach} (h : (detW m).2 = (0, 0)) (w : List Int) : acR (detW m).1 (s0I (detW m).1) w = bA m w := by
 obtain ⟨S, hS⟩ := dmOk_det h
 have := (acR_start hS w).trans (det_lang h w)
 rw [Bool.eq_iff_iff, this, bA_iff]
def labD (m : Mach) : List Int := setI (m.arcs.map (·.i))
theorem det_over {m : Mach} (h : (detW m).2 = (0, 0)) {w : List Int} (hw : accA m.arcs m.fins 0 w) : ∀ x ∈ w, x ∈ labD (detW m).1 := by
 rw [← det_lang h] at hw
 by_cases hn : (detW m).1.n = 0
 ·
  exfalso
  have hf := detW_form h
  obtain ⟨_, ⟨e, _⟩ | ⟨_, _, _, _, K, hK, _⟩⟩ := hf
  · rw [e] at hw; exact lang_empty 0 w hw
  · have := hK.n; have := hK.pos; omega
 ·
  have hok := detW_ok h hn
  have := (sil_reg hok).over w hw
  unfold lsM at this
  rw [labsR_set (fun a ha => by have := (hok.lab a ha).1; omega)] at this
  exact this
noncomputable def bothF (a b : Mach) : Int × Int :=
 if accF a ≠ (0, 0) then accF a else if accF b ≠ (0, 0) then accF b else if (detW a).2 ≠ (0, 0) then (detW a).2 else if (detW b).2 ≠ (0, 0) then (detW b).2 else if 300 < (labD (detW a).1).length then (17, -1) else (0, 0)
theorem bothF_zero {a b : Mach} (h : bothF a b = (0, 0)) : accF a = (0, 0) ∧ accF b = (0, 0) ∧ (detW a).2 = (0, 0) ∧ (detW b).2 = (0, 0) ∧ (labD (detW a).1).length ≤ 300 := by
 unfold bothF at h
 by_cases h1 : accF a ≠ (0, 0)
 · rw [if_pos h1] at h; exact absurd h h1
 rw [if_neg h1] at h
 by_cases h2 : accF b ≠ (0, 0)
 · rw [if_pos h2] at h; exact absurd h h2
 rw [if_neg h2] at h
 by_cases h3 : (detW a).2 ≠ (0, 0)
 · rw [if_pos h3] at h; exact absurd h h3
 rw [if_neg h3] at h
 by_cases h4 : (detW b).2 ≠ (0, 0)
 · rw [if_pos h4] at h; exact absurd h h4
 rw [if_neg h4] at h
 by_cases h5 : 300 < (labD (detW a).1).length
 · rw [if_pos h5] at h; exact absurd h (by decide)
 exact ⟨Decidable.not_not.1 h1, Decidable.not_not.1 h2, Decidable.not_not.1 h3, Decidable.not_not.1 h4, by omega⟩
def IntR (a b : Mach) (K : Bool → Bool → Bool) (r : Mach × (Int × Int)) : Prop := (bothF a b ≠ (0, 0) ∧ r = (emptyM, bothF a b)) ∨ (bothF a b = (0, 0) ∧ JoinR (detW a).1 (detW b).1 (labD (detW a).1) K r)
def CmpR (m : Mach) (l : List Int) (r : Mach × (Int × Int)) : Prop := (accF m ≠ (0, 0) ∧ r = (emptyM, accF m)) ∨ (accF m = (0, 0) ∧ alphF l (-2) ≠ (0, 0) ∧ r = (emptyM, alphF l (-2))) ∨ (accF m = (0, 0) ∧ alphF l (-2) = (0, 0) ∧ (detW m).2 ≠ (0, 0) ∧ r = (emptyM, (detW m).2)) ∨ (accF m = (0, 0) ∧ alphF l (-2) = (0, 0) ∧ (detW m).2 = (0, 0) ∧ JoinR (detW m).1 emptyM l (fun p _ => !p) r)
structure ResL (r : Mach) (L : Lang) : Prop where
 can : ∃ ls N, Reg ls L N ∧ LabOk ls ∧ r = canonM ls L N
 n4 : r.n ≤ 400
 len : r.arcs.length ≤ 2000
theorem ResL.acc {r : Mach} {L : Lang} (h : ResL r L) (w : List Int) : bA r w = true ↔ L w := by
 obtain ⟨ls, N, hr, hl, e⟩ := h.can
 rw [bA_iff, e]
 exact reg_acc hr hl w
theorem ResL.uniq {r r' : Mach} {L L' : Lang} (h : ResL r L) (h' : ResL r' L') (e : ∀ w, L w ↔ L' w) : r = r' := by
 obtain ⟨ls, N, hr, _, e1⟩ := h.can
 obtain ⟨ls', N', hr', _, e2⟩ := h'.can
 rw [e1, e2]
 exact (canon_iff hr hr' (Nat.le_refl _) (Nat.le_refl _)).2 e
theorem minW_res {m : Mach} (h : (minW m).2 = (0, 0)) : ResL (minW m).1 (fun w => bA m w = true) := by
 obtain ⟨_, _, _, ⟨ls, N, hr, hl, e⟩, h4, h2⟩ := minW_form h
 have : (fun w => bA m w = true) = accA m.arcs m.fins 0 := funext fun w => propext bA_iff
 rw [this]
 exact ⟨⟨ls, N, hr, hl, e⟩, h4, h2⟩
theorem intR_res {a b : Mach} {K : Bool → Bool → Bool} {r : Mach × (Int × Int)} (h : IntR a b K r) (hz : r.2 = (0, 0)) (hK : ∀ q, K false q = false) : bothF a b = (0, 0) ∧ ResL r.1 (fun w => K (bA a w) (bA b w) = true) := by
 rcases h with ⟨h1, e⟩ | ⟨h1, hj⟩
 · rw [e] at hz; exact absurd hz h1
 ·
  obtain ⟨_, _, ha, hb, _⟩ := bothF_zero h1
  obtain ⟨hl, N, hr, e, h4, h2⟩ := join_form hj hz
  have hL : jnL (detW a).1 (detW b).1 (labD (detW a).1) K = (fun w => K (bA a w) (bA b w) = true) := by
   funext w
   unfold jnL
   rw [acR_det ha, acR_det hb]
   refine propext ⟨fun h => h.2, fun h => ⟨?_, h⟩⟩
   by_cases hw : bA a w = true
   · exact det_over ha (bA_iff.1 hw)
   ·
    rw [Bool.not_eq_true] at hw
    rw [hw, hK] at h
    cases h
  rw [hL] at hr e
  exact ⟨h1, ⟨_, _, hr, hl, e⟩, h4, h2⟩
theorem cmpR_res {m : Mach} {l : List Int} {r : Mach × (Int × Int)} (h : CmpR m l r) (hz : r.2 = (0, 0)) : accF m = (0, 0) ∧ alphF l (-2) = (0, 0) ∧ (detW m).2 = (0, 0) ∧ LabOk l ∧ ResL r.1 (fun w => (∀ x ∈ w, x ∈ l) ∧ bA m w = false) := by
 rcases h with ⟨h1, e⟩ | ⟨_, h1, e⟩ | ⟨_, _, h1, e⟩ | ⟨h1, h2, h3, hj⟩
 · rw [e] at hz; exact absurd hz h1
 · rw [e] at hz; exact absurd hz h1
 · rw [e] at hz; exact absurd hz h1
 ·
  obtain ⟨hl, N, hr, e, h4, h5⟩ := join_form hj hz
  have hL : jnL (detW m).1 emptyM l (fun p _ => !p) = (fun w => (∀ x ∈ w, x ∈ l) ∧ bA m w = false) := by
   funext w
   unfold jnL
   rw [acR_det h3]
   refine propext (and_congr_right fun _ => ?_)
   simp
  rw [hL] at hr e
  exact ⟨h1, h2, h3, hl, ⟨_, _, hr, hl, e⟩, h4, h5⟩
theorem sub_is_int {a b c : Mach} {l : List Int} {r i : Mach × (Int × Int)} (hs : IntR a b (fun p q => p && !q) r) (hsz : r.2 = (0, 0)) (hc : ResL c (fun w => (∀ x ∈ w, x ∈ l) ∧ bA b w = false)) (hl : ∀ w, bA a w = true → ∀ x ∈ w, x ∈ l) (hi : IntR a c (fun p q => p && q) i) (hiz : i.2 = (0, 0)) : r.1 = i.1 := by
 have h1 := (intR_res hs hsz (fun q => rfl)).2
 have h2 := (intR_res hi hiz (fun q => rfl)).2
 refine h1.uniq h2 fun w => ?_
 rw [Bool.and_eq_true, Bool.and_eq_true, Bool.not_eq_true', hc.acc]
 exact ⟨fun h => ⟨h.1, hl w h.1, h.2⟩, fun h => ⟨h.1, h.2.2⟩⟩
theorem pth_labs {A : List Arc} {s t : Int} {w : List Int} (h : Pth A s w t) : ∀ x ∈ w, x ∈ labsR A := by
 induction h with
 | nil => intro x hx; cases hx
 | eps _ _ _ ih => exact ih
 | @lab a w t ha hi _ ih =>
  intro x hx
  rcases List.mem_cons.1 hx with rfl | hx
  · exact (labsR_mem A _).2 ⟨hi, a, ha, rfl⟩
  · exact ih x hx
theorem bA_labs {m : Mach} {w : List Int} (h : bA m w = true) : ∀ x ∈ w, x ∈ labsR m.arcs := by
 obtain ⟨t, hp, _⟩ := bA_iff.1 h
 exact pth_labs hp
end Gm
/- Text BxP. -/
namespace Gm
set_option linter.unusedSimpArgs false
set_option linter.unusedVariables false
theorem labB_ok {l : List Int} (hi : l.Pairwise (· < ·)) (hl : LabOk l) {k : Nat} (hk : k < l.length) : labB l k = none := by
 have e : ∀ j (hj : j < l.length), l.getD j 0 = l[j] := fun j hj => by simp [List.getD_eq_getElem?_getD, hj]
 have h1 := hl _ (List.getElem_mem hk)
 unfold labB
 rw [e k hk, if_neg (by omega), if_neg]
 rintro ⟨h0, h2⟩
 rw [e (k - 1) (by omega)] at h2
 have := List.pairwise_iff_getElem.1 hi (k - 1) k (by omega) hk (by omega)
 omega
theorem idxC_lt {a b : Mach} {l : List Int} {I i : Nat} (hI : (LsC a b l I).length = I) (hi : i < I) {x : Int} (hx : x ∈ l) : (LsC a b l (i + 1)).idxOf (nxI a (cpC a b l i).1 x, nxI b (cpC a b l i).2 x) < I := by
 have hlt : i < (LsC a b l i).length := by
  rcases Nat.lt_or_ge i (LsC a b l i).length with g | g
  · exact g
  ·
   exfalso
   have : ∀ d, LsC a b l (i + d) = LsC a b l i := by
    intro d
    induction d with
    | zero => rfl
    | succ d ih =>
     show (bfsGo _ _ (i + d + 1) 0 _ _).1.1 = _
     rw [bfsGo_succ]
     have h2 : (StC a b l (i + d)).1.1.length ≤ 0 + (i + d) := by
      have := congrArg List.length ih
      unfold LsC at this g
      omega
     have := bfsGo_none (stp := stpC a b l) (fin := fun _ => false) h2 (F := (StC a b l (i + d)).2) 1
     rw [show bfsGo (stpC a b l) (fun _ => false) (i + d) 0 ([(s0I a, s0I b)], []) [] = StC a b l (i + d) from rfl]
     rw [show ((StC a b l (i + d)).1, (StC a b l (i + d)).2) = StC a b l (i + d) from rfl] at this
     rw [this]
     exact ih
   have h3 := this (I - i)
   rw [show i + (I - i) = I by omega] at h3
   rw [h3] at hI
   omega
 have h := List.idxOf_lt_length_of_mem (lsC_step hlt hx)
 obtain ⟨k, hk⟩ := lsC_pre (a := a) (b := b) (l := l) (show i + 1 ≤ I by omega)
 have h2 := congrArg List.length hk
 rw [List.length_append, hI] at h2
 have h3 : (LsC a b l (i + 1)).idxOf (nxI a (cpC a b l i).1 x, nxI b (cpC a b l i).2 x) < (LsC a b l (i + 1)).length := by
  rw [idx_inst]; exact h
 omega
theorem joinTab {a b : Mach} {l : List Int} {K : Bool → Bool → Bool} {I : Nat} (hI : (LsC a b l I).length = I) (hI2 : I ≤ 20000) (hi : l.Pairwise (· < ·)) (hl : LabOk l) (h3 : l.length ≤ 300) : tblF l (rowsC a b l I) (finsC a b l K I).length = (0, 0) := by
 have hlen : (rowsC a b l I).length = I := by unfold rowsC; rw [List.length_map, List.length_range]
 rw [tblF_end (by omega) (fun j hj => labB_ok hi hl hj) (by omega) (fun j hj => ?_)]
 ·
  rw [if_neg]
  unfold finsC
  rw [List.length_map, List.length_range, hlen]
  simp
 ·
  rw [hlen] at hj ⊢
  have e : (rowsC a b l I).getD j [] = rowC a b l j := by
   unfold rowsC
   simp [List.getD_eq_getElem?_getD, hj]
  unfold rowB
  rw [e, rowC_len, if_neg (by simp), if_pos]
  intro t ht
  unfold rowC at ht
  obtain ⟨x, hx, rfl⟩ := List.mem_map.1 ht
  have := idxC_lt hI hj hx
  omega
theorem join_lim {a b : Mach} {l : List Int} {K : Bool → Bool → Bool} {r : Mach × (Int × Int)} (hi : l.Pairwise (· < ·)) (hl : LabOk l) (h3 : l.length ≤ 300) (h : JoinR a b l K r) :
 (r = (emptyM, (17, -1)) ∧ ∃ i, 20000 < (LsC a b l i).length) ∨ ∃ N, Reg l (jnL a b l K) N ∧ N = (rowsC a b l N).length ∧ r = limR (canonM l (jnL a b l K) N) := by
 rcases h with h | ⟨I, hI, hI2, e⟩
 · exact .inl h
 ·
  refine .inr ⟨I, ?_⟩
  have hI0 : 0 < I := by
   obtain ⟨k, hk⟩ := lsC_pre (a := a) (b := b) (l := l) (Nat.zero_le I)
   have h0 : (LsC a b l 0).length = 1 := rfl
   rw [← hI, hk, List.length_append, h0]
   omega
  have ht0 := joinTab (K := K) hI hI2 hi hl h3
  have hT := (tblF_zero (by rw [ht0])).2
  rw [leastR_ok ht0] at e
  have hS := hT.sm
  have hlen : (rowsC a b l I).length = I := by unfold rowsC; rw [List.length_map, List.length_range]
  have hL : accS (tstp l (rowOf (rowsC a b l I))) (finOf (finsC a b l K I)) 0 = jnL a b l K := by
   funext w
   refine propext ((rowsC_lang hI hT.inc w 0 hI0).trans ?_)
   have hc : cpC a b l 0 = (s0I a, s0I b) := rfl
   rw [hc]
   exact Iff.rfl
  have hreg := reg_tab (fin := finOf (finsC a b l K I)) hS.inc hS.pos hS.rngs (s := 0) (by rw [hlen]; exact hI0)
  rw [hL, hlen] at hreg
  refine ⟨hreg, hlen.symm, ?_⟩
  rw [e]
  unfold canT
  rw [hL, hlen]
theorem prod_len {α : Type} (f : Nat → Nat → α) (n m : Nat) : ((List.range n).flatMap fun i => (List.range m).map (f i)).length = n * m := by
 induction n with
 | zero => simp
 | succ n ih => rw [flat_succ, List.length_append, ih, List.length_map, List.length_range, Nat.succ_mul]
theorem lsC_bound {a b : Mach} {l : List Int} {Sa Sb : Nat} (ha : DmOk a Sa) (hb : DmOk b Sb) (i : Nat) : (LsC a b l i).length ≤ (Sa + 1) * (Sb + 1) := by
 have hall : ∀ c ∈ LsC a b l i, (-1 ≤ c.1 ∧ c.1 < (Sa : Int)) ∧ (-1 ≤ c.2 ∧ c.2 < (Sb : Int)) := by
  refine stB_all (P := fun c : Int × Int => (-1 ≤ c.1 ∧ c.1 < (Sa : Int)) ∧ (-1 ≤ c.2 ∧ c.2 < (Sb : Int))) ?_ (fun s _ e he => ?_) i
  ·
   have h1 := ha.n
   have h2 := hb.n
   unfold s0I
   dsimp only
   constructor <;> split <;> omega
  ·
   obtain ⟨x, _, rfl⟩ := List.mem_map.1 he
   have h1 := nxI_rng ha s.1 x
   have h2 := nxI_rng hb s.2 x
   dsimp only
   omega
 rw [← prod_len (fun i j => (((i : Int) - 1, (j : Int) - 1) : Int × Int)) (Sa + 1) (Sb + 1)]
 refine nodup_sub_len (stB_nodup i) fun c hc => ?_
 have h := hall c hc
 obtain ⟨p, q⟩ := c
 dsimp only at h
 rw [List.mem_flatMap]
 refine ⟨(p + 1).toNat, List.mem_range.2 (by omega), List.mem_map.2 ⟨(q + 1).toNat, List.mem_range.2 (by omega), ?_⟩⟩
 rw [Prod.mk.injEq]
 omega
theorem labD_ok {m : Mach} {S : Nat} (h : DmOk m S) : LabOk (labD m) := fun x hx => by
 obtain ⟨a, ha, rfl⟩ := List.mem_map.1 ((setI_mem _ _).1 hx)
 exact h.lab a ha
theorem lim_uniq {l : List Int} {L L' : Lang} {N : Nat} {r : Mach} (h : Reg l L N) (hr : ResL r L') (e : ∀ w, L w ↔ L' w) : limR (canonM l L N) = (r, (0, 0)) := by
 obtain ⟨ls', N', hr', _, e2⟩ := hr.can
 have : canonM l L N = r := by rw [e2]; exact (canon_iff h hr' (Nat.le_refl _) (Nat.le_refl _)).2 e
 rw [this]
 unfold limR
 rw [if_neg (by have := hr.n4; have := hr.len; omega)]
theorem accA_mono {A A' : List Arc} {F F' : List Fnl} (hA : ∀ a ∈ A, a ∈ A') (hF : ∀ x ∈ F, x ∈ F') {s : Int} {w : List Int} (h : accA A F s w) : accA A' F' s w := by
 obtain ⟨t, hp, x, hx, hs⟩ := h
 refine ⟨t, ?_, x, hF x hx, hs⟩
 clear hx hs
 induction hp with
 | nil => exact .nil
 | eps ha hi _ ih => exact .eps (hA _ ha) hi ih
 | lab ha hi _ ih => exact .lab (hA _ ha) hi ih
def twoM : Mach := ⟨2, [⟨0, 1, 97, 97, 0⟩, ⟨0, 1, 98, 98, 0⟩], [⟨1, 0⟩]⟩
def oneM : Mach := ⟨1, [⟨0, 0, 97, 97, 0⟩], [⟨0, 0⟩]⟩
theorem empty_bA (w : List Int) : bA emptyM w = false := by
 by_cases h : bA emptyM w = true
 · exact absurd (bA_iff.1 h) (empty_words 0 w)
 · simpa using h
theorem letM_done : accF letM = (0, 0) ∧ detW letM = (letM, (0, 0)) ∧ ResL letM (fun w => bA letM w = true) := by
 have h := dblM_min
 have h2 : (minW dblM).2 = (0, 0) := by rw [h]
 obtain ⟨g1, _, g3, g4, _⟩ := least_done h2
 rw [h] at g1 g3 g4
 dsimp only at g1 g3 g4
 have := minW_res (m := letM) (by rw [g4])
 rw [g4] at this
 exact ⟨g1, g3, this⟩
def stp2 (s : Nat) : List (Int × Nat) := if s = 0 then [(97, 1), (98, 1)] else []
def fin2 (s : Nat) : Bool := decide (s = 1)
theorem br2 {v : Nat} : v ∈ [0, 1] ↔ BR stp2 0 v := by
 constructor
 ·
  intro h
  rcases List.mem_cons.1 h with rfl | h
  · exact .base
  ·
   rw [List.mem_singleton.1 h]
   exact .step (s := 0) (x := 97) .base (by decide)
 ·
  intro h
  induction h with
  | base => simp
  | @step s u x _ hx ih =>
   have : s = 0 ∨ s = 1 := by simpa using ih
   rcases this with rfl | rfl
   ·
    have : (x, u) ∈ [((97 : Int), 1), (98, 1)] := hx
    simp at this
    simp; omega
   ·
    have : (x, u) ∈ ([] : List (Int × Nat)) := hx
    cases this
theorem two_bfs : BfsL stp2 fin2 0 [0, 1] where
 nod := by decide
 first := rfl
 mem := fun v => br2
 inc := fun s hs => by
  have : s = 0 ∨ s = 1 := by simpa using br2.2 hs
  rcases this with rfl | rfl
  ·
   show List.Pairwise _ [((97 : Int), 1), (98, 1)]
   simp
  · exact .nil
 lab := fun s hs e he => by
  have : s = 0 ∨ s = 1 := by simpa using br2.2 hs
  rcases this with rfl | rfl
  ·
   have : e ∈ [((97 : Int), 1), (98, 1)] := he
   simp at this
   rcases this with rfl | rfl <;> decide
  ·
   have : e ∈ ([] : List (Int × Nat)) := he
   cases this
 use := fun s hs => by
  have : s = 0 ∨ s = 1 := by simpa using br2.2 hs
  rcases this with rfl | rfl
  · exact ⟨[97], 1, by decide, rfl⟩
  · exact ⟨[], rfl⟩
 bfs := fun f hf => by
  rw [bfsM_fuel (Z := [0, 1]) (fun v hv => br2.2 hv) hf (show [0, 1].length ≤ 2 by decide)]
  rfl
theorem two_det : accF twoM = (0, 0) ∧ detW twoM = (twoM, (0, 0)) := by
 have e : lstM stp2 fin2 [0, 1] = twoM := rfl
 have h := two_bfs.detW (by decide) (by rw [e]; decide)
 rw [e] at h
 exact ⟨by decide, h⟩
theorem empty_det : accF emptyM = (0, 0) ∧ detW emptyM = (emptyM, (0, 0)) := by
 have h0 : accF emptyM = (0, 0) := by decide
 have h1 : silM emptyM = emptyM := silM_zero h0 (by
  have val := valid_of (accF_val h0)
  rw [silM_trim val.n0 val.inRange val.finRange]
  rfl)
 have h2 : silR emptyM = (emptyM, (0, 0)) := by
  unfold silR
  rw [if_neg (fun g => g h0), h1, if_neg (by decide)]
 refine ⟨h0, ?_⟩
 unfold detW
 rw [h2, if_neg (fun g => g rfl)]
 exact if_pos rfl
def oneL : Lang := fun w => ∀ x ∈ w, x = 97
open Classical in
theorem one_can : Reg [97] oneL 1 ∧ canonM [97] oneL 1 = oneM := by
 have hq : ∀ x U, (x, U) ∈ stpQ [97] oneL ↔ x = 97 ∧ U = oneL := by
  intro x U
  rw [mem_stpQ, List.mem_singleton]
  constructor
  ·
   rintro ⟨rfl, _, rfl⟩
   refine ⟨rfl, funext fun w => propext ⟨fun h x hx => h x (List.mem_cons_of_mem _ hx), fun h x hx => ?_⟩⟩
   rcases List.mem_cons.1 hx with rfl | hx
   · rfl
   · exact h x hx
  ·
   rintro ⟨rfl, rfl⟩
   refine ⟨rfl, ⟨[], fun x hx => by simpa using hx⟩, funext fun w => propext ⟨fun h x hx => ?_, fun h x hx => h x (List.mem_cons_of_mem _ hx)⟩⟩
   rcases List.mem_cons.1 hx with rfl | hx
   · rfl
   · exact h x hx
 refine ⟨⟨by simp, fun x hx => by rw [List.mem_singleton.1 hx]; decide, fun w hw x hx => by rw [hw x hx]; simp, ⟨[oneL], by simp, fun Q hQ => ?_⟩⟩, ?_⟩
 ·
  have : Q = oneL := by
   induction hQ with
   | base => rfl
   | @step s u x _ hx ih =>
    rw [ih] at hx
    exact ((hq x u).1 hx).2
  rw [this]; simp
 ·
  unfold canonM
  rw [if_pos ⟨[], fun x hx => by cases hx⟩]
  have key := bfsM_like (R := fun (Q : Lang) (s : Nat) => Q = oneL ∧ s = 0) (fun a b a' b' h h' => by
   obtain ⟨rfl, rfl⟩ := h
   obtain ⟨rfl, rfl⟩ := h'
   exact ⟨fun _ => rfl, fun _ => rfl⟩) (stp := stpQ [97]) (stp' := fun _ => [((97 : Int), 0)]) (fin := finQ) (fin' := fun _ => true) (fun Q s h => by
   obtain ⟨rfl, rfl⟩ := h
   refine F2_of (R := fun (Q : Lang) (s : Nat) => Q = oneL ∧ s = 0) (incS_stpQ (by simp) _) (by simp [incS]) (fun x => ?_) (fun x U v hU hv => ?_)
   ·
    constructor
    ·
     rintro ⟨U, hU⟩
     obtain ⟨rfl, _⟩ := (hq x U).1 hU
     exact ⟨0, by simp⟩
    ·
     rintro ⟨v, hv⟩
     have hv : (x, v) = ((97 : Int), 0) := by simpa using hv
     injection hv with h1 h2
     exact ⟨oneL, (hq x oneL).2 ⟨h1, rfl⟩⟩
   ·
    have hv : (x, v) = ((97 : Int), 0) := by simpa using hv
    injection hv with h1 h2
    exact ⟨((hq x U).1 hU).2, h2⟩) (fun Q s h => by
   obtain ⟨rfl, rfl⟩ := h
   unfold finQ
   exact decide_eq_true (fun x hx => by cases hx)) (s0 := oneL) (t0 := 0) ⟨rfl, rfl⟩ 1
  exact key.trans rfl
theorem one_res : ResL oneM oneL := ⟨⟨[97], 1, one_can.1, fun x hx => by rw [List.mem_singleton.1 hx]; decide, one_can.2.symm⟩, by decide, by decide⟩
theorem intR_lim {a b : Mach} {K : Bool → Bool → Bool} {r : Mach × (Int × Int)} (h : IntR a b K r) (hz : bothF a b = (0, 0)) (hK : ∀ q, K false q = false) :
 (r = (emptyM, (17, -1)) ∧ ∃ i, 20000 < (LsC (detW a).1 (detW b).1 (labD (detW a).1) i).length) ∨ ∃ N, Reg (labD (detW a).1) (fun w => K (bA a w) (bA b w) = true) N ∧ r = limR (canonM (labD (detW a).1) (fun w => K (bA a w) (bA b w) = true) N) := by
 rcases h with ⟨h1, _⟩ | ⟨_, hj⟩
 · exact absurd hz h1
 ·
  obtain ⟨_, _, ha, hb, h3⟩ := bothF_zero hz
  obtain ⟨Sa, hSa⟩ := dmOk_det ha
  have hL : jnL (detW a).1 (detW b).1 (labD (detW a).1) K = (fun w => K (bA a w) (bA b w) = true) := by
   funext w
   unfold jnL
   rw [acR_det ha, acR_det hb]
   refine propext ⟨fun h => h.2, fun h => ⟨?_, h⟩⟩
   by_cases hw : bA a w = true
   · exact det_over ha (bA_iff.1 hw)
   ·
    rw [Bool.not_eq_true] at hw
    rw [hw, hK] at h
    cases h
  rcases join_lim (show (labD (detW a).1).Pairwise (· < ·) from setI_sorted _) (labD_ok hSa) h3 hj with h | ⟨N, h1, _, h2⟩
  · exact .inl h
  ·
   rw [hL] at h1 h2
   exact .inr ⟨N, h1, h2⟩
theorem cmpR_lim {m : Mach} {l : List Int} {r : Mach × (Int × Int)} (h : CmpR m l r) (h0 : accF m = (0, 0)) (h1 : alphF l (-2) = (0, 0)) (h2 : (detW m).2 = (0, 0)) (hi : l.Pairwise (· < ·)) (hl : LabOk l) (h3 : l.length ≤ 300) :
 ∃ N, Reg l (fun w => (∀ x ∈ w, x ∈ l) ∧ bA m w = false) N ∧ r = limR (canonM l (fun w => (∀ x ∈ w, x ∈ l) ∧ bA m w = false) N) := by
 rcases h with ⟨g, _⟩ | ⟨_, g, _⟩ | ⟨_, _, g, _⟩ | ⟨_, _, _, hj⟩
 · exact absurd h0 g
 · exact absurd h1 g
 · exact absurd h2 g
 ·
  obtain ⟨S, hS⟩ := dmOk_det h2
  have hL : jnL (detW m).1 emptyM l (fun p _ => !p) = (fun w => (∀ x ∈ w, x ∈ l) ∧ bA m w = false) := by
   funext w
   unfold jnL
   rw [acR_det h2]
   refine propext (and_congr_right fun _ => ?_)
   simp
  rcases join_lim hi hl h3 hj with ⟨_, i, hb⟩ | ⟨N, g1, _, g2⟩
  ·
   have := lsC_bound (l := l) hS dmOk_empty i
   have := hS.n4
   omega
  ·
   rw [hL] at g1 g2
   exact ⟨N, g1, g2⟩
theorem both_ex {a b : Mach} (ha : accF a = (0, 0)) (hb : accF b = (0, 0)) (h1 : detW a = (a, (0, 0))) (h2 : detW b = (b, (0, 0))) (h3 : (labD a).length ≤ 300) : bothF a b = (0, 0) := by
 unfold bothF
 rw [if_neg (fun g => g ha), if_neg (fun g => g hb), h1, h2, if_neg (fun g => g rfl), if_neg (fun g => g rfl), if_neg (by dsimp only; omega)]
theorem dm_two : DmOk twoM 2 := by
 obtain ⟨S, hS⟩ := dmOk_det (m := twoM) (by rw [two_det.2])
 rw [two_det.2] at hS
 have : S = 2 := by have := hS.n; have e : twoM.n = 2 := rfl; dsimp only at this; omega
 rw [this] at hS
 exact hS
theorem dm_let : DmOk letM 2 := by
 obtain ⟨S, hS⟩ := dmOk_det (m := letM) (by rw [letM_done.2.1])
 rw [letM_done.2.1] at hS
 have : S = 2 := by have := hS.n; have e : letM.n = 2 := rfl; dsimp only at this; omega
 rw [this] at hS
 exact hS
theorem ex_int {r : Mach × (Int × Int)} (h : IntR twoM letM (fun p q => p && q) r) : r = (letM, (0, 0)) := by
 have hz := both_ex two_det.1 letM_done.1 two_det.2 letM_done.2.1 (by decide)
 rcases intR_lim h hz (fun q => rfl) with ⟨_, i, hb⟩ | ⟨N, h1, h2⟩
 ·
  rw [two_det.2, letM_done.2.1] at hb
  have := lsC_bound (l := labD twoM) dm_two dm_let i
  dsimp only at hb
  omega
 ·
  rw [h2]
  refine lim_uniq h1 letM_done.2.2 fun w => ?_
  rw [Bool.and_eq_true]
  refine ⟨fun h => h.2, fun h => ⟨?_, h⟩⟩
  rw [bA_iff] at h ⊢
  exact accA_mono (fun a ha => by
   have : a = ⟨0, 1, 97, 97, 0⟩ := by simpa [letM] using ha
   rw [this]; simp [twoM]) (fun x hx => by simpa [letM, twoM] using hx) h
theorem ex_sub {r : Mach × (Int × Int)} (h : IntR letM emptyM (fun p q => p && !q) r) : r = (letM, (0, 0)) := by
 have hz := both_ex letM_done.1 empty_det.1 letM_done.2.1 empty_det.2 (by decide)
 rcases intR_lim h hz (fun q => rfl) with ⟨_, i, hb⟩ | ⟨N, h1, h2⟩
 ·
  rw [empty_det.2, letM_done.2.1] at hb
  have := lsC_bound (l := labD letM) dm_let dmOk_empty i
  dsimp only at hb
  omega
 ·
  rw [h2]
  refine lim_uniq h1 letM_done.2.2 fun w => ?_
  rw [empty_bA]
  simp
theorem ex_cmp {r : Mach × (Int × Int)} (h : CmpR emptyM [97] r) : r = (oneM, (0, 0)) := by
 obtain ⟨N, h1, h2⟩ := cmpR_lim h empty_det.1 (by decide) (by rw [empty_det.2]) (by simp) (fun x hx => by rw [List.mem_singleton.1 hx]; decide) (by decide)
 rw [h2]
 refine lim_uniq h1 one_res fun w => ?_
 rw [empty_bA]
 simp [oneL]
end Gm
/- Text InQ. -/
namespace Gm
open Go
theorem wp_region_inv2 {P : Program} {id : Nat} {os : List Oper} {Q : Exit → Act → World → Prop} (F : (Nat → Bool) → (Nat → Value) → World → Prop) {A : (Nat → Value) → Act} {a0 : Act} {w : World}
 (hA : ∀ v, putR os 0 v a0 = A v) (hm : P.follows .mixedOrders = true) (hd : dstsB os = true) (hdown : downB os = true)
 (h0 : F (fun k => (Array.replicate os.length false).getD k true) (valR os a0) w.drew)
 (hend : ∀ l v w, (∀ k, k < os.length → l k = true) → F l v w → Q .normal (A v) w)
 (hsteps : StepsR P Q F A os.toArray 0 os) : (Code.region id os.toArray true).wp P Q a0 w := by
 refine wp_region_any hm ?_
 have h := inv_any (P := P) (Q := Q) (F := F) (A := A) (a0 := a0) hA hd hsteps hend os.toArray.size (Array.replicate os.toArray.size false) (valR os a0) w.drew
  (fun hr => ready_full hdown _ (by simp) hr) (by simp) (fun L' h1 h2 => ready_full hdown L' h1 h2)
  (by simp) (fun k o hk hl => by
   have hk' : k < os.length := (List.getElem?_eq_some_iff.1 hk).1
   simp [hk'] at hl) (by simpa using h0)
 rw [← hA (valR os a0), putV_same a0 os 0 (valR os a0) (fun k o ho => by
  unfold valR
  rw [Nat.zero_add, ho]
  rfl)] at h
 exact h
end Gm
