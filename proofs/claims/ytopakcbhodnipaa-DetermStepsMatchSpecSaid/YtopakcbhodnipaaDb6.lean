/- The texts SeP, StL of this proof. No conditions. -/
import Derived.Test.YtopakcbhodnipaaCb11
import Derived.Test.YtopakcbhodnipaaCb25
import Derived.Test.YtopakcbhodnipaaCb26
import Derived.Test.YtopakcbhodnipaaCb27
import Derived.Test.YtopakcbhodnipaaCb28
import Derived.Test.YtopakcbhodnipaaDb1
import Derived.Test.YtopakcbhodnipaaDb5
/- Text SeP. -/
namespace Gm
set_option linter.unusedSimpArgs false
set_option linter.unusedVariables false
section
variable {α : Type} [DecidableEq α]
def atG (l : List α) (u : α) (t : Nat) : Int := if u ∈ l.take t then ((l.idxOf u : Nat) : Int) else -1
theorem atG_zero (l : List α) (u : α) : atG l u 0 = -1 := by unfold atG; simp
theorem atG_next {l : List α} (hn : l.Nodup) {u v : α} {t : Nat} (hv : l[t]? = some v) : atG l u (t + 1) = if v = u then (t : Int) else atG l u t := by
 have ht : t < l.length := (List.getElem?_eq_some_iff.1 hv).1
 have hg : l[t] = v := (List.getElem?_eq_some_iff.1 hv).2
 unfold atG
 rw [List.take_add_one, hv]
 by_cases e : v = u
 ·
  subst e
  rw [if_pos (by simp), if_pos rfl]
  congr 1
  rw [← hg]
  exact_mod_cast hn.idxOf_getElem t ht
 ·
  rw [if_neg e]
  by_cases g : u ∈ l.take t
  · rw [if_pos (List.mem_append.2 (.inl g)), if_pos g]
  · rw [if_neg g, if_neg (fun h => by
   rcases List.mem_append.1 h with h | h
   · exact g h
   · simp at h; exact e h.symm)]
def plG (l : List α) (v : α) : Int := if v ∈ l then ((l.idxOf v : Nat) : Int) else -1
theorem atG_end {l : List α} {u : α} {t : Nat} (ht : l.length ≤ t) : atG l u t = plG l u := by unfold atG plG; rw [List.take_of_length_le ht]
theorem plG_old {l : List α} {u : α} (h : u ∈ l) : addL l u = l := by unfold addL; rw [if_pos h]
def ixG (l : List α) (u : α) : Nat := l.idxOf u
theorem bfsRow_ix (i : Nat) (x : Int) (u : α) (st : List α × List Arc) : bfsRow i [(x, u)] st = (addL st.1 u, st.2 ++ [⟨(i : Int), ((ixG (addL st.1 u) u : Nat) : Int), x, x, 0⟩]) := rfl
theorem plG_at (l : List α) (u : α) : plG (addL l u) u = ((ixG (addL l u) u : Nat) : Int) := by unfold plG ixG; rw [if_pos (addL_mem.2 (.inr rfl))]
theorem plG_neg {l : List α} {v : α} : plG l v < 0 ↔ v ∉ l := by
 unfold plG
 by_cases h : v ∈ l
 ·
  rw [if_pos h]
  exact ⟨fun g => by omega, fun g => absurd h g⟩
 ·
  rw [if_neg h]
  exact ⟨fun _ => h, fun _ => by omega⟩
theorem plG_rng (l : List α) (v : α) : -1 ≤ plG l v := by unfold plG; split <;> omega
theorem plG_new {l : List α} {u : α} (h : u ∉ l) : addL l u = l ++ [u] ∧ ixG (addL l u) u = l.length := by
 have e : addL l u = l ++ [u] := by unfold addL; rw [if_neg h]
 refine ⟨e, ?_⟩
 unfold ixG
 rw [e, List.idxOf_append, if_neg h]
 simp
end
def somS (A : List Arc) (X : List Int) (x : Int) (k : Nat) : Bool := (A.take k).any fun a => decide (a.i = x ∧ a.f ∈ X)
def nxtS (A : List Arc) (X : List Int) (x : Int) (k j : Nat) : Bool := (A.take k).any fun a => decide ((a.i = x ∧ a.f ∈ X) ∧ a.t = (j : Int))
def setT (A : List Arc) (X : List Int) (x : Int) : List Int := setI ((A.filter fun a => decide (a.f ∈ X ∧ a.i = x)).map (·.t))
theorem somS_zero (A : List Arc) (X : List Int) (x : Int) : somS A X x 0 = false := by simp [somS]
theorem nxtS_zero (A : List Arc) (X : List Int) (x : Int) (j : Nat) : nxtS A X x 0 j = false := by simp [nxtS]
theorem somS_yes {A : List Arc} {X : List Int} {x : Int} {k : Nat} {a : Arc} (h : A[k]? = some a) (hx : a.i = x ∧ a.f ∈ X) : somS A X x (k + 1) = true := by
 unfold somS
 rw [List.take_add_one, h, List.any_append]
 simp [hx]
theorem somS_no {A : List Arc} {X : List Int} {x : Int} {k : Nat} {a : Arc} (h : A[k]? = some a) (hx : ¬ (a.i = x ∧ a.f ∈ X)) : somS A X x (k + 1) = somS A X x k := by
 unfold somS
 rw [List.take_add_one, h, List.any_append]
 simp only [Option.toList_some, List.any_cons, List.any_nil, decide_eq_false hx, Bool.or_false]
theorem nxtS_yes {A : List Arc} {X : List Int} {x : Int} {k : Nat} {a : Arc} (h : A[k]? = some a) (hx : a.i = x ∧ a.f ∈ X) (h0 : 0 ≤ a.t) (j : Nat) : nxtS A X x (k + 1) j = if j = a.t.toNat then true else nxtS A X x k j := by
 unfold nxtS
 rw [List.take_add_one, h, List.any_append]
 simp only [Option.toList_some, List.any_cons, List.any_nil, Bool.or_false]
 by_cases e : j = a.t.toNat
 · rw [if_pos e, decide_eq_true ⟨hx, by omega⟩, Bool.or_true]
 · rw [if_neg e, decide_eq_false (fun g => by have := g.2; omega), Bool.or_false]
theorem nxtS_no {A : List Arc} {X : List Int} {x : Int} {k : Nat} {a : Arc} (h : A[k]? = some a) (hx : ¬ (a.i = x ∧ a.f ∈ X)) (j : Nat) : nxtS A X x (k + 1) j = nxtS A X x k j := by
 unfold nxtS
 rw [List.take_add_one, h, List.any_append]
 simp only [Option.toList_some, List.any_cons, List.any_nil, Bool.or_false]
 rw [decide_eq_false (fun g => hx g.1), Bool.or_false]
theorem nxtS_all (A : List Arc) (X : List Int) (x : Int) (j : Nat) : nxtS A X x A.length j = decide ((j : Int) ∈ setT A X x) := by
 rw [Bool.eq_iff_iff, decide_eq_true_iff]
 unfold nxtS setT
 rw [List.take_length, List.any_eq_true, mem_tgt]
 constructor
 ·
  rintro ⟨a, ha, h⟩
  have h := of_decide_eq_true h
  exact ⟨a, ha, h.1.2, h.1.1, h.2⟩
 ·
  rintro ⟨a, ha, h1, h2, h3⟩
  exact ⟨a, ha, decide_eq_true ⟨⟨h2, h1⟩, h3⟩⟩
theorem somS_all {A : List Arc} {X : List Int} {x : Int} : somS A X x A.length = true ↔ ∃ a ∈ A, a.f ∈ X ∧ a.i = x := by
 unfold somS
 rw [List.take_length, List.any_eq_true]
 constructor
 ·
  rintro ⟨a, ha, h⟩
  have h := of_decide_eq_true h
  exact ⟨a, ha, h.2, h.1⟩
 ·
  rintro ⟨a, ha, h1, h2⟩
  exact ⟨a, ha, decide_eq_true ⟨h2, h1⟩⟩
def stpX (A : List Arc) (ls X : List Int) (j : Nat) : List (Int × List Int) := ((ls.take j).filter fun x => somS A X x A.length).map fun x => (x, setT A X x)
theorem stpX_zero (A : List Arc) (ls X : List Int) : stpX A ls X 0 = [] := by simp [stpX]
theorem stpX_next {A : List Arc} {ls X : List Int} {j : Nat} {x : Int} (h : ls[j]? = some x) : stpX A ls X (j + 1) = stpX A ls X j ++ if somS A X x A.length = true then [(x, setT A X x)] else [] := by
 unfold stpX
 rw [List.take_add_one, h, List.filter_append, List.map_append]
 congr 1
 by_cases g : somS A X x A.length = true
 · rw [if_pos g]; simp [g]
 · rw [if_neg g]; simp [g]
theorem stpX_all {A : List Arc} {ls X : List Int} (hs : ls.Pairwise (· < ·)) (hm : ∀ a ∈ A, a.i ∈ ls) {j : Nat} (hj : ls.length ≤ j) : stpX A ls X j = stpD A X := by
 unfold stpX stpD
 rw [List.take_of_length_le hj]
 have e : (ls.filter fun x => somS A X x A.length) = setI ((A.filter fun a => decide (a.f ∈ X)).map (·.i)) := by
  refine setI_uniq (hs.filter _) (setI_sorted _) fun x => ?_
  rw [List.mem_filter, setI_mem, List.mem_map, somS_all]
  constructor
  ·
   rintro ⟨_, a, ha, h1, h2⟩
   exact ⟨a, List.mem_filter.2 ⟨ha, decide_eq_true h1⟩, h2⟩
  ·
   rintro ⟨a, ha, rfl⟩
   obtain ⟨h1, h2⟩ := List.mem_filter.1 ha
   exact ⟨hm a h1, a, h1, of_decide_eq_true h2, rfl⟩
 rw [e]
 rfl
theorem okSet_T {A : List Arc} {n : Nat} (hA : inRange A n) (X : List Int) (x : Int) : okSet n (setT A X x) := ⟨setI_sorted _, fun t ht => by
 obtain ⟨a, ha, _, _, rfl⟩ := mem_tgt.1 ht
 have := hA a ha
 omega⟩
theorem stpX_ok {A : List Arc} {n : Nat} (hA : inRange A n) {ls X : List Int} {j : Nat} : ∀ e ∈ stpX A ls X j, okSet n e.2 := by
 intro e he
 unfold stpX at he
 obtain ⟨x, _, rfl⟩ := List.mem_map.1 he
 exact okSet_T hA X x
def samS (X Y : List Int) (k : Nat) : Bool := (List.range k).all fun j => decide ((j : Int) ∈ X) == decide ((j : Int) ∈ Y)
theorem samS_zero (X Y : List Int) : samS X Y 0 = true := rfl
theorem samS_next (X Y : List Int) (k : Nat) : samS X Y (k + 1) = (samS X Y k && (decide ((k : Int) ∈ X) == decide ((k : Int) ∈ Y))) := by
 unfold samS
 rw [List.range_succ, List.all_append]
 simp
theorem samS_all {X Y : List Int} {n : Nat} (hX : okSet n X) (hY : okSet n Y) : samS X Y n = true ↔ X = Y := by
 unfold samS
 rw [List.all_eq_true]
 constructor
 ·
  intro h
  refine setI_uniq hX.1 hY.1 fun z => ?_
  have key : ∀ z : Int, 0 ≤ z → z < (n : Int) → (z ∈ X ↔ z ∈ Y) := fun z h0 h1 => by
   have h2 := h z.toNat (List.mem_range.2 (by omega))
   rw [show ((z.toNat : Nat) : Int) = z by omega] at h2
   have h2 := (beq_iff_eq.1 h2)
   rw [decide_eq_decide] at h2
   exact h2
  constructor
  ·
   intro hz
   have := hX.2 z hz
   exact (key z this.1 this.2).1 hz
  ·
   intro hz
   have := hY.2 z hz
   exact (key z this.1 this.2).2 hz
 ·
  rintro rfl j _
  simp
def endX (F : List Fnl) (X : List Int) (k : Nat) : Bool := (F.take k).any fun x => decide (x.s ∈ X)
theorem endX_zero (F : List Fnl) (X : List Int) : endX F X 0 = false := by simp [endX]
theorem endX_next {F : List Fnl} {X : List Int} {k : Nat} {x : Fnl} (h : F[k]? = some x) : endX F X (k + 1) = (endX F X k || decide (x.s ∈ X)) := by
 unfold endX
 rw [List.take_add_one, h, List.any_append]
 simp
theorem endX_all (F : List Fnl) (X : List Int) {k : Nat} (hk : F.length ≤ k) : endX F X k = finD F X := by
 unfold endX finD
 rw [List.take_of_length_le hk]
end Gm
namespace Gm
open Go Go.RowKit
set_option linter.unusedSimpArgs false
set_option linter.unusedVariables false
theorem own_of_blkS {w : World} {base g : Nat} {e : TypeId} {cs : Array Value} (h : Blk w g e cs) (hb : base ≤ g) (hm : cs.size ≤ maxLen) : w.ownsRow base e 1 (.slice (some ⟨g, 0, none⟩) cs.size cs.size) cs.size cs.toList :=
 ⟨by simp, .inr ⟨g, cs.size, cs, rfl, hb, h, Nat.le_refl _, hm, by simp, List.take_of_length_le (by simp)⟩⟩
def rowV' (S : Nat) (g : Nat) : Value := .slice (some ⟨g, 0, none⟩) S S
structure BL (w : World) (base : Nat) (eO eB : TypeId) (S : Nat) (v : Value) (n : Nat) (gs : List Nat) (L : List (List Int)) : Prop where
 out : w.ownsRow base eO 1 v n (gs.map (rowV' S))
 len : L.length = n
 row : ∀ (i g : Nat) (X : List Int), gs[i]? = some g → L[i]? = some X → w.rowIs g eB S (fun j => .bool (decide ((j : Int) ∈ X)))
section
variable {w w6 : World} {base S n : Nat} {eO eB : TypeId} {v : Value} {gs : List Nat} {L : List (List Int)}
theorem BL.glen (h : BL w base eO eB S v n gs L) : gs.length = n := by
 have := h.out.1
 rw [List.length_map] at this
 omega
theorem BL.below {w' : World} (h : BL w base eO eB S v n gs L) (hb : Below w.heap.size w w') : BL w' base eO eB S v n gs L :=
 ⟨own_blw h.out hb, h.len, fun i g X hg hX => (h.row i g X hg hX).of_block (hb.block g (h.row i g X hg hX).lt)⟩
theorem BL.alloc (h : BL w base eO eB S v n gs L) (o : Obj) : BL (w.alloc o) base eO eB S v n gs L :=
 ⟨h.out.alloc o, h.len, fun i g X hg hX => (h.row i g X hg hX).alloc o⟩
theorem BL.own (h : BL w base eO eB S v n gs L) {b2 s2 n2 : Nat} {e2 : TypeId} {v2 : Value} {x2 : List Value} (ho : w.ownsRow b2 e2 s2 v2 n2 x2) (hO : eO ≠ e2) (hB : e2 ≠ eB) (hg : w.grownBy w6 v2.ownBlock) : BL w6 base eO eB S v n gs L :=
 ⟨h.out.kept hg (own_ne h.out ho hO), h.len, fun i g X hg' hX => row_kept (h.row i g X hg' hX) ho hB hg⟩
theorem BL.mach (h : BL w base eO eB S v n gs L) {p : Addr} {t : TypeId} {cs : Array Value} (hb : Blk w p.block t cs) (hO : eO ≠ t) (hB : eB ≠ t) (u : Value) : BL (w.setCell p u) base eO eB S v n gs L :=
 ⟨ownsRow_setCell_other h.out (own_bne h.out hb hO) u, h.len, fun i g X hg hX => (h.row i g X hg hX).setOther (a := p) (by
  obtain ⟨c, hc, _⟩ := h.row i g X hg hX
  exact (show Blk w g eB c from hc).ne_ hb hB) u⟩
theorem BL.push (h : BL w base eO eB S v n gs L) (hne : eO ≠ eB) {g : Nat} {X : List Int} (hr : w.rowIs g eB S (fun j => .bool (decide ((j : Int) ∈ X)))) (hg : w.grownBy w6 v.ownBlock) {v' : Value} (hown : w6.ownsRow base eO 1 v' (n + 1) (gs.map (rowV' S) ++ [rowV' S g])) : BL w6 base eO eB S v' (n + 1) (gs ++ [g]) (L ++ [X]) := by
 refine ⟨by rw [List.map_append]; exact hown, by rw [List.length_append, h.len]; rfl, fun i k Y hk hY => ?_⟩
 rcases Nat.lt_or_ge i n with hi | hi
 ·
  rw [List.getElem?_append_left (by rw [h.glen]; exact hi)] at hk
  rw [List.getElem?_append_left (by rw [h.len]; exact hi)] at hY
  exact row_kept (h.row i k Y hk hY) h.out hne hg
 ·
  rw [List.getElem?_append_right (by rw [h.glen]; exact hi), h.glen] at hk
  rw [List.getElem?_append_right (by rw [h.len]; exact hi), h.len] at hY
  obtain ⟨h1, e1⟩ := List.getElem?_eq_some_iff.1 hk
  obtain ⟨h2, e2⟩ := List.getElem?_eq_some_iff.1 hY
  have hz : i - n = 0 := by simp at h1; omega
  have e1 : g = k := by simpa [hz] using hk
  have e2 : X = Y := by simpa [hz] using hY
  rw [← e1, ← e2]
  exact row_kept hr h.out hne hg
theorem BL.at_ (h : BL w base eO eB S v n gs L) {i : Nat} (hi : i < n) : ∃ b c g X, v = .slice (some ⟨b, 0, none⟩) n c ∧ n ≤ c ∧ base ≤ b ∧ b < w.heap.size ∧ w.cell? ⟨b, i, none⟩ = some (.slice (some ⟨g, 0, none⟩) S S) ∧ gs[i]? = some g ∧ L[i]? = some X ∧ w.rowIs g eB S (fun j => .bool (decide ((j : Int) ∈ X))) := by
 obtain ⟨b, c, rfl, h1, h2⟩ := h.out.form (by omega)
 obtain ⟨A, c', e, hnc, _⟩ := own_value h.out
 injection e with _ _ e
 obtain ⟨g, hg⟩ : ∃ g, gs[i]? = some g := ⟨_, List.getElem?_eq_getElem (by rw [h.glen]; exact hi)⟩
 obtain ⟨X, hX⟩ : ∃ X, L[i]? = some X := ⟨_, List.getElem?_eq_getElem (by rw [h.len]; exact hi)⟩
 refine ⟨b, c, g, X, rfl, by omega, h1, h2, ?_, hg, hX, h.row i g X hg hX⟩
 rw [h.out.cellAt i (by omega)]
 rw [List.getElem?_map, hg]
 rfl
end
noncomputable def setsR (m : Mach) : Mach := if (silM m).n = 0 then silM m else setM (silM m)
end Gm
/- Text StL. -/
namespace Gm
set_option linter.unusedSimpArgs false
set_option linter.unusedVariables false
theorem trim_use {m : Mach} (hr : ∀ a ∈ m.arcs, 0 ≤ a.f ∧ 0 ≤ a.t) (hF : ∀ x ∈ m.fins, 0 ≤ x.s) {i : Nat} (hi : (i : Int) < (trimOf m).n) : ∃ w, accE (trimOf m).arcs (trimOf m).fins (i : Int) w := by
 unfold trimOf at hi ⊢
 by_cases hc : m.n = 0 ∨ keepK m 0 = false
 ·
  rw [if_pos hc] at hi
  have hi : (i : Int) < 0 := hi
  omega
 ·
  rw [if_neg hc] at hi ⊢
  have hi : (i : Int) < ((cntK (keepK m) m.n.toNat : Nat) : Int) := hi
  obtain ⟨s, hs, hk, rfl⟩ := cntK_onto _ _ (show i < cntK (keepK m) m.n.toNat by omega)
  obtain ⟨w, hw⟩ := rs_acc (keepK_iff.1 hk).2
  exact ⟨w, (part_accE hr hF w s hk).2 hw⟩
theorem sil_use {m : Mach} (hv : accF m = (0, 0)) {i : Nat} (hi : (i : Int) < (silM m).n) : ∃ w, accE (silM m).arcs (silM m).fins (i : Int) w := by
 have val := valid_of (accF_val hv)
 rw [silM_trim val.n0 val.inRange val.finRange] at hi ⊢
 exact trim_use (fun a ha => by have := silA_rng val.n0 val.inRange (mem_silO.1 ha); omega) (fun x hx => by
  obtain ⟨s, _, _, rfl⟩ := mem_silF.1 (show x ∈ silF m from hx)
  dsimp only; omega) hi
theorem br_ne {A : List Arc} {S : List Int} (h : BR (stpD A) [0] S) : ∃ s, s ∈ S := by
 induction h with
 | base => exact ⟨0, by simp⟩
 | @step S U x _ hx ih =>
  obtain ⟨⟨a, ha, hf, rfl⟩, rfl⟩ := mem_stpD.1 hx
  exact ⟨a.t, mem_tgt.2 ⟨a, ha, hf, rfl, rfl⟩⟩
theorem setM_use {t : Mach} {N : Nat} (h : SilOk t N) (hu : ∀ s : Nat, s < N → ∃ w, accE t.arcs t.fins (s : Int) w) {j : Nat} (hj : j < (setM t).n.toNat) : ∃ w, langM (setM t) j w := by
 have hf : (subsI N).length ≤ fuD t := by
  have e : t.n.toNat = N := by have := h.n; omega
  rw [subsI_len]
  unfold fuD
  rw [e]
  omega
 obtain ⟨l, hn, _, hm, e⟩ := bfsM_all (stpD t.arcs) (finD t.fins) (Z := subsI N) (fun v hv => subsI_mem (br_ok h.rng h.pos hv).1 (br_ok h.rng h.pos hv).2) hf
 have e : setM t = _ := e
 rw [e] at hj ⊢
 have hj : j < l.length := by simpa using hj
 have hr : ∀ (j : Nat) (hj : j < l.length), BR (stpD t.arcs) [0] l[j] := fun j hj => (hm _).1 (List.getElem_mem hj)
 obtain ⟨s, hs⟩ := br_ne (hr j hj)
 have hb := (br_ok h.rng h.pos (hr j hj)).2 s hs
 obtain ⟨w, hw⟩ := hu s.toNat (by omega)
 rw [show ((s.toNat : Nat) : Int) = s by omega] at hw
 refine ⟨w, (list_lang (stp := stpD t.arcs) (fin := finD t.fins) (N := (l.length : Int)) hn (fun j hj x hx => (hm _).2 (.step (hr j hj) hx)) (fun j hj => stpD_inc _ _) (fun j hj e he => ?_) w j hj).2 (accD w _ |>.2 ⟨s, hs, hw⟩)⟩
 obtain ⟨x, U⟩ := e
 obtain ⟨⟨a, ha, _, rfl⟩, _⟩ := mem_stpD.1 he
 have := (h.lab a ha).1
 dsimp only
 omega
theorem labsR_len4 (A : List Arc) : (labsR A).length ≤ A.length := by
 have h : (labsR A).length ≤ (A.map (·.i)).length := incD_len (labsR_sorted A) (fun x hx => by
  obtain ⟨_, a, ha, rfl⟩ := (labsR_mem A x).1 hx
  exact List.mem_map.2 ⟨a, ha, rfl⟩)
 rwa [List.length_map] at h
theorem sil_silR {m : Mach} (hv : accF m = (0, 0)) (h2 : (silM m).arcs.length ≤ 2000) : silR m = (silM m, (0, 0)) := by
 unfold silR; rw [if_neg (by rw [hv]; simp), if_neg (by omega)]
theorem sets_few {m : Mach} (hv : accF m = (0, 0)) (h2 : (silM m).arcs.length ≤ 2000) (h60 : (setsR m).n ≤ 60) (h20 : (setsR m).arcs.length ≤ 2000) : ∃ S : Nat, S ≤ 60 ∧ FewOk (setsR m) S := by
 have hs := sil_silR hv h2
 by_cases hn : (silM m).n = 0
 ·
  have e : setsR m = emptyM := by unfold setsR; rw [if_pos hn, silM_zero hv hn]
  rw [e]
  refine ⟨0, by omega, rfl, (fun a ha => by cases ha), Nat.zero_le _, (fun x hx => by cases hx), ⟨labsR_sorted _, fun s h => by omega, fun s h => by omega, fun s h => by omega⟩, Nat.zero_le _, fun h => by omega, fun _ => ?_⟩
  rintro ⟨w, hw⟩
  exact lang_empty 0 w hw
 ·
  have e : setsR m = setM (silM m) := by unfold setsR; rw [if_neg hn]
  have hok : SilOk (silM m) (silM m).n.toNat := by
   have h := silR_ok (m := m) (by rw [hs]) (by rw [hs]; exact hn)
   rw [hs] at h
   exact h
  obtain ⟨K, _, hK⟩ := setM_form hok
  have hsn := hok.n
  have hu := fun {j : Nat} (hj : j < (setM (silM m)).n.toNat) => setM_use hok (fun s hs => sil_use hv (by omega)) hj
  rw [e] at h60 h20 ⊢
  have hKn := hK.n
  refine ⟨K, by omega, hK.n, hK.rng, by omega, fun x hx => by rw [hK.fw x hx]; omega, ⟨labsR_sorted _, fun s _ => by unfold rowM rowL; rw [List.length_map], fun s hs t ht => ?_, fun s hs t ht h0 => ?_⟩, ?_, fun h => hu (by omega), fun h => by have := hK.pos; omega⟩
  ·
   obtain ⟨x, _, rfl⟩ := List.mem_map.1 ht
   rcases afterL_rng hK.rng s x with g | g
   · exact g.2
   · rw [g]; omega
  ·
   obtain ⟨x, _, rfl⟩ := List.mem_map.1 ht
   have g : afterL (setM (silM m)).arcs s x < (K : Int) := by
    rcases afterL_rng hK.rng s x with g | g
    · exact g.2
    · rw [g]; omega
   exact hu (by omega)
  · exact Nat.le_trans (labsR_len4 _) h20
theorem st_det {m : Mach} (hv : accF m = (0, 0)) (h2 : (silM m).arcs.length ≤ 2000) (h60 : (setsR m).n ≤ 60) : detW m = if 2000 < (setsR m).arcs.length then (emptyM, (17, -1)) else (setsR m, (0, 0)) := by
 have hs := sil_silR hv h2
 unfold detW
 rw [hs, if_neg (fun g => g rfl)]
 dsimp only
 by_cases hn : (silM m).n = 0
 ·
  have e : setsR m = emptyM := by unfold setsR; rw [if_pos hn, silM_zero hv hn]
  rw [if_pos hn, e, if_neg (by show ¬ 2000 < ([] : List Arc).length; simp)]
 ·
  have e : setsR m = setM (silM m) := by unfold setsR; rw [if_neg hn]
  rw [if_neg hn, e]
  rw [e] at h60
  unfold detR limR
  by_cases g : 2000 < (setM (silM m)).arcs.length
  · rw [if_pos (.inr g), if_pos g]; rfl
  · rw [if_neg (by omega), if_neg g]
theorem st_min {m : Mach} (hv : accF m = (0, 0)) (h2 : (silM m).arcs.length ≤ 2000) (h60 : (setsR m).n ≤ 60) (h20 : (setsR m).arcs.length ≤ 2000) {S : Nat} (hS : (setsR m).n = (S : Int)) : minW m = (canonM (lsM (setsR m)) (langM (setsR m) 0) S, (0, 0)) := by
 have hd := st_det hv h2 h60
 rw [if_neg (by omega)] at hd
 have hz := minW_zero (m := m) (by rw [hd])
 unfold minW at hz ⊢
 rw [hd] at hz ⊢
 rw [if_neg (fun g => g rfl)] at hz ⊢
 by_cases hn : (setsR m).n = 0
 ·
  rw [if_pos hn]
  have e : setsR m = emptyM := by
   by_cases g : (silM m).n = 0
   · unfold setsR; rw [if_pos g, silM_zero hv g]
   ·
    exfalso
    have hok : SilOk (silM m) (silM m).n.toNat := by
     have h := silR_ok (m := m) (by rw [sil_silR hv h2]) (by rw [sil_silR hv h2]; exact g)
     rw [sil_silR hv h2] at h
     exact h
    obtain ⟨K, _, hK⟩ := setM_form hok
    have e : setsR m = setM (silM m) := by unfold setsR; rw [if_neg g]
    have := hK.n
    have := hK.pos
    rw [e] at hn
    omega
  rw [canon_none (fun ⟨w, hw⟩ => by rw [e] at hw; exact lang_empty 0 w hw)]
  rfl
 ·
  rw [if_neg hn] at hz ⊢
  rw [show (setsR m).n.toNat = S by omega] at hz ⊢
  dsimp only at hz ⊢
  unfold limR at hz ⊢
  split at hz
  · exact absurd hz (by decide)
  ·
   rename_i g
   rw [if_neg g]
theorem st_cases (m : Mach) : (accF m ≠ (0, 0) ∧ silR m = (emptyM, accF m) ∧ detW m = (emptyM, accF m) ∧ minW m = (emptyM, accF m)) ∨ (accF m = (0, 0) ∧ 2000 < (silM m).arcs.length ∧ silR m = (emptyM, (17, -1)) ∧ detW m = (emptyM, (17, -1))) ∨ (accF m = (0, 0) ∧ (silM m).arcs.length ≤ 2000 ∧ silR m = (silM m, (0, 0))) := by
 by_cases h : accF m = (0, 0)
 ·
  by_cases h2 : 2000 < (silM m).arcs.length
  ·
   have hs : silR m = (emptyM, (17, -1)) := by unfold silR; rw [if_neg (by rw [h]; simp), if_pos h2]
   exact .inr (.inl ⟨h, h2, hs, by unfold detW; rw [hs, if_pos (by decide)]⟩)
  · exact .inr (.inr ⟨h, by omega, sil_silR h (by omega)⟩)
 ·
  have hs : silR m = (emptyM, accF m) := by unfold silR; rw [if_pos h]
  have hd : detW m = (emptyM, accF m) := by unfold detW; rw [hs, if_pos h]
  exact .inl ⟨h, hs, hd, by unfold minW; rw [hd, if_pos h]⟩
end Gm
