/- Maps as lists of entries: look-up, store, range. Over any program. -/
import Derived.Test.YtopakcbhodnipaaLib
import Derived.Maps.RangeWalk
import Derived.Maps.OwnOps
namespace Gm
open Go Go.MapKept Go.RowKit
open Go.Maps (Keyed)
set_option linter.unusedSimpArgs false
set_option linter.unusedVariables false
section
variable {α : Type} [DecidableEq α]
/-- What stands at a key. -/
def lk (L : List (α × Value)) (a : α) : Option Value := (L.find? fun p => decide (p.1 = a)).map (·.2)
/-- The list behind a store. -/
def upL (L : List (α × Value)) (a : α) (v : Value) : List (α × Value) := if (lk L a).isSome = true then L.map (fun p => if p.1 = a then (a, v) else p) else L ++ [(a, v)]
@[simp] theorem lk_nil (a : α) : lk [] a = none := rfl
theorem lk_cons (p : α × Value) (L : List (α × Value)) (a : α) : lk (p :: L) a = if p.1 = a then some p.2 else lk L a := by
  unfold lk
  by_cases h : p.1 = a
  · rw [List.find?_cons_of_pos (by simpa using h), if_pos h]; rfl
  · rw [List.find?_cons_of_neg (by simpa using h), if_neg h]
theorem lk_append (L K : List (α × Value)) (a : α) : lk (L ++ K) a = (lk L a).or (lk K a) := by
  induction L with
  | nil => simp
  | cons p L ih =>
    rw [List.cons_append, lk_cons, lk_cons, ih]
    by_cases h : p.1 = a <;> simp [h]
theorem lk_mapup (L : List (α × Value)) (a b : α) (v : Value) : lk (L.map (fun p => if p.1 = a then (a, v) else p)) b = if b = a then (lk L a).map (fun _ => v) else lk L b := by
  induction L with
  | nil => simp
  | cons p L ih =>
    rw [List.map_cons, lk_cons, ih, lk_cons, lk_cons]
    by_cases h : p.1 = a
    · rw [if_pos h]
      by_cases h2 : b = a
      · subst h2; simp [h]
      · rw [if_neg (show ¬ (a, v).1 = b from fun e => h2 e.symm), if_neg h2, if_neg h2, if_neg (show ¬ p.1 = b from fun e => h2 (by rw [← e]; exact h))]
    · rw [if_neg h]
      by_cases h2 : b = a
      · subst h2; simp [h]
      · by_cases h3 : p.1 = b
        · simp [h2, h3]
        · simp [h2, h3]
theorem lk_up (L : List (α × Value)) (a b : α) (v : Value) : lk (upL L a v) b = if b = a then some v else lk L b := by
  unfold upL
  by_cases h : (lk L a).isSome = true
  · rw [if_pos h, lk_mapup]
    by_cases h2 : b = a
    · rw [if_pos h2, if_pos h2]
      obtain ⟨x, hx⟩ := Option.isSome_iff_exists.1 h
      rw [hx]; rfl
    · rw [if_neg h2, if_neg h2]
  · rw [if_neg h, lk_append, lk_cons, lk_nil]
    by_cases h2 : b = a
    · subst h2
      have : lk L b = none := by simpa using h
      simp [this]
    · rw [if_neg (fun e => h2 e.symm), if_neg h2]; simp
theorem lk_isSome (L : List (α × Value)) (a : α) : (lk L a).isSome = true ↔ a ∈ L.map (·.1) := by
  induction L with
  | nil => simp
  | cons p L ih =>
    rw [lk_cons, List.map_cons, List.mem_cons]
    by_cases h : p.1 = a
    · simp [h]
    · rw [if_neg h, ih]
      constructor
      · exact .inr
      · rintro (e | e)
        · exact absurd e.symm h
        · exact e
theorem lk_mem {L : List (α × Value)} {a : α} {v : Value} (h : lk L a = some v) : (a, v) ∈ L := by
  induction L with
  | nil => simp at h
  | cons p L ih =>
    rw [lk_cons] at h
    by_cases e : p.1 = a
    · rw [if_pos e] at h; injection h with h; subst h; subst e; simp
    · rw [if_neg e] at h; exact List.mem_cons_of_mem _ (ih h)
theorem lk_of_mem {L : List (α × Value)} {a : α} {v : Value} (hn : (L.map (·.1)).Nodup) (h : (a, v) ∈ L) : lk L a = some v := by
  induction L with
  | nil => simp at h
  | cons p L ih =>
    rw [List.map_cons, List.nodup_cons] at hn
    rw [lk_cons]
    rcases List.mem_cons.1 h with rfl | h
    · simp
    · rw [if_neg (fun e => hn.1 (by rw [e]; exact List.mem_map.2 ⟨_, h, rfl⟩))]
      exact ih hn.2 h
theorem keys_up (L : List (α × Value)) (a : α) (v : Value) : (upL L a v).map (·.1) = if (lk L a).isSome = true then L.map (·.1) else L.map (·.1) ++ [a] := by
  unfold upL
  by_cases h : (lk L a).isSome = true
  · rw [if_pos h, if_pos h, List.map_map]
    refine List.map_congr_left fun p hp => ?_
    by_cases e : p.1 = a
    · simp [e]
    · simp [e]
  · rw [if_neg h, if_neg h]; simp
theorem mem_keys_up (L : List (α × Value)) (a b : α) (v : Value) : b ∈ (upL L a v).map (·.1) ↔ b = a ∨ b ∈ L.map (·.1) := by
  rw [← lk_isSome, lk_up, ← lk_isSome]
  by_cases h : b = a <;> simp [h]
theorem length_up (L : List (α × Value)) (a : α) (v : Value) : (upL L a v).length = if (lk L a).isSome = true then L.length else L.length + 1 := by
  have := congrArg List.length (keys_up L a v)
  rw [List.length_map] at this
  rw [this]
  by_cases h : (lk L a).isSome = true
  · rw [if_pos h, if_pos h, List.length_map]
  · rw [if_neg h, if_neg h]; simp
end

/-- What is needed of keys: they are read as keys of type kt. -/
structure KL {α : Type} (P : Program) (kt : TypeId) (kv : α → Value) (ok : α → Prop) : Prop where
  K : Keyed P kt
  read : ∀ a, ok a → ∃ l, keyOf P kt (kv a) = some l
  inj : ∀ a b, kv a = kv b → a = b

/-- Block b is a map with the entries L. -/
def MapIs {α : Type} (w : World) (kv : α → Value) (ok : α → Prop) (b : Nat) (L : List (α × Value)) : Prop :=
  ∃ es clock, w.heap[b]? = some (.map es clock) ∧ Stamped es clock ∧ (es.toList.map fun e => (e.key, e.val)) = L.map (fun p => (kv p.1, p.2)) ∧ ∀ p ∈ L, ok p.1

section
variable {α : Type} {w w' : World} {kv : α → Value} {ok : α → Prop} {b : Nat} {L : List (α × Value)}
theorem MapIs.lt (h : MapIs w kv ok b L) : b < w.heap.size := by
  obtain ⟨es, clock, hb, _⟩ := h
  exact (Array.getElem?_eq_some_iff.1 hb).1
theorem MapIs.of_block (h : MapIs w kv ok b L) (e : w'.heap[b]? = w.heap[b]?) : MapIs w' kv ok b L := by
  obtain ⟨es, clock, hb, r⟩ := h
  exact ⟨es, clock, e.trans hb, r⟩
theorem MapIs.kept (h : MapIs w kv ok b L) {row : Option Nat} (hg : w.grownBy w' row) (hne : some b ≠ row) : MapIs w' kv ok b L := h.of_block (hg.block b h.lt hne)
theorem MapIs.below {B : Nat} (h : MapIs w kv ok b L) (hb : Below B w w') (hlt : b < B) : MapIs w' kv ok b L := h.of_block (hb.block b hlt)
theorem MapIs.alloc (h : MapIs w kv ok b L) (o : Obj) : MapIs (w.alloc o) kv ok b L := h.of_block (Below.heap_alloc w o b h.lt)
theorem MapIs.drew (h : MapIs w kv ok b L) : MapIs w.drew kv ok b L := h
theorem MapIs.drewN (h : MapIs w kv ok b L) (n : Nat) : MapIs (w.drewN n) kv ok b L := h
theorem MapIs.set_ (h : MapIs w kv ok b L) {p : Addr} (hp : b ≠ p.block) (u : Value) : MapIs (w.setCell p u) kv ok b L := h.of_block (Below.heap_setCell w p u b hp)
theorem MapIs.made (w : World) (kv : α → Value) (ok : α → Prop) : MapIs (w.alloc (.map #[] 0)) kv ok w.heap.size [] :=
  ⟨#[], 0, (MapKept.heap_alloc w _).1, stamped_empty 0, by simp, by simp⟩
theorem MapIs.ok_of (h : MapIs w kv ok b L) {p : α × Value} (hp : p ∈ L) : ok p.1 := by
  obtain ⟨_, _, _, _, _, hk⟩ := h
  exact hk p hp
theorem MapIs.keyvals {es : Array MapEntry} (hE : (es.toList.map fun e => (e.key, e.val)) = L.map (fun p => (kv p.1, p.2))) : es.toList.map (·.key) = L.map (fun p => kv p.1) := by
  have := congrArg (List.map Prod.fst) hE
  simpa [List.map_map, Function.comp_def] using this
theorem MapIs.nodup (h : MapIs w kv ok b L) : (L.map (·.1)).Nodup := by
  obtain ⟨es, clock, hb, hs, hE, hk⟩ := h
  have h2 : (L.map (fun p => kv p.1)).Nodup := by rw [← MapIs.keyvals hE]; exact hs.2.2
  have h3 : ((L.map (·.1)).map kv).Nodup := by rw [List.map_map]; exact h2
  exact (List.pairwise_map.1 h3).imp fun {a b} hne e => hne (by rw [e])
/-- An entry of the block, and its place in the list. -/
theorem entry_at {es : Array MapEntry} (hE : (es.toList.map fun e => (e.key, e.val)) = L.map (fun p => (kv p.1, p.2))) {j : Nat} {e : MapEntry} (hj : es.toList[j]? = some e) : ∃ p, L[j]? = some p ∧ e.key = kv p.1 ∧ e.val = p.2 := by
  have h1 : (L.map (fun p => (kv p.1, p.2)))[j]? = some (e.key, e.val) := by rw [← hE, List.getElem?_map, hj]; rfl
  rw [List.getElem?_map] at h1
  cases hl : L[j]? with
  | none => rw [hl] at h1; cases h1
  | some p =>
    rw [hl] at h1
    injection h1 with h1
    exact ⟨p, rfl, by rw [← (Prod.mk.inj h1).1], by rw [← (Prod.mk.inj h1).2]⟩
end

section
variable {α : Type} [DecidableEq α] {P : Program} {kt : TypeId} {w w' : World} {kv : α → Value} {ok : α → Prop} {b : Nat} {L : List (α × Value)}
theorem map_find (k : KL P kt kv ok) {es : Array MapEntry} {clock : Nat} (hs : Stamped es clock) (hE : (es.toList.map fun e => (e.key, e.val)) = L.map (fun p => (kv p.1, p.2))) (hk : ∀ p ∈ L, ok p.1) (w : World) {a : α} (ha : ok a) :
    (lk L a = none ∧ (Instr.findKey kt (kv a) es.toList).run P w = .ok none w ∧ ∀ e ∈ es.toList, e.key ≠ kv a) ∨
    ∃ j e, lk L a = some e.val ∧ (Instr.findKey kt (kv a) es.toList).run P w = .ok (some (j, e.val)) w ∧ es.toList[j]? = some e ∧ e.key = kv a := by
  obtain ⟨l, hl⟩ := k.read a ha
  have hes : ∀ e ∈ es.toList, ∃ l, keyOf P kt e.key = some l := fun e he => by
    obtain ⟨j, hj⟩ := List.getElem?_of_mem he
    obtain ⟨p, hp, h1, _⟩ := entry_at hE hj
    rw [h1]
    exact k.read _ (hk p (List.mem_of_getElem? hp))
  have hnd : (L.map (·.1)).Nodup := by
    have h2 : (L.map (fun p => kv p.1)).Nodup := by rw [← MapIs.keyvals hE]; exact hs.2.2
    have h3 : ((L.map (·.1)).map kv).Nodup := by rw [List.map_map]; exact h2
    exact (List.pairwise_map.1 h3).imp fun {a b} hne e => hne (by rw [e])
  rcases k.K.find w hl es.toList hes with ⟨h1, h2⟩ | ⟨j, e, h1, h2, h3⟩
  · refine .inl ⟨?_, h1, h2⟩
    cases hlk : lk L a with
    | none => rfl
    | some v =>
      have hm := lk_mem hlk
      have hm2 : (kv a, v) ∈ es.toList.map fun e => (e.key, e.val) := by rw [hE]; exact List.mem_map.2 ⟨_, hm, rfl⟩
      obtain ⟨e, he, hev⟩ := List.mem_map.1 hm2
      exact absurd (Prod.mk.inj hev).1 (h2 e he)
  · refine .inr ⟨j, e, ?_, h1, h2, h3⟩
    obtain ⟨p, hp, h4, h5⟩ := entry_at hE h2
    have e1 : p.1 = a := k.inj _ _ (by rw [← h4, h3])
    exact lk_of_mem hnd (by rw [h5, ← e1]; exact List.mem_of_getElem? hp)
theorem MapIs.run_look (h : MapIs w kv ok b L) (k : KL P kt kv ok) {t e : TypeId} (ht : P.underlying t = some (.map kt e)) {z : Value} (hz : (zeroValue e).run P w = .ok z w) {a : α} (ha : ok a) (ok' : Bool) :
    (Instr.lookup t (.map (some b)) (kv a) ok').run P w = .ok (if ok' = true then .tuple #[(lk L a).getD z, .bool (lk L a).isSome] else (lk L a).getD z) w := by
  obtain ⟨es, clock, hb, hs, hE, hk⟩ := h
  obtain ⟨l, hl⟩ := k.read a ha
  rcases map_find k hs hE hk w ha with ⟨h0, h1, h2⟩ | ⟨j, e0, h0, h1, h2, h3⟩
  · rw [h0]
    cases ok' <;> simp [Instr.lookup, run_underlying ht, MapKept.run_getObj_map hb, k.K.check w _ hl, h1, hz, Result.andThen]
  · rw [h0]
    cases ok' <;> simp [Instr.lookup, run_underlying ht, MapKept.run_getObj_map hb, k.K.check w _ hl, h1, Result.andThen]
theorem MapIs.run_up (h : MapIs w kv ok b L) (k : KL P kt kv ok) {t e : TypeId} (ht : P.underlying t = some (.map kt e)) {a : α} (ha : ok a) (v : Value) :
    ∃ w', (Instr.mapUpdate t (.map (some b)) (kv a) v).run P w = .ok () w' ∧ MapIs w' kv ok b (upL L a v) ∧ w.grownBy w' (some b) ∧ w'.heap.size = w.heap.size := by
  obtain ⟨es, clock, hb, hs, hE, hk⟩ := h
  obtain ⟨l, hl⟩ := k.read a ha
  rcases map_find k hs hE hk w ha with ⟨h0, h1, h2⟩ | ⟨j, e0, h0, h1, h2, h3⟩
  · refine ⟨ChangeMaps.setBlock w b (.map (es.push ⟨kv a, v, clock⟩) (clock + 1)), ?_, ⟨_, _, ChangeMaps.heap_setBlock_same hb _, stamped_push hs h2, ?_, ?_⟩, ⟨rfl, rfl, rfl, by simp [ChangeMaps.setBlock], fun i _ hi => ChangeMaps.heap_setBlock_other hb _ (fun e => hi (by rw [e]))⟩, by simp [ChangeMaps.setBlock]⟩
    · simp [Instr.mapUpdate, run_underlying ht, MapKept.run_getObj_map hb, k.K.check w false hl, h1, MapKept.run_setObj_map _ hb, Result.andThen, ChangeMaps.setBlock]
    · unfold upL
      rw [if_neg (by rw [h0]; simp)]
      simp [hE]
    · unfold upL
      rw [if_neg (by rw [h0]; simp)]
      intro p hp
      rcases List.mem_append.1 hp with hp | hp
      · exact hk p hp
      · rw [List.mem_singleton.1 hp]; exact ha
  · have hj : es[j]? = some e0 := by simpa using h2
    have hjl : j < es.toList.length := (List.getElem?_eq_some_iff.1 h2).1
    have hup : upL L a v = L.map (fun p => if p.1 = a then (a, v) else p) := by unfold upL; rw [if_pos (by rw [h0]; rfl)]
    refine ⟨ChangeMaps.setBlock w b (.map (es.modify j fun e' => { e' with key := kv a, val := v }) clock), ?_, ⟨_, _, ChangeMaps.heap_setBlock_same hb _, stamped_modify hs _ _ (fun _ _ => rfl) (fun e' _ he' => by rw [hj] at he'; cases he'; exact h3.symm), ?_, ?_⟩,
      ⟨rfl, rfl, rfl, by simp [ChangeMaps.setBlock], fun i _ hi => ChangeMaps.heap_setBlock_other hb _ (fun e => hi (by rw [e]))⟩, by simp [ChangeMaps.setBlock]⟩
    · simp [Instr.mapUpdate, run_underlying ht, MapKept.run_getObj_map hb, k.K.check w false hl, h1, hj, h3, k.K.stays w hl, MapKept.run_setObj_map _ hb, Result.andThen, ChangeMaps.setBlock]
    · rw [hup]
      refine List.ext_getElem? fun i => ?_
      rw [List.getElem?_map, List.getElem?_map, List.getElem?_map, Array.toList_modify, ChangeMaps.modify_eq_set _ _ _ _ h2]
      by_cases hij : i = j
      · subst hij
        obtain ⟨p, hp, h4, h5⟩ := entry_at hE h2
        have e1 : p.1 = a := k.inj _ _ (by rw [← h4, h3])
        rw [List.getElem?_set_self hjl, hp]
        simp [e1]
      · rw [List.getElem?_set_ne (fun e => hij e.symm)]
        cases hi : es.toList[i]? with
        | none =>
          have : L[i]? = none := by
            have := congrArg (fun l => l[i]?) hE
            simp only [List.getElem?_map, hi] at this
            cases hl : L[i]? with
            | none => rfl
            | some p => rw [hl] at this; cases this
          rw [this]; rfl
        | some e1 =>
          obtain ⟨p, hp, h4, h5⟩ := entry_at hE hi
          rw [hp]
          have hne : ¬ p.1 = a := fun e => by
            have hk2 : e1.key = e0.key := by rw [h4, h3, e]
            have hil : i < es.toList.length := (List.getElem?_eq_some_iff.1 hi).1
            have hp2 := ((stamped_iff es clock).1 hs).2.2
            have g1 : es.toList[i] = e1 := (List.getElem?_eq_some_iff.1 hi).2
            have g2 : es.toList[j] = e0 := (List.getElem?_eq_some_iff.1 h2).2
            rcases Nat.lt_or_gt_of_ne hij with hlt | hlt
            · exact List.pairwise_iff_getElem.1 hp2 i j hil hjl hlt (by rw [g1, g2]; exact hk2)
            · exact List.pairwise_iff_getElem.1 hp2 j i hjl hil hlt (by rw [g1, g2]; exact hk2.symm)
          simp [hne, h4, h5]
    · rw [hup]
      intro p hp
      obtain ⟨q, hq, rfl⟩ := List.mem_map.1 hp
      by_cases e : q.1 = a
      · rw [if_pos e]; exact ha
      · rw [if_neg e]; exact hk q hq

/-- At the operation: a look-up. -/
theorem wpList_look {ops : Array Oper} {rest : List Oper} {o : Oper} {A : Act} {Q : Exit → Act → World → Prop} (hg : o.guard = none) (m x : Operand) (t : TypeId) (ok' : Bool) (hop : o.op = Op.lookup t m x ok')
    (k : KL P kt kv ok) {e : TypeId} (ht : P.underlying t = some (.map kt e)) {z : Value} (hz : ∀ W, (zeroValue e).run P W = .ok z W) (hm : A.eval m = .map (some b)) (h : MapIs w kv ok b L) (a : α) (hx : A.eval x = kv a) (ha : ok a)
    (hK : wpList P ops Q rest (A.put o.dst (if ok' = true then .tuple #[(lk L a).getD z, .bool (lk L a).isSome] else (lk L a).getD z)) w) :
    wpList P ops Q (o :: rest) A w := by
  refine wpList_plain hg fun K' hK' => ?_
  have hrun := h.run_look k ht (hz w) ha ok'
  unfold Oper.wp
  simp [execOp, hop, hm, hx, hrun, Result.andThen]
  exact hK' _ _ hK
theorem wpList_look_yes {ops : Array Oper} {rest : List Oper} {o : Oper} {A : Act} {Q : Exit → Act → World → Prop} (hg : o.guard = none) (m x : Operand) (t : TypeId) (hop : o.op = Op.lookup t m x true)
    (k : KL P kt kv ok) {e : TypeId} (ht : P.underlying t = some (.map kt e)) {z : Value} (hz : ∀ W, (zeroValue e).run P W = .ok z W) (hm : A.eval m = .map (some b)) (h : MapIs w kv ok b L) (a : α) (hx : A.eval x = kv a) (ha : ok a) (v : Value) (hv : lk L a = some v)
    (hK : wpList P ops Q rest (A.put o.dst (.tuple #[v, .bool true])) w) : wpList P ops Q (o :: rest) A w :=
  wpList_look hg m x t true hop k ht hz hm h a hx ha (by simpa [hv] using hK)
theorem wpList_look_no {ops : Array Oper} {rest : List Oper} {o : Oper} {A : Act} {Q : Exit → Act → World → Prop} (hg : o.guard = none) (m x : Operand) (t : TypeId) (hop : o.op = Op.lookup t m x true)
    (k : KL P kt kv ok) {e : TypeId} (ht : P.underlying t = some (.map kt e)) {z : Value} (hz : ∀ W, (zeroValue e).run P W = .ok z W) (hm : A.eval m = .map (some b)) (h : MapIs w kv ok b L) (a : α) (hx : A.eval x = kv a) (ha : ok a) (hv : lk L a = none)
    (hK : wpList P ops Q rest (A.put o.dst (.tuple #[z, .bool false])) w) : wpList P ops Q (o :: rest) A w :=
  wpList_look hg m x t true hop k ht hz hm h a hx ha (by simpa [hv] using hK)
theorem wpList_look_one {ops : Array Oper} {rest : List Oper} {o : Oper} {A : Act} {Q : Exit → Act → World → Prop} (hg : o.guard = none) (m x : Operand) (t : TypeId) (hop : o.op = Op.lookup t m x false)
    (k : KL P kt kv ok) {e : TypeId} (ht : P.underlying t = some (.map kt e)) {z : Value} (hz : ∀ W, (zeroValue e).run P W = .ok z W) (hm : A.eval m = .map (some b)) (h : MapIs w kv ok b L) (a : α) (hx : A.eval x = kv a) (ha : ok a) (v : Value) (hv : (lk L a).getD z = v)
    (hK : wpList P ops Q rest (A.put o.dst v) w) : wpList P ops Q (o :: rest) A w :=
  wpList_look hg m x t false hop k ht hz hm h a hx ha (by simpa [hv] using hK)
/-- At the operation: a store. -/
theorem wpList_mapup {ops : Array Oper} {rest : List Oper} {o : Oper} {A : Act} {Q : Exit → Act → World → Prop} (hg : o.guard = none) (m x v : Operand) (t : TypeId) (hop : o.op = Op.mapUpdate t m x v)
    (k : KL P kt kv ok) {e : TypeId} (ht : P.underlying t = some (.map kt e)) (hm : A.eval m = .map (some b)) (h : MapIs w kv ok b L) (a : α) (hx : A.eval x = kv a) (ha : ok a) (val : Value) (hv : A.eval v = val)
    (hK : ∀ w', MapIs w' kv ok b (upL L a val) → w.grownBy w' (some b) → w'.heap.size = w.heap.size → wpList P ops Q rest (A.put o.dst undef) w') :
    wpList P ops Q (o :: rest) A w := by
  refine wpList_plain hg fun K' hK' => ?_
  obtain ⟨w', hrun, h1, h2, h3⟩ := h.run_up k ht ha val
  unfold Oper.wp
  simp [execOp, hop, hm, hx, hv, hrun, Result.andThen]
  exact hK' _ _ (hK w' h1 h2 h3)
end

/-! 'm[k] = append(m[k], ..)': the entry is looked up once. -/
/-- The list behind a look-up of an entry that is stored to. -/
def entL {α : Type} [DecidableEq α] (L : List (α × Value)) (a : α) (z : Value) : List (α × Value) := if (lk L a).isSome = true then L else L ++ [(a, z)]
theorem up_entL {α : Type} [DecidableEq α] (L : List (α × Value)) (a : α) (z v : Value) : upL (entL L a z) a v = upL L a v := by
  unfold entL
  by_cases h : (lk L a).isSome = true
  · rw [if_pos h]
  · rw [if_neg h]
    have hl : lk (L ++ [(a, z)]) a = some z := by
      have : lk L a = none := by simpa using h
      rw [lk_append, this, lk_cons]; simp
    unfold upL
    rw [if_neg h, if_pos (by rw [hl]; rfl), List.map_append]
    congr 1
    · have hn : a ∉ L.map (·.1) := fun hm => h ((lk_isSome L a).2 hm)
      have : ∀ p ∈ L, (if p.1 = a then (a, v) else p) = p := fun p hp => if_neg fun e => hn (by rw [← e]; exact List.mem_map.2 ⟨p, hp, rfl⟩)
      rw [List.map_congr_left this]; simp
    · simp
theorem lk_entL {α : Type} [DecidableEq α] (L : List (α × Value)) (a x : α) (z : Value) : lk (entL L a z) x = if x = a then some ((lk L a).getD z) else lk L x := by
  unfold entL
  by_cases h : (lk L a).isSome = true
  · rw [if_pos h]
    by_cases e : x = a
    · subst e
      obtain ⟨y, hy⟩ := Option.isSome_iff_exists.1 h
      rw [if_pos rfl, hy]; rfl
    · rw [if_neg e]
  · have hn : lk L a = none := by simpa using h
    rw [if_neg h, lk_append, lk_cons]
    by_cases e : x = a
    · subst e; rw [hn]; simp
    · rw [if_neg (fun e1 => e e1.symm), if_neg e]; simp
/-- The entry at key has the stamp n. -/
def Stamp (w : World) (b : Nat) (key : Value) (n : Nat) : Prop := ∃ es clock, w.heap[b]? = some (.map es clock) ∧ ∃ e ∈ es.toList, e.key = key ∧ e.born = n
theorem Stamp.of_block {w w' : World} {b n : Nat} {key : Value} (h : Stamp w b key n) (e : w'.heap[b]? = w.heap[b]?) : Stamp w' b key n := by
  obtain ⟨es, clock, hb, r⟩ := h
  exact ⟨es, clock, e.trans hb, r⟩
theorem Stamp.lt {w : World} {b n : Nat} {key : Value} (h : Stamp w b key n) : b < w.heap.size := by
  obtain ⟨es, clock, hb, _⟩ := h
  exact (Array.getElem?_eq_some_iff.1 hb).1
theorem Stamp.kept {w w' : World} {b n : Nat} {key : Value} (h : Stamp w b key n) {row : Option Nat} (hg : w.grownBy w' row) (hne : some b ≠ row) : Stamp w' b key n := h.of_block (hg.block b h.lt hne)
theorem Stamp.alloc {w : World} {b n : Nat} {key : Value} (h : Stamp w b key n) (o : Obj) : Stamp (w.alloc o) b key n := h.of_block (Below.heap_alloc w o b h.lt)
section
variable {α : Type} [DecidableEq α] {P : Program} {kt : TypeId} {w w' : World} {kv : α → Value} {ok : α → Prop} {b : Nat} {L : List (α × Value)}
theorem MapIs.run_entry (h : MapIs w kv ok b L) (k : KL P kt kv ok) {t e : TypeId} (ht : P.underlying t = some (.map kt e)) {z : Value} (hz : ∀ W, (zeroValue e).run P W = .ok z W) {a : α} (ha : ok a) :
    ∃ w' n, (Instr.mapEntry t (.map (some b)) (kv a)).run P w = .ok (.tuple #[(lk L a).getD z, .int .i64 (n : Nat)]) w' ∧ MapIs w' kv ok b (entL L a z) ∧ Stamp w' b (kv a) n ∧ w.grownBy w' (some b) ∧ w'.heap.size = w.heap.size := by
  obtain ⟨es, clock, hb, hs, hE, hk⟩ := h
  obtain ⟨l, hl⟩ := k.read a ha
  rcases map_find k hs hE hk w ha with ⟨h0, h1, h2⟩ | ⟨j, e0, h0, h1, h2, h3⟩
  · refine ⟨ChangeMaps.setBlock w b (.map (es.push ⟨kv a, z, clock⟩) (clock + 1)), clock, ?_, ⟨_, _, ChangeMaps.heap_setBlock_same hb _, stamped_push hs h2, ?_, ?_⟩, ⟨_, _, ChangeMaps.heap_setBlock_same hb _, ⟨kv a, z, clock⟩, by simp, rfl, rfl⟩,
      ⟨rfl, rfl, rfl, by simp [ChangeMaps.setBlock], fun i _ hi => ChangeMaps.heap_setBlock_other hb _ (fun e => hi (by rw [e]))⟩, by simp [ChangeMaps.setBlock]⟩
    · rw [h0]
      simp [Instr.mapEntry, run_underlying ht, MapKept.run_getObj_map hb, k.K.check w false hl, h1, hz, MapKept.run_setObj_map _ hb, Result.andThen, ChangeMaps.setBlock, goInt]
    · unfold entL
      rw [if_neg (by rw [h0]; simp)]
      simp [hE]
    · unfold entL
      rw [if_neg (by rw [h0]; simp)]
      intro p hp
      rcases List.mem_append.1 hp with hp | hp
      · exact hk p hp
      · rw [List.mem_singleton.1 hp]; exact ha
  · have hj : es[j]? = some e0 := by simpa using h2
    have hjl : j < es.toList.length := (List.getElem?_eq_some_iff.1 h2).1
    have hlist : (es.modify j fun e' => { e' with key := kv a }).toList = es.toList := by
      rw [Array.toList_modify, ChangeMaps.modify_eq_set _ _ _ _ h2]
      refine List.ext_getElem? fun i => ?_
      by_cases hij : i = j
      · subst hij
        rw [List.getElem?_set_self hjl, h2, ← h3]
      · rw [List.getElem?_set_ne (fun e => hij e.symm)]
    refine ⟨ChangeMaps.setBlock w b (.map (es.modify j fun e' => { e' with key := kv a }) clock), e0.born, ?_, ⟨_, _, ChangeMaps.heap_setBlock_same hb _, stamped_modify hs _ _ (fun _ _ => rfl) (fun e' _ he' => by rw [hj] at he'; cases he'; exact h3.symm), ?_, ?_⟩,
      ⟨_, _, ChangeMaps.heap_setBlock_same hb _, e0, by rw [hlist]; exact List.mem_of_getElem? h2, h3, rfl⟩,
      ⟨rfl, rfl, rfl, by simp [ChangeMaps.setBlock], fun i _ hi => ChangeMaps.heap_setBlock_other hb _ (fun e => hi (by rw [e]))⟩, by simp [ChangeMaps.setBlock]⟩
    · rw [h0]
      simp [Instr.mapEntry, run_underlying ht, MapKept.run_getObj_map hb, k.K.check w false hl, h1, hj, h3, k.K.stays w hl, MapKept.run_setObj_map _ hb, Result.andThen, ChangeMaps.setBlock, goInt]
    · unfold entL
      rw [if_pos (by rw [h0]; rfl), hlist, hE]
    · unfold entL
      rw [if_pos (by rw [h0]; rfl)]
      exact hk
theorem MapIs.run_estore (h : MapIs w kv ok b L) (k : KL P kt kv ok) {t : TypeId} {a : α} (ha : ok a) {n : Nat} (hst : Stamp w b (kv a) n) (v : Value) :
    ∃ w', (Instr.entryStore t (.map (some b)) (.int .i64 (n : Nat)) v).run P w = .ok () w' ∧ MapIs w' kv ok b (upL L a v) ∧ w.grownBy w' (some b) ∧ w'.heap.size = w.heap.size := by
  obtain ⟨es, clock, hb, hs, hE, hk⟩ := h
  obtain ⟨es', clock', hb', e0, he0, h3, h4⟩ := hst
  rw [hb] at hb'
  obtain ⟨rfl, rfl⟩ : es = es' ∧ clock = clock' := by injection hb' with hb'; injection hb' with h1 h2; exact ⟨h1, h2⟩
  obtain ⟨j, h2⟩ := List.getElem?_of_mem he0
  have hj : es[j]? = some e0 := by simpa using h2
  have hjl : j < es.toList.length := (List.getElem?_eq_some_iff.1 h2).1
  have hjs : j < es.size := by simpa using hjl
  have hje : es[j] = e0 := by have := (Array.getElem?_eq_some_iff.1 hj).2; exact this
  have hidx : es.findIdx? (fun e => (e.born : Int) == (n : Int)) = some j := by
    rw [Array.findIdx?_eq_some_iff_getElem]
    refine ⟨hjs, by rw [hje, h4]; simp, fun i hi => ?_⟩
    have hne : es[i].born ≠ e0.born := fun e => by
      have hn := hs.2.1
      have g1 : (es.toList.map (·.born))[i]'(by simp; omega) = (es.toList.map (·.born))[j]'(by simp; omega) := by simp [e, hje]
      have := (List.getElem_inj hn).1 g1
      omega
    simp only [beq_iff_eq]
    intro e
    exact hne (by omega)
  obtain ⟨p0, hp0, h5, h6⟩ := entry_at hE h2
  have hp0a : p0.1 = a := k.inj _ _ (by rw [← h5, h3])
  have hnd : (L.map (·.1)).Nodup := MapIs.nodup (w := w) (kv := kv) (ok := ok) (b := b) ⟨es, clock, hb, hs, hE, hk⟩
  have hlk : lk L a = some p0.2 := lk_of_mem hnd (by rw [← hp0a]; exact List.mem_of_getElem? hp0)
  have hup : upL L a v = L.map (fun p => if p.1 = a then (a, v) else p) := by unfold upL; rw [if_pos (by rw [hlk]; rfl)]
  refine ⟨ChangeMaps.setBlock w b (.map (es.modify j fun e' => { e' with val := v }) clock), ?_, ⟨_, _, ChangeMaps.heap_setBlock_same hb _, stamped_modify hs _ _ (fun _ _ => rfl) (fun _ _ _ => rfl), ?_, ?_⟩,
    ⟨rfl, rfl, rfl, by simp [ChangeMaps.setBlock], fun i _ hi => ChangeMaps.heap_setBlock_other hb _ (fun e => hi (by rw [e]))⟩, by simp [ChangeMaps.setBlock]⟩
  · simp [Instr.entryStore, MapKept.run_getObj_map hb, hidx, MapKept.run_setObj_map _ hb, Result.andThen, ChangeMaps.setBlock, asInt, asIntOf]
  · rw [hup]
    refine List.ext_getElem? fun i => ?_
    rw [List.getElem?_map, List.getElem?_map, List.getElem?_map, Array.toList_modify, ChangeMaps.modify_eq_set _ _ _ _ h2]
    by_cases hij : i = j
    · subst hij
      rw [List.getElem?_set_self hjl, hp0]
      simp [hp0a, h3]
    · rw [List.getElem?_set_ne (fun e => hij e.symm)]
      cases hi : es.toList[i]? with
      | none =>
        have : L[i]? = none := by
          have := congrArg (fun l => l[i]?) hE
          simp only [List.getElem?_map, hi] at this
          cases hl : L[i]? with
          | none => rfl
          | some p => rw [hl] at this; cases this
        rw [this]; rfl
      | some e1 =>
        obtain ⟨p, hp, h7, h8⟩ := entry_at hE hi
        rw [hp]
        have hne : ¬ p.1 = a := fun e => by
          have hil : i < L.length := (List.getElem?_eq_some_iff.1 hp).1
          have hjl' : j < L.length := (List.getElem?_eq_some_iff.1 hp0).1
          have g1 : L[i] = p := (List.getElem?_eq_some_iff.1 hp).2
          have g2 : L[j] = p0 := (List.getElem?_eq_some_iff.1 hp0).2
          have g3 : (L.map (·.1))[i]'(by simpa using hil) = (L.map (·.1))[j]'(by simpa using hjl') := by simp [g1, g2, e, hp0a]
          exact hij ((List.getElem_inj hnd).1 g3)
        simp [hne, h7, h8]
  · rw [hup]
    intro p hp
    obtain ⟨q, hq, rfl⟩ := List.mem_map.1 hp
    by_cases e : q.1 = a
    · rw [if_pos e]; exact ha
    · rw [if_neg e]; exact hk q hq
theorem wpList_mapentry {ops : Array Oper} {rest : List Oper} {o : Oper} {A : Act} {Q : Exit → Act → World → Prop} (hg : o.guard = none) (m x : Operand) (t : TypeId) (hop : o.op = Op.mapEntry t m x)
    (k : KL P kt kv ok) {e : TypeId} (ht : P.underlying t = some (.map kt e)) {z : Value} (hz : ∀ W, (zeroValue e).run P W = .ok z W) (hm : A.eval m = .map (some b)) (h : MapIs w kv ok b L) (a : α) (hx : A.eval x = kv a) (ha : ok a)
    (hK : ∀ w' n, MapIs w' kv ok b (entL L a z) → Stamp w' b (kv a) n → w.grownBy w' (some b) → w'.heap.size = w.heap.size → wpList P ops Q rest (A.put o.dst (.tuple #[(lk L a).getD z, .int .i64 (n : Nat)])) w') :
    wpList P ops Q (o :: rest) A w := by
  refine wpList_plain hg fun K' hK' => ?_
  obtain ⟨w', n, hrun, h1, h2, h3, h4⟩ := h.run_entry k ht hz ha
  unfold Oper.wp
  simp [execOp, hop, hm, hx, hrun, Result.andThen]
  exact hK' _ _ (hK w' n h1 h2 h3 h4)
theorem wpList_estore {ops : Array Oper} {rest : List Oper} {o : Oper} {A : Act} {Q : Exit → Act → World → Prop} (hg : o.guard = none) (m x v : Operand) (t : TypeId) (hop : o.op = Op.entryStore t m x v)
    (k : KL P kt kv ok) (n : Nat) (hm : A.eval m = .map (some b)) (h : MapIs w kv ok b L) (a : α) (ha : ok a) (hst : Stamp w b (kv a) n) (hx : A.eval x = .int .i64 (n : Nat)) (val : Value) (hv : A.eval v = val)
    (hK : ∀ w', MapIs w' kv ok b (upL L a val) → w.grownBy w' (some b) → w'.heap.size = w.heap.size → wpList P ops Q rest (A.put o.dst undef) w') :
    wpList P ops Q (o :: rest) A w := by
  refine wpList_plain hg fun K' hK' => ?_
  obtain ⟨w', hrun, h1, h2, h3⟩ := h.run_estore k (t := t) ha hst val
  unfold Oper.wp
  simp [execOp, hop, hm, hx, hv, hrun, Result.andThen]
  exact hK' _ _ (hK w' h1 h2 h3)
end

/-! Ranging. -/
/-- 'for k, v := range m' under way: map b with the entries L, iterator r; left: what is still to come. -/
def RangeIs {α : Type} (w : World) (kv : α → Value) (ok : α → Prop) (b r : Nat) (L left : List (α × Value)) : Prop :=
  ∃ es clock since seen c0, w.heap[b]? = some (.map es clock) ∧ Stamped es clock ∧ (es.toList.map fun e => (e.key, e.val)) = L.map (fun p => (kv p.1, p.2)) ∧ (∀ p ∈ L, ok p.1) ∧
    w.heap[r]? = some (.mapIter (some b) since seen c0) ∧ (∀ x ∈ es.toList, x.born < since) ∧ since ≤ c0 ∧ since ≤ clock ∧ ((leftOf es seen).toList.map fun e => (e.key, e.val)) = left.map (fun p => (kv p.1, p.2)) ∧ ∀ p ∈ left, p ∈ L
theorem left_push {es : Array MapEntry} {seen : Array Nat} {e : MapEntry} {s1 s2 : List MapEntry} (hn : (es.toList.map (·.born)).Nodup) (h : (leftOf es seen).toList = s1 ++ e :: s2) : (leftOf es (seen.push e.born)).toList = s1 ++ s2 := by
  have h1 : (leftOf es (seen.push e.born)).toList = (leftOf es seen).toList.filter (fun x => !(x.born == e.born)) := by
    unfold leftOf
    rw [Array.toList_filter, Array.toList_filter, List.filter_filter]
    refine List.filter_congr fun x _ => ?_
    rw [contains_push]
    cases seen.contains x.born <;> cases (x.born == e.born) <;> rfl
  have h2 : ((leftOf es seen).toList.map (·.born)).Nodup := by
    unfold leftOf
    rw [Array.toList_filter]
    exact (List.filter_sublist.map _).nodup hn
  rw [h, List.map_append, List.map_cons, List.nodup_append] at h2
  obtain ⟨_, h4, h5⟩ := h2
  rw [List.nodup_cons] at h4
  rw [h1, h, List.filter_append, List.filter_cons_of_neg (by simp)]
  congr 1
  · refine List.filter_eq_self.2 fun x hx => ?_
    have := h5 x.born (List.mem_map.2 ⟨x, hx, rfl⟩) e.born (by simp)
    simp [this]
  · refine List.filter_eq_self.2 fun x hx => ?_
    have : x.born ≠ e.born := fun e1 => h4.1 (by rw [← e1]; exact List.mem_map.2 ⟨x, hx, rfl⟩)
    simp [this]
section
variable {α : Type} {P : Program} {w w' : World} {kv : α → Value} {ok : α → Prop} {b r : Nat} {L left : List (α × Value)}
theorem RangeIs.map (h : RangeIs w kv ok b r L left) : MapIs w kv ok b L := by
  obtain ⟨es, clock, since, seen, c0, hb, hs, hE, hk, _⟩ := h
  exact ⟨es, clock, hb, hs, hE, hk⟩
theorem RangeIs.ltr (h : RangeIs w kv ok b r L left) : r < w.heap.size := by
  obtain ⟨es, clock, since, seen, c0, hb, hs, hE, hk, hr, _⟩ := h
  exact (Array.getElem?_eq_some_iff.1 hr).1
theorem RangeIs.ne (h : RangeIs w kv ok b r L left) : r ≠ b := by
  obtain ⟨es, clock, since, seen, c0, hb, hs, hE, hk, hr, _⟩ := h
  intro e
  rw [e, hb] at hr
  cases hr
theorem RangeIs.of_block (h : RangeIs w kv ok b r L left) (e : w'.heap[b]? = w.heap[b]?) (e' : w'.heap[r]? = w.heap[r]?) : RangeIs w' kv ok b r L left := by
  obtain ⟨es, clock, since, seen, c0, hb, hs, hE, hk, hr, rest⟩ := h
  exact ⟨es, clock, since, seen, c0, e.trans hb, hs, hE, hk, e'.trans hr, rest⟩
theorem RangeIs.kept (h : RangeIs w kv ok b r L left) {row : Option Nat} (hg : w.grownBy w' row) (hne : some b ≠ row) (hner : some r ≠ row) : RangeIs w' kv ok b r L left :=
  h.of_block (hg.block b h.map.lt hne) (hg.block r h.ltr hner)
theorem RangeIs.below {B : Nat} (h : RangeIs w kv ok b r L left) (hb : Below B w w') (hlt : b < B) (hr : r < B) : RangeIs w' kv ok b r L left := h.of_block (hb.block b hlt) (hb.block r hr)
theorem RangeIs.alloc (h : RangeIs w kv ok b r L left) (o : Obj) : RangeIs (w.alloc o) kv ok b r L left := h.of_block (Below.heap_alloc w o b h.map.lt) (Below.heap_alloc w o r h.ltr)
theorem RangeIs.set_ (h : RangeIs w kv ok b r L left) {p : Addr} (hp : b ≠ p.block) (hp' : r ≠ p.block) (u : Value) : RangeIs (w.setCell p u) kv ok b r L left := h.of_block (Below.heap_setCell w p u b hp) (Below.heap_setCell w p u r hp')
/-- How many are still to come, read off the world. -/
theorem RangeIs.left_eq (h : RangeIs w kv ok b r L left) : w.rangeLeft b r = left.length := by
  obtain ⟨es, clock, since, seen, c0, hb, hs, hE, hk, hr, _, _, _, hl, _⟩ := h
  simp only [World.rangeLeft, hb, hr]
  have := congrArg List.length hl
  simpa using this
theorem MapIs.run_range (h : MapIs w kv ok b L) {t kt e : TypeId} (ht : P.underlying t = some (.map kt e)) :
    (Instr.range t (.map (some b))).run P w = .ok (.pointer (some ⟨w.heap.size, 0, none⟩)) (w.alloc (.mapIter (some b) (match w.heap[b]? with | some (.map _ c) => c | _ => 0) #[] (match w.heap[b]? with | some (.map _ c) => c | _ => 0))) ∧
    RangeIs (w.alloc (.mapIter (some b) (match w.heap[b]? with | some (.map _ c) => c | _ => 0) #[] (match w.heap[b]? with | some (.map _ c) => c | _ => 0))) kv ok b w.heap.size L L := by
  have hlt := h.lt
  obtain ⟨es, clock, hb, hs, hE, hk⟩ := h
  simp only [hb]
  refine ⟨run_range_map w t kt e b es clock ht hb, es, clock, clock, #[], clock, ((MapKept.heap_alloc w _).2 b hlt).trans hb, hs, hE, hk, (MapKept.heap_alloc w _).1, hs.1, Nat.le_refl _, Nat.le_refl _, ?_, fun p hp => hp⟩
  have e : (leftOf es #[]).toList = es.toList := by
    unfold leftOf
    rw [Array.toList_filter]
    exact List.filter_eq_self.2 (by simp)
  rw [e]; exact hE
/-- The step. -/
theorem RangeIs.next (h : RangeIs w kv ok b r L left) (ty : TypeId) :
    (left = [] ∧ (Instr.next (.pointer (some ⟨r, 0, none⟩)) false ty).run P w = .ok (.tuple #[.bool false]) w) ∨
    ∃ l1 a v l2 w', left = l1 ++ (a, v) :: l2 ∧ (a, v) ∈ L ∧ (Instr.next (.pointer (some ⟨r, 0, none⟩)) false ty).run P w = .ok (.tuple #[.bool true, kv a, v]) w' ∧ RangeIs w' kv ok b r L (l1 ++ l2) ∧ w.grownBy w' (some r) ∧ w'.heap.size = w.heap.size ∧
      (Instr.entry (.pointer (some ⟨r, 0, none⟩))).run P w' = .ok (.tuple #[kv a, v]) w' := by
  have hne := h.ne
  obtain ⟨es, clock, since, seen, c0, hb, hs, hE, hk, hr, hold, hsc, hsk, hl, hsub⟩ := h
  rcases run_next_at (P := P) w ty r b since c0 seen es clock hr hb hold hsc with ⟨h0, hrun⟩ | ⟨e, he, w1, hal, hrun⟩
  · refine .inl ⟨?_, hrun⟩
    have := congrArg List.length hl
    simp only [List.length_map, Array.length_toList, h0] at this
    exact List.eq_nil_of_length_eq_zero this.symm
  · have hr1 : w1.heap[r]? = some (.mapIter (some b) since seen c0) := by rcases hal with rfl | rfl <;> exact hr
    have hb1 : w1.heap[b]? = some (.map es clock) := by rcases hal with rfl | rfl <;> exact hb
    have hset := heap_set (o' := .mapIter (some b) since (seen.push e.born) clock) hr1
    have hb' : (ChangeMaps.setBlock w1 r (.mapIter (some b) since (seen.push e.born) clock)).heap[b]? = some (.map es clock) := (hset.2 b (fun e1 => hne e1.symm)).trans hb1
    obtain ⟨hem, hes⟩ := mem_left he
    obtain ⟨s1, s2, hsp⟩ := List.append_of_mem he
    have hborn : (es.toList.map (·.born)).Nodup := hs.2.1
    have hnew := left_push hborn hsp
    rw [hsp, List.map_append, List.map_cons] at hl
    obtain ⟨l1, l3, rfl, h1, h3⟩ := List.map_eq_append_iff.1 hl.symm
    obtain ⟨p, l2, rfl, h4, h5⟩ := List.map_eq_cons_iff.1 h3
    have hp := Prod.mk.inj h4
    have hL : p ∈ L := hsub p (by simp)
    refine .inr ⟨l1, p.1, p.2, l2, _, rfl, hL, ?_, ⟨es, clock, since, seen.push e.born, clock, hb', hs, hE, hk, hset.1, hold, hsk, hsk, ?_, fun q hq => hsub q (by rcases List.mem_append.1 hq with h | h <;> simp [h])⟩, ?_, ?_, ?_⟩
    · rw [hp.1, hp.2]; exact hrun
    · rw [hnew, List.map_append, List.map_append, h1, h5]
    · rcases hal with rfl | rfl <;> exact ⟨rfl, rfl, rfl, by simp [ChangeMaps.setBlock], fun i _ hi => hset.2 i (fun e1 => hi (by rw [e1]))⟩
    · rcases hal with rfl | rfl <;> simp [ChangeMaps.setBlock]
    · rw [hp.1, hp.2]
      exact run_entry_at _ r b since seen es clock e hset.1 hb' hem hborn
theorem wpList_range_is {ops : Array Oper} {rest : List Oper} {o : Oper} {A : Act} {Q : Exit → Act → World → Prop} (hg : o.guard = none) (m : Operand) (t : TypeId) (hop : o.op = Op.range t m) {kt e : TypeId} (ht : P.underlying t = some (.map kt e))
    (hm : A.eval m = .map (some b)) (h : MapIs w kv ok b L)
    (hK : ∀ w', RangeIs w' kv ok b w.heap.size L L → w.grownBy w' none → w'.heap.size = w.heap.size + 1 → wpList P ops Q rest (A.put o.dst (.pointer (some ⟨w.heap.size, 0, none⟩))) w') :
    wpList P ops Q (o :: rest) A w := by
  refine wpList_plain hg fun K' hK' => ?_
  obtain ⟨hrun, h1⟩ := h.run_range ht
  unfold Oper.wp
  simp [execOp, hop, hm, hrun, Result.andThen]
  exact hK' _ _ (hK _ h1 (World.grownBy_alloc w _ none) (by simp))
theorem wpList_next_is {ops : Array Oper} {rest : List Oper} {o : Oper} {A : Act} {Q : Exit → Act → World → Prop} (hg : o.guard = none) (it : Operand) (hop : o.op = Op.next it false)
    (hit : A.eval it = .pointer (some ⟨r, 0, none⟩)) (h : RangeIs w kv ok b r L left)
    (hDone : left = [] → wpList P ops Q rest (A.put o.dst (.tuple #[.bool false])) w)
    (hMore : ∀ l1 a v l2 w', left = l1 ++ (a, v) :: l2 → (a, v) ∈ L → RangeIs w' kv ok b r L (l1 ++ l2) → w.grownBy w' (some r) → w'.heap.size = w.heap.size → (Instr.entry (.pointer (some ⟨r, 0, none⟩))).run P w' = .ok (.tuple #[kv a, v]) w' →
      wpList P ops Q rest (A.put o.dst (.tuple #[.bool true, kv a, v])) w') :
    wpList P ops Q (o :: rest) A w := by
  refine wpList_plain hg fun K' hK' => ?_
  unfold Oper.wp
  rcases h.next (P := P) o.type with ⟨h0, hrun⟩ | ⟨l1, a, v, l2, w', h1, h2, hrun, h3, h4, h5, h6⟩
  · simp [execOp, hop, hit, hrun, Result.andThen]
    exact hK' _ _ (hDone h0)
  · simp [execOp, hop, hit, hrun, Result.andThen]
    exact hK' _ _ (hMore l1 a v l2 w' h1 h2 h3 h4 h5 h6)
end
end Gm
