/- Rows of the call's own: appended to, read, slices of slices. Over any program. -/
import Derived.Test.YtopakcbhodnipaaMem
import Derived.Maps.AppendAt
import Derived.Deep.AppendLies
import Derived.Deep.OwnRows
import Derived.RegionTactic
import Derived.OwnWalk
import Derived.WalkSmall
namespace Gm
open Go Go.RowKit

/-! An owned row is read. -/
theorem Rd.of_own {w : World} {base sz n : Nat} {e : TypeId} {A : Option Addr} {c : Nat} {xs : List Value} {f : Nat → Nat → Value} (h : w.ownsRow base e sz (.slice A n c) n xs)
    (hx : ∀ i j, i < n → j < sz → xs[i * sz + j]? = some (f i j)) : Rd w w.heap.size sz A n f := by
  intro hn
  obtain ⟨g, cap, hv, _, hlt⟩ := h.form hn
  have hA : A = some ⟨g, 0, none⟩ := by injection hv
  subst hA
  refine ⟨g, 0, rfl, hlt, fun i j hi hj => ?_⟩
  have hc := h.cells (g := g) rfl (i * sz + j) _ (hx i j hi hj)
  rw [Nat.zero_add]
  have e : ((⟨g, 0, none⟩ : Addr).add (i * sz + j)) = ⟨g, i * sz + j, none⟩ := by
    unfold Addr.add; split <;> simp_all
  rw [e] at hc
  exact hc
theorem own_value {w : World} {base sz n : Nat} {e : TypeId} {v : Value} {xs : List Value} (h : w.ownsRow base e sz v n xs) : ∃ A c, v = .slice A n c ∧ n ≤ c ∧ c ≤ maxLen := by
  rcases h.2 with ⟨rfl, rfl⟩ | ⟨g, cap, cur, hv, _, _, hnc, hc, _⟩
  · exact ⟨none, 0, rfl, Nat.le_refl _, by simp [maxLen]⟩
  · exact ⟨_, cap, hv, hnc, hc⟩
theorem own_ne {w : World} {b1 b2 : Nat} {e1 e2 : TypeId} {s1 s2 n1 n2 : Nat} {v1 v2 : Value} {x1 x2 : List Value} (h1 : w.ownsRow b1 e1 s1 v1 n1 x1) (h2 : w.ownsRow b2 e2 s2 v2 n2 x2) (hne : e1 ≠ e2) : v1.ownBlock = none ∨ v1.ownBlock ≠ v2.ownBlock := by
  rcases h1.2 with ⟨rfl, _⟩ | ⟨g1, c1, cur1, rfl, _, hh1, _⟩
  · exact .inl rfl
  · right
    rcases h2.2 with ⟨rfl, _⟩ | ⟨g2, c2, cur2, rfl, _, hh2, _⟩
    · simp [Value.ownBlock]
    · intro e
      have : g1 = g2 := by simpa [Value.ownBlock] using e
      subst this
      rw [hh1] at hh2
      injection hh2 with hh2
      injection hh2 with _ he
      exact hne he
def intRow (l : List Int) : List Value := l.map (.int .i64)
theorem intRow_length (l : List Int) : (intRow l).length = l.length := by simp [intRow]
theorem intRow_append (l k : List Int) : intRow (l ++ k) = intRow l ++ intRow k := by simp [intRow]
theorem intRow_at (l : List Int) : ∀ i j, i < l.length → j < 1 → (intRow l)[i * 1 + j]? = some (intCell l i j) := by
  intro i j hi hj
  obtain rfl : j = 0 := by omega
  simp [intRow, intCell, hi]
theorem intRow_one (l : List Int) : ∀ u ∈ intRow l, u.oneCell' = true := by
  intro u hu
  obtain ⟨x, _, rfl⟩ := List.mem_map.1 hu
  rfl
def arcRow (l : List Arc) : List Value := l.flatMap fun a => [.int .i64 a.f, .int .i64 a.t, .int .i64 a.i, .int .i64 a.o, .int .i64 a.w]
theorem arcRow_length (l : List Arc) : (arcRow l).length = l.length * 5 := by
  induction l with
  | nil => rfl
  | cons a l ih =>
    have e : arcRow (a :: l) = [.int .i64 a.f, .int .i64 a.t, .int .i64 a.i, .int .i64 a.o, .int .i64 a.w] ++ arcRow l := rfl
    rw [e, List.length_append, ih, List.length_cons]; simp; omega
theorem arcRow_append (l k : List Arc) : arcRow (l ++ k) = arcRow l ++ arcRow k := by simp [arcRow]
theorem arcRow_at : ∀ (l : List Arc) (i j : Nat), i < l.length → j < 5 → (arcRow l)[i * 5 + j]? = some (arcCell l i j)
  | [], i, j, h, _ => by simp at h
  | a :: l, 0, j, _, hj => by
    have e : arcRow (a :: l) = [.int .i64 a.f, .int .i64 a.t, .int .i64 a.i, .int .i64 a.o, .int .i64 a.w] ++ arcRow l := rfl
    rw [e]
    rcases (by omega : j = 0 ∨ j = 1 ∨ j = 2 ∨ j = 3 ∨ j = 4) with rfl | rfl | rfl | rfl | rfl <;> rfl
  | a :: l, i + 1, j, h, hj => by
    have e : arcRow (a :: l) = [.int .i64 a.f, .int .i64 a.t, .int .i64 a.i, .int .i64 a.o, .int .i64 a.w] ++ arcRow l := rfl
    have ih := arcRow_at l i j (by simpa using h) hj
    rw [e, List.getElem?_append_right (by simp; omega)]
    have e2 : (i + 1) * 5 + j - [Value.int .i64 a.f, .int .i64 a.t, .int .i64 a.i, .int .i64 a.o, .int .i64 a.w].length = i * 5 + j := by simp; omega
    rw [e2, ih]
    simp [arcCell]
theorem arcRow_one (l : List Arc) : ∀ u ∈ arcRow l, u.oneCell' = true := by
  intro u hu
  obtain ⟨x, _, hx⟩ := List.mem_flatMap.1 hu
  simp at hx
  rcases hx with rfl | rfl | rfl | rfl | rfl <;> rfl
def finRow (l : List Fnl) : List Value := l.flatMap fun a => [.int .i64 a.s, .int .i64 a.w]
theorem finRow_length (l : List Fnl) : (finRow l).length = l.length * 2 := by
  induction l with
  | nil => rfl
  | cons a l ih =>
    have e : finRow (a :: l) = [.int .i64 a.s, .int .i64 a.w] ++ finRow l := rfl
    rw [e, List.length_append, ih, List.length_cons]; simp; omega
theorem finRow_append (l k : List Fnl) : finRow (l ++ k) = finRow l ++ finRow k := by simp [finRow]
theorem finRow_at : ∀ (l : List Fnl) (i j : Nat), i < l.length → j < 2 → (finRow l)[i * 2 + j]? = some (finCell l i j)
  | [], i, j, h, _ => by simp at h
  | a :: l, 0, j, _, hj => by
    have e : finRow (a :: l) = [.int .i64 a.s, .int .i64 a.w] ++ finRow l := rfl
    rw [e]
    rcases (by omega : j = 0 ∨ j = 1) with rfl | rfl <;> rfl
  | a :: l, i + 1, j, h, hj => by
    have e : finRow (a :: l) = [.int .i64 a.s, .int .i64 a.w] ++ finRow l := rfl
    have ih := finRow_at l i j (by simpa using h) hj
    rw [e, List.getElem?_append_right (by simp; omega)]
    have e2 : (i + 1) * 2 + j - [Value.int .i64 a.s, .int .i64 a.w].length = i * 2 + j := by simp; omega
    rw [e2, ih]
    simp [finCell]
theorem finRow_one (l : List Fnl) : ∀ u ∈ finRow l, u.oneCell' = true := by
  intro u hu
  obtain ⟨x, _, hx⟩ := List.mem_flatMap.1 hu
  simp at hx
  rcases hx with rfl | rfl <;> rfl

/-! append onto an owned row, the source whatever it is. -/
theorem addr_add (b off j : Nat) : (⟨b, off, none⟩ : Addr).add j = ⟨b, off + j, none⟩ := by
  unfold Addr.add; split <;> simp_all
section
variable {P : Program} (w : World)
theorem run_append_nil (base : Nat) (t ty e : TypeId) (i : TypeInfo) (size : Nat) (ht : P.underlying t = some (.slice e)) (hi : P.info? e = some i)
    (v : Value) (n : Nat) (xs : List Value) (hown : w.ownsRow base e size v n xs) (c : Nat) : (Builtin.append_ #[t, t] ty #[v, .slice none 0 c]).run P w = .ok v w := by
  rcases hown.2 with ⟨rfl, rfl⟩ | ⟨g, cap, cur, rfl, _, _, hnc, _⟩
  · simp [Builtin.append_, run_underlying ht, Go.sizeOf, typeInfo, hi, Builtin.lenOf, Builtin.firstCells]
  · simp [Builtin.append_, run_underlying ht, Go.sizeOf, typeInfo, hi, Builtin.lenOf, Builtin.firstCells, hnc, storeCells]
theorem run_append_any (base : Nat) (t ty e : TypeId) (i : TypeInfo) (z : Value) (size bytes : Nat) (ht : P.underlying t = some (.slice e)) (hi : P.info? e = some i) (hz : i.zero = some z)
    (hsize : i.size = size) (hby : i.bytes = bytes) (hzs : z.cells.size = size) (hsz : 0 < size)
    (v : Value) (n : Nat) (xs : List Value) (hown : w.ownsRow base e size v n xs)
    (B : Nat) (A : Option Addr) (m c : Nat) (news : List Value) (f : Nat → Nat → Value) (hr : Rd w B size A m f) (hA : A = none → m = 0) (hl : news.length = m * size) (hnews : ∀ i j, i < m → j < size → news[i * size + j]? = some (f i j)) (h1 : ∀ u ∈ news, u.oneCell' = true)
    (h63 : n + m ≤ maxLen) (hbytes : (n + m) * bytes ≤ 140737488355328) (hbase : base ≤ w.heap.size) :
    ∃ v' w', (Builtin.append_ #[t, t] ty #[v, .slice A m c]).run P w = .ok v' w' ∧ w'.ownsRow base e size v' (n + m) (xs ++ news) ∧ w.grownBy w' v.ownBlock ∧
      (v'.ownBlock = v.ownBlock ∨ v'.ownBlock = some w.heap.size) := by
  rcases A with _ | ad
  · have hm : m = 0 := hA rfl
    subst hm
    have hn : news = [] := List.eq_nil_of_length_eq_zero (by simpa using hl)
    subst hn
    exact ⟨v, w, run_append_nil w base t ty e i size ht hi v n xs hown c, by simpa using hown, ⟨rfl, rfl, rfl, Nat.le_refl _, fun _ _ _ => rfl⟩, .inl rfl⟩
  · have hcells : ∀ j u, news[j]? = some u → w.cell? (ad.add j) = some u := by
      intro j u hu
      rcases Nat.eq_zero_or_pos m with h0 | h0
      · subst h0
        have hn : news = [] := List.eq_nil_of_length_eq_zero (by simpa using hl)
        subst hn
        simp at hu
      · obtain ⟨b, off, h, _, hc⟩ := hr h0
        injection h with h
        subst h
        have hjl : j < m * size := by
          rw [← hl]
          rcases Nat.lt_or_ge j news.length with h | h
          · exact h
          · rw [List.getElem?_eq_none h] at hu; cases hu
        have hq : j / size < m := (Nat.div_lt_iff_lt_mul hsz).2 hjl
        have hm : j % size < size := Nat.mod_lt _ hsz
        have e : j / size * size + j % size = j := by rw [Nat.mul_comm]; exact Nat.div_add_mod j size
        have h2 := hnews (j / size) (j % size) hq hm
        rw [e, hu] at h2
        have h3 := hc (j / size) (j % size) hq hm
        rw [e] at h3
        rw [addr_add, h3, ← h2]
    obtain ⟨v', w', hrun, h2, h3, _, h5⟩ := run_append_own_at (P := P) w base t ty e i z size bytes ht hi hz hsize hby hzs hsz v n xs hown ad m c news hl hcells h1 h63 hbytes hbase
    exact ⟨v', w', hrun, h2, h3, h5⟩
theorem wp_append_any {o : Oper} {a : Act} {K : Act → World → Prop} {Q : Exit → Act → World → Prop} (s x : Operand) (t : TypeId)
    (ho : o.op = .call { callee := .builtin .append, args := #[s, x], argTypes := #[t, t] })
    (base : Nat) (e : TypeId) (i : TypeInfo) (z : Value) (size bytes : Nat) (ht : P.underlying t = some (.slice e)) (hi : P.info? e = some i) (hz : i.zero = some z)
    (hsize : i.size = size) (hby : i.bytes = bytes) (hzs : z.cells.size = size) (hsz : 0 < size)
    (v : Value) (n : Nat) (xs : List Value) (hs : a.eval s = v) (hown : w.ownsRow base e size v n xs)
    (B : Nat) (A : Option Addr) (m c : Nat) (news : List Value) (f : Nat → Nat → Value) (hx : a.eval x = .slice A m c) (hr : Rd w B size A m f) (hA : A = none → m = 0) (hl : news.length = m * size) (hnews : ∀ i j, i < m → j < size → news[i * size + j]? = some (f i j)) (h1 : ∀ u ∈ news, u.oneCell' = true)
    (h63 : n + m ≤ maxLen) (hbytes : (n + m) * bytes ≤ 140737488355328) (hbase : base ≤ w.heap.size)
    (h : ∀ v' w', w'.ownsRow base e size v' (n + m) (xs ++ news) → w.grownBy w' v.ownBlock → (v'.ownBlock = v.ownBlock ∨ v'.ownBlock = some w.heap.size) → K (a.put o.dst v') w') : o.wp P a w K Q := by
  obtain ⟨v', w', hrun, h2, h3, h4⟩ := run_append_any (P := P) w base t o.type e i z size bytes ht hi hz hsize hby hzs hsz v n xs hown B A m c news f hr hA hl hnews h1 h63 hbytes hbase
  unfold Oper.wp execOp
  simp only [ho, resolve, invoke, builtin, Sem.run_bind, Sem.run_pure, Result.andThen_ok, List.map_toArray, List.map_cons, List.map_nil, hs, hx, hrun]
  exact h v' w' h2 h3 h4
theorem wpList_append_any {ops : Array Oper} {rest : List Oper} {o : Oper} {a : Act} {Q : Exit → Act → World → Prop} (hgd : o.guard = none) (s x : Operand) (t : TypeId)
    (ho : o.op = .call { callee := .builtin .append, args := #[s, x], argTypes := #[t, t] })
    (base : Nat) (e : TypeId) (i : TypeInfo) (z : Value) (size bytes : Nat) (ht : P.underlying t = some (.slice e)) (hi : P.info? e = some i) (hz : i.zero = some z)
    (hsize : i.size = size) (hby : i.bytes = bytes) (hzs : z.cells.size = size) (hsz : 0 < size)
    (v : Value) (n : Nat) (xs : List Value) (hs : a.eval s = v) (hown : w.ownsRow base e size v n xs)
    (B : Nat) (A : Option Addr) (m c : Nat) (news : List Value) (f : Nat → Nat → Value) (hx : a.eval x = .slice A m c) (hr : Rd w B size A m f) (hA : A = none → m = 0) (hl : news.length = m * size) (hnews : ∀ i j, i < m → j < size → news[i * size + j]? = some (f i j)) (h1 : ∀ u ∈ news, u.oneCell' = true)
    (h63 : n + m ≤ maxLen) (hbytes : (n + m) * bytes ≤ 140737488355328) (hbase : base ≤ w.heap.size)
    (h : ∀ v' w', w'.ownsRow base e size v' (n + m) (xs ++ news) → w.grownBy w' v.ownBlock → (v'.ownBlock = v.ownBlock ∨ v'.ownBlock = some w.heap.size) → wpList P ops Q rest (a.put o.dst v') w') : wpList P ops Q (o :: rest) a w :=
  wpList_plain hgd fun _ hK => wp_append_any w s x t ho base e i z size bytes ht hi hz hsize hby hzs hsz v n xs hs hown B A m c news f hx hr hA hl hnews h1 h63 hbytes hbase fun v' w' h2 h3 h4 => hK _ _ (h v' w' h2 h3 h4)
end

/-! A slice of slices that the call makes. -/
structure OwnLL (w : World) (base : Nat) (eO eI sz G n : Nat) (vs : Nat → Value) (L : Nat → List Value) (m : Nat → Nat) : Prop where
  row : w.rowIs G eO n vs
  low : G < base
  own : ∀ i, i < n → w.ownsRow base eI sz (vs i) (m i) (L i)
  dis : ∀ i j, i < n → j < n → i ≠ j → (vs i).ownBlock = none ∨ (vs i).ownBlock ≠ (vs j).ownBlock
section
variable {w w1 : World} {base eO eI sz G n : Nat} {vs : Nat → Value} {L : Nat → List Value} {m : Nat → Nat}
theorem OwnLL.kept (h : OwnLL w base eO eI sz G n vs L m) {row : Option Nat} (hg : w.grownBy w1 row) (h1 : row ≠ some G) (h2 : ∀ i, i < n → (vs i).ownBlock = none ∨ (vs i).ownBlock ≠ row) : OwnLL w1 base eO eI sz G n vs L m :=
  ⟨h.row.of_block (hg.block G h.row.lt (fun e => h1 e.symm)), h.low, fun i hi => (h.own i hi).kept hg (h2 i hi), h.dis⟩
theorem OwnLL.alloc (h : OwnLL w base eO eI sz G n vs L m) (o : Obj) : OwnLL (w.alloc o) base eO eI sz G n vs L m :=
  ⟨h.row.alloc o, h.low, fun i hi => (h.own i hi).alloc o, h.dis⟩
theorem OwnLL.drew (h : OwnLL w base eO eI sz G n vs L m) : OwnLL w.drew base eO eI sz G n vs L m :=
  ⟨h.row.drew, h.low, h.own, h.dis⟩
theorem OwnLL.drewN (h : OwnLL w base eO eI sz G n vs L m) (k : Nat) : OwnLL (w.drewN k) base eO eI sz G n vs L m :=
  ⟨h.row, h.low, h.own, h.dis⟩
theorem OwnLL.below (h : OwnLL w base eO eI sz G n vs L m) (hb : Below w.heap.size w w1) : OwnLL w1 base eO eI sz G n vs L m :=
  h.kept (row := none) ⟨hb.os, hb.tape, hb.output, hb.size, fun k hk _ => hb.block k hk⟩ (by simp) (fun i _ => by cases (vs i).ownBlock <;> simp)
/-- One inner slice has grown, and its new value has been put back. -/
theorem OwnLL.push (h : OwnLL w base eO eI sz G n vs L m) {i : Nat} (hi : i < n) {v' : Value} {m' : Nat} {xs' : List Value} (hg : w.grownBy w1 (vs i).ownBlock) (hown : w1.ownsRow base eI sz v' m' xs')
    (hat : v'.ownBlock = (vs i).ownBlock ∨ ∃ H, v'.ownBlock = some H ∧ w.heap.size ≤ H) :
    OwnLL (w1.setCell ⟨G, i, none⟩ v') base eO eI sz G n (fun j => if j = i then v' else vs j) (fun j => if j = i then xs' else L j) (fun j => if j = i then m' else m j) := by
  have hbig : ∀ j, j < n → ∀ k, (vs j).ownBlock = some k → base ≤ k ∧ k < w.heap.size := fun j hj => (h.own j hj).lt
  have hGi : (vs i).ownBlock ≠ some G := fun e => by have := (hbig i hi G e).1; have := h.low; omega
  have hrow1 : w1.rowIs G eO n vs := h.row.of_block (hg.block G h.row.lt (fun e => hGi e.symm))
  have hownset : ∀ (v : Value) (k : Nat) (xs : List Value), w1.ownsRow base eI sz v k xs → (w1.setCell ⟨G, i, none⟩ v').ownsRow base eI sz v k xs := fun v k xs hh => ownsRow_setCell_below hh (a := ⟨G, i, none⟩) h.low v'
  refine ⟨hrow1.set i v', h.low, fun j hj => ?_, fun j k hj hk hjk => ?_⟩
  · by_cases e : j = i
    · subst e; simp only [if_true]; exact hownset _ _ _ hown
    · simp only [if_neg e]
      refine hownset _ _ _ ((h.own j hj).kept hg ?_)
      exact h.dis j i hj hi e
  · by_cases e : j = i
    · subst e
      simp only [if_true, if_neg (Ne.symm hjk)]
      rcases hat with hat | ⟨H, hat, hH⟩
      · rw [hat]; exact h.dis j k hj hk hjk
      · right; rw [hat]; intro he; have := (hbig k hk H he.symm).2; omega
    · by_cases e2 : k = i
      · subst e2
        simp only [if_neg e, if_true]
        rcases hat with hat | ⟨H, hat, hH⟩
        · rw [hat]; exact h.dis j k hj hk hjk
        · right; rw [hat]; intro he; have := (hbig j hj H he).2; omega
      · simp only [if_neg e, if_neg e2]; exact h.dis j k hj hk hjk
end
end Gm
