/- The texts Open, PlD, HpP, WtP, HpA, WtQ, PwP, RaP, WtT, CuW, RwG, SrP, SrS, UnP, SdP, MpL, LbP, NlL, GrL of this proof. No conditions. -/
import Derived.Test.YtopakcbhodnipaaZ1
import Derived.Lib.SmallJoins
import Derived.Deep.Slices
import Derived.Deep.Fields
import Derived.ChangeSame
import Derived.SizedLaws
import Derived.Carry
import Derived.Test.YtopakcbhodnipaaChecked
import Derived.BigRegion
import Derived.Test.YtopakcbhodnipaaRows
import Derived.ProofKit
import Derived.Below
import Derived.OpenShut
import Derived.ChangeSlices
import Derived.Test.YtopakcbhodnipaaShelf
import Derived.Maps.RangeWalk
import Derived.Maps.OwnOps
import Derived.OneCell
import Derived.Laws.OwnMore
/- Text Open. -/
namespace Gm
open Go Go.RowKit Go.ChangeShapes Go.WideShapes Go.Deep
section
variable {H : Type} {enc : TypeId × Value → H} {P : Program} {w : World} {base : Nat} {spare : Nat → Bool} {held : Bool}
theorem open_slice_fields {t e : TypeId} {fs : Array Field} {fuel : Nat} {cs : List Value} {x : DataW H × List MemPlace} (ht : P.underlying t = some (.slice e)) (he : P.underlying e = some (.struct fs))
    (hone : oneCellFields P fs = true) (hC : P.cellsOf e = fs.size) (h : DataW.trod enc P w base spare held fuel t cs = some x) :
    (cs = [.slice none 0 0] ∧ x = (.nil, [])) ∨
    ∃ (a : Addr) (len cap : Nat) (el sp : List (DataW H)) (pl : List MemPlace), cs = [.slice (some a) len cap] ∧ len ≤ cap ∧ x = (.slice el sp, pl) ∧ el.length = len ∧
      ∀ i, i < len → ∃ n, ∀ (j : Nat) (f : Field), fs[j]? = some f → ∃ (v : Value) (y : DataW H × List MemPlace), w.cell? (a.add (i * fs.size + j)) = some v ∧ DataW.trod enc P w base spare held n f.type [v] = some y := by
  rcases open_slice ht h with h0 | ⟨a, len, cap, m, n, D, Pl, hcs, hb, hl, hm, hmm, hx, hi⟩
  · exact .inl h0
  · refine .inr ⟨a, len, cap, _, _, _, hcs, hl, hx, by simp, fun i hil => ?_⟩
    obtain ⟨cs', hc, ht'⟩ := hi i (by rw [hmm]; split <;> omega)
    rw [hC] at hc
    obtain ⟨ys, n', hn', hy, hlen, hyl, hf⟩ := DataW.trod_struct he ht'
    obtain ⟨_, hcl, hat⟩ := World.cells?_some hc
    refine ⟨n', fun j f hj => ?_⟩
    obtain ⟨ho, hk⟩ := hone_of hone j f hj
    have hjl : j < fs.size := (Array.getElem?_eq_some_iff.1 hj).1
    have hcell := hat j hjl
    have hv : cs'[j]? = some (cs'[j]'(by omega)) := List.getElem?_eq_getElem (by omega)
    have h1 := hf j f hj
    rw [ho, hk] at h1
    have hone' : (cs'.drop j).take 1 = [cs'[j]'(by omega)] := by
      rw [List.drop_eq_getElem_cons (by omega)]
      rfl
    rw [hone'] at h1
    have hys : ys[j]? = some (ys[j]'(by omega)) := List.getElem?_eq_getElem (by omega)
    refine ⟨_, _, ?_, h1.trans hys⟩
    rw [← Go.Deep.add_add, hcell, hv]
theorem cell_form {w : World} {a : Addr} {v : Value} (h : w.cell? a = some v) : a.spot = none ∧ a.block < w.heap.size := by
  unfold World.cell? at h
  split at h
  · rename_i hb
    refine ⟨?_, (Array.getElem?_eq_some_iff.1 hb).1⟩
    split at h
    · cases h
    · rename_i hs; simpa using hs
  · cases h
/-- The rows of a slice of structs of ints. -/
def cellInt (w : World) (a : Addr) : Int := match w.cell? a with | some (.int _ x) => x | _ => 0
theorem rd_of_fields {a : Addr} {len sz : Nat} {f : Nat → Nat → Value} (hsz : 0 < sz) (h : ∀ i j, i < len → j < sz → w.cell? (a.add (i * sz + j)) = some (f i j)) : Rd w w.heap.size sz (some a) len f := by
  intro hn
  have h0 := h 0 0 hn hsz
  rw [Nat.zero_mul, Nat.zero_add] at h0
  have ha : a.add 0 = a := by unfold Addr.add; rw [if_pos rfl]
  rw [ha] at h0
  obtain ⟨hs, hb⟩ := cell_form h0
  obtain ⟨b, off, spot⟩ := a
  subst hs
  refine ⟨b, off, rfl, hb, fun i j hi hj => ?_⟩
  have := h i j hi hj
  have e : (⟨b, off, none⟩ : Addr).add (i * sz + j) = ⟨b, off + (i * sz + j), none⟩ := by unfold Addr.add; split <;> simp_all
  rw [e] at this
  exact this
theorem sized_field {ts : List TypeId} {ds : List (DataW H)} (h : (DataW.weightsEach P ts ds).all (· ≤ reachBytes) = true) {j : Nat} {t : TypeId} {fs : Array Field} {parts : List (DataW H)} (ht : ts[j]? = some t) (hd : ds[j]? = some (.agg parts)) (hu : P.underlying t = some (.struct fs)) :
    (DataW.weightsEach P (fs.toList.map (·.type)) parts).all (· ≤ reachBytes) = true := by
  refine List.all_eq_true.2 fun n hn => List.all_eq_true.1 h n (DataW.weights_mem_each ht hd n ?_)
  simp only [DataW.weights, hu]
  exact hn
end
end Gm
namespace Go.Proofs.Ytopakcbhodnipaa
open Go.RowKit Go.ChangeShapes Go.WideShapes Go.Deep Gm Go.Joins
section
variable {H : Type} {enc : TypeId × Value → H} {w : World} {base : Nat} {spare : Nat → Bool} {held : Bool}
theorem arcs_open {fuel : Nat} {v : Value} {y : DataW H × List MemPlace} (h : DataW.trod enc Try.prog w base spare held fuel 25 [v] = some y) (hb : ∀ el sp, y.1 = .slice el sp → (el.length + sp.length) * Try.prog.bytesOf 61 ≤ reachBytes) :
    ∃ (A : Option Addr) (n c : Nat) (l : List Arc), v = .slice A n c ∧ l.length = n ∧ n ≤ c ∧ n ≤ big ∧ Rd w w.heap.size 5 A n (arcCell l) := by
  rcases open_slice_fields Try.underlying25 Try.underlying61 (by kernel_rfl) (by kernel_rfl) h with ⟨hv, rfl⟩ | ⟨a, len, cap, el, sp, pl, hv, hlc, rfl, hel, hf⟩
  · obtain rfl := List.head_eq_of_cons_eq hv
    exact ⟨none, 0, 0, [], rfl, rfl, Nat.le_refl _, by simp [big], Rd.zero⟩
  · obtain rfl := List.head_eq_of_cons_eq hv
    have hbb := hb el sp rfl
    have e40 : Try.prog.bytesOf 61 = 40 := by kernel_rfl
    rw [e40] at hbb
    have hcell : ∀ i j, i < len → j < 5 → w.cell? (a.add (i * 5 + j)) = some (.int .i64 (cellInt w (a.add (i * 5 + j)))) := by
      intro i j hi hj
      obtain ⟨n', hn⟩ := hf i hi
      have key : ∀ f : Field, f.type = 3 → (∃ (u : Value) (y' : DataW H × List MemPlace), w.cell? (a.add (i * 5 + j)) = some u ∧ DataW.trod enc Try.prog w base spare held n' f.type [u] = some y') → w.cell? (a.add (i * 5 + j)) = some (.int .i64 (cellInt w (a.add (i * 5 + j)))) := fun f hft hex => by
        obtain ⟨u, y', hc, hy⟩ := hex
        rw [hft] at hy
        obtain ⟨x, hx, _, _⟩ := DataW.trod_int Try.underlying3 hy
        obtain rfl := List.head_eq_of_cons_eq hx
        have hc' : w.cell? (a.add (i * 5 + j)) = some (.int .i64 x) := hc
        unfold cellInt; rw [hc']
      rcases (by omega : j = 0 ∨ j = 1 ∨ j = 2 ∨ j = 3 ∨ j = 4) with rfl | rfl | rfl | rfl | rfl <;> exact key _ rfl (hn _ _ rfl)
    refine ⟨some a, len, cap, (List.range len).map fun i => ⟨cellInt w (a.add (i * 5 + 0)), cellInt w (a.add (i * 5 + 1)), cellInt w (a.add (i * 5 + 2)), cellInt w (a.add (i * 5 + 3)), cellInt w (a.add (i * 5 + 4))⟩, rfl, by simp, hlc, by simp only [big]; simp only [reachBytes] at hbb; omega, rd_of_fields (by decide) fun i j hi hj => ?_⟩
    rw [hcell i j hi hj]
    unfold arcCell
    have hget : ((List.range len).map fun i => (⟨cellInt w (a.add (i * 5 + 0)), cellInt w (a.add (i * 5 + 1)), cellInt w (a.add (i * 5 + 2)), cellInt w (a.add (i * 5 + 3)), cellInt w (a.add (i * 5 + 4))⟩ : Arc)).getD i dA = ⟨cellInt w (a.add (i * 5 + 0)), cellInt w (a.add (i * 5 + 1)), cellInt w (a.add (i * 5 + 2)), cellInt w (a.add (i * 5 + 3)), cellInt w (a.add (i * 5 + 4))⟩ := by
      simp [hi]
    rw [hget]
    rcases (by omega : j = 0 ∨ j = 1 ∨ j = 2 ∨ j = 3 ∨ j = 4) with rfl | rfl | rfl | rfl | rfl <;> rfl
theorem fins_open {fuel : Nat} {v : Value} {y : DataW H × List MemPlace} (h : DataW.trod enc Try.prog w base spare held fuel 26 [v] = some y) (hb : ∀ el sp, y.1 = .slice el sp → (el.length + sp.length) * Try.prog.bytesOf 63 ≤ reachBytes) :
    ∃ (A : Option Addr) (n c : Nat) (l : List Fnl), v = .slice A n c ∧ l.length = n ∧ n ≤ c ∧ n ≤ big ∧ Rd w w.heap.size 2 A n (finCell l) := by
  rcases open_slice_fields Try.underlying26 Try.underlying63 (by kernel_rfl) (by kernel_rfl) h with ⟨hv, rfl⟩ | ⟨a, len, cap, el, sp, pl, hv, hlc, rfl, hel, hf⟩
  · obtain rfl := List.head_eq_of_cons_eq hv
    exact ⟨none, 0, 0, [], rfl, rfl, Nat.le_refl _, by simp [big], Rd.zero⟩
  · obtain rfl := List.head_eq_of_cons_eq hv
    have hbb := hb el sp rfl
    have e40 : Try.prog.bytesOf 63 = 16 := by kernel_rfl
    rw [e40] at hbb
    have hcell : ∀ i j, i < len → j < 2 → w.cell? (a.add (i * 2 + j)) = some (.int .i64 (cellInt w (a.add (i * 2 + j)))) := by
      intro i j hi hj
      obtain ⟨n', hn⟩ := hf i hi
      have key : ∀ f : Field, f.type = 3 → (∃ (u : Value) (y' : DataW H × List MemPlace), w.cell? (a.add (i * 2 + j)) = some u ∧ DataW.trod enc Try.prog w base spare held n' f.type [u] = some y') → w.cell? (a.add (i * 2 + j)) = some (.int .i64 (cellInt w (a.add (i * 2 + j)))) := fun f hft hex => by
        obtain ⟨u, y', hc, hy⟩ := hex
        rw [hft] at hy
        obtain ⟨x, hx, _, _⟩ := DataW.trod_int Try.underlying3 hy
        obtain rfl := List.head_eq_of_cons_eq hx
        have hc' : w.cell? (a.add (i * 2 + j)) = some (.int .i64 x) := hc
        unfold cellInt; rw [hc']
      rcases (by omega : j = 0 ∨ j = 1) with rfl | rfl <;> exact key _ rfl (hn _ _ rfl)
    refine ⟨some a, len, cap, (List.range len).map fun i => ⟨cellInt w (a.add (i * 2 + 0)), cellInt w (a.add (i * 2 + 1))⟩, rfl, by simp, hlc, by simp only [big]; simp only [reachBytes] at hbb; omega, rd_of_fields (by decide) fun i j hi hj => ?_⟩
    rw [hcell i j hi hj]
    unfold finCell
    have hget : ((List.range len).map fun i => (⟨cellInt w (a.add (i * 2 + 0)), cellInt w (a.add (i * 2 + 1))⟩ : Fnl)).getD i dF = ⟨cellInt w (a.add (i * 2 + 0)), cellInt w (a.add (i * 2 + 1))⟩ := by
      simp [hi]
    rw [hget]
    rcases (by omega : j = 0 ∨ j = 1) with rfl | rfl <;> rfl
set_option maxRecDepth 100000 in
theorem mach_open {r : Reach} {b0 : Nat} {v : Value} {d : DataW H} {p : List MemPlace} {ts : List TypeId} {ds : List (DataW H)} {j : Nat} (hv : Value.okWide Try.prog w r b0 28 v) (h : DataW.Trod enc Try.prog w base spare held 28 v d p)
    (hs : (DataW.weightsEach Try.prog ts ds).all (· ≤ reachBytes) = true) (ht : ts[j]? = some 28) (hd : ds[j]? = some d) : ∃ m, MachAt w w.heap.size v m := by
  obtain ⟨v0, v1, v2, y0, y1, y2, n, rfl, rfl, rfl, t0, t1, t2⟩ := open_agg3 Try.underlying28 (by kernel_rfl) (by kernel_rfl) hv h
  obtain ⟨x0, e0, _, _⟩ := DataW.trod_int Try.underlying3 t0
  obtain rfl := List.head_eq_of_cons_eq e0
  have hsf := sized_field hs ht hd Try.underlying28
  obtain ⟨A, n1, c1, l, rfl, h1, h2, h3, h4⟩ := arcs_open t1 (fun el sp e => sized_slice hsf (j := 1) rfl (by rw [← e]; rfl) Try.underlying25)
  obtain ⟨AF, n2, c2, l2, rfl, g1, g2, g3, g4⟩ := fins_open t2 (fun el sp e => sized_slice hsf (j := 2) rfl (by rw [← e]; rfl) Try.underlying26)
  exact ⟨⟨x0, l, l2⟩, A, AF, n1, c1, n2, c2, rfl, hide h1, hide g1, h2, g2, h3, g3, h4, g4⟩
end
end Go.Proofs.Ytopakcbhodnipaa

/- Text PlD. -/
namespace Gm
theorem cntK_mono' {K : Nat → Bool} {s t : Nat} (h : s ≤ t) : cntK K s ≤ cntK K t := by
  induction t with
  | zero => obtain rfl : s = 0 := by omega
            exact Nat.le_refl _
  | succ t ih =>
    rcases Nat.eq_or_lt_of_le h with e | e
    · subst e; exact Nat.le_refl _
    · have := ih (by omega)
      simp only [cntK]; omega
theorem cntK_strict {K : Nat → Bool} {s t : Nat} (h : s < t) (hs : K s = true) : cntK K s < cntK K t := by
  have h1 : cntK K (s + 1) ≤ cntK K t := cntK_mono' h
  simp only [cntK, hs, if_true] at h1
  omega
theorem cntK_all {K : Nat → Bool} : ∀ N, (∀ s, s < N → K s = true) → cntK K N = N
  | 0, _ => rfl
  | N + 1, h => by simp only [cntK]; rw [cntK_all N (fun s hs => h s (by omega)), h N (by omega)]; rfl
theorem cntK_onto {K : Nat → Bool} : ∀ (S i : Nat), i < cntK K S → ∃ s, s < S ∧ K s = true ∧ cntK K s = i
  | 0, i, h => by simp [cntK] at h
  | S + 1, i, h => by
    rcases Nat.lt_or_ge i (cntK K S) with h1 | h1
    · obtain ⟨s, hs, h2, h3⟩ := cntK_onto S i h1
      exact ⟨s, by omega, h2, h3⟩
    · simp only [cntK] at h
      cases hk : K S
      · rw [hk] at h; simp at h; omega
      · rw [hk] at h; simp at h; exact ⟨S, by omega, hk, by omega⟩
/-! the order of arcs -/
theorem lessL_trans : ∀ (a b c : List Int), lessL a b = true → lessL b c = true → lessL a c = true
  | [], _, _, h, _ => by simp [lessL] at h
  | _ :: _, [], _, h, _ => by simp [lessL] at h
  | _ :: _, _ :: _, [], _, h => by simp [lessL] at h
  | x :: a, y :: b, z :: c, h1, h2 => by
    have ih := lessL_trans a b c
    simp only [lessL] at h1 h2 ⊢
    by_cases e1 : x = y
    · subst e1
      rw [if_pos rfl] at h1
      by_cases e2 : x = z
      · subst e2; rw [if_pos rfl] at h2 ⊢; exact ih h1 h2
      · rw [if_neg e2] at h2 ⊢; exact h2
    · rw [if_neg e1] at h1
      have h1 := of_decide_eq_true h1
      by_cases e2 : y = z
      · subst e2; rw [if_neg e1]; exact decide_eq_true h1
      · rw [if_neg e2] at h2
        have h2 := of_decide_eq_true h2
        rw [if_neg (by omega)]; exact decide_eq_true (by omega)
theorem pairwise_of_step {α : Type} {R : α → α → Prop} (tr : ∀ a b c, R a b → R b c → R a c) (d : α) : ∀ (l : List α), (∀ k, k + 1 < l.length → R (l.getD k d) (l.getD (k + 1) d)) → l.Pairwise R
  | [], _ => .nil
  | [_], _ => by simp
  | a :: b :: l, h => by
    have ih := pairwise_of_step tr d (b :: l) (fun k hk => by have := h (k + 1) (by simpa using hk); simpa using this)
    refine List.Pairwise.cons (fun c hc => ?_) ih
    have hab : R a b := by have := h 0 (by simp); simpa using this
    rcases List.mem_cons.1 hc with rfl | hc
    · exact hab
    · exact tr _ _ _ hab ((List.pairwise_cons.1 ih).1 c hc)
theorem step_of_pairwise {α : Type} {R : α → α → Prop} (d : α) {l : List α} (h : l.Pairwise R) {k : Nat} (hk : k + 1 < l.length) : R (l.getD k d) (l.getD (k + 1) d) := by
  have := List.pairwise_iff_getElem.1 h k (k + 1) (by omega) hk (by omega)
  simpa [List.getD_eq_getElem?_getD, List.getElem?_eq_getElem hk, List.getElem?_eq_getElem (show k < l.length by omega)] using this
theorem mem_part {m : Mach} {a : Arc} (ha : a ∈ m.arcs) (h1 : keepK m a.f.toNat = true) (h2 : keepK m a.t.toNat = true) : partArc (keepK m) a ∈ (partM m (keepK m)).arcs :=
  List.mem_map.2 ⟨a, List.mem_filter.2 ⟨ha, by rw [h1, h2]; rfl⟩, rfl⟩
theorem keep_of {m : Mach} {x : Int} (h0 : 0 ≤ x) (h1 : RS false m.arcs [0] x) (h2 : RS true m.arcs (finStates m.fins) x) : keepK m x.toNat = true := by
  have e : ((x.toNat : Nat) : Int) = x := by omega
  exact keepK_iff.2 ⟨by rw [e]; exact h1, by rw [e]; exact h2⟩
theorem lessL_img {a1 a2 a3 a4 a5 b1 b2 b3 b4 b5 c1 c4 d1 d4 : Int} (h1 : a1 < b1 → c1 < d1) (h1' : a1 = b1 → c1 = d1) (h4 : a4 < b4 → c4 < d4) (h4' : a4 = b4 → c4 = d4) (h : lessL [a1, a2, a3, a4, a5] [b1, b2, b3, b4, b5] = true) : lessL [c1, a2, a3, c4, a5] [d1, b2, b3, d4, b5] = true := by
  simp only [lessL] at h ⊢
  by_cases e1 : a1 = b1
  · rw [if_pos e1] at h
    rw [if_pos (h1' e1)]
    by_cases e2 : a2 = b2
    · rw [if_pos e2] at h ⊢
      by_cases e3 : a3 = b3
      · rw [if_pos e3] at h ⊢
        by_cases e4 : a4 = b4
        · rw [if_pos e4] at h
          rw [if_pos (h4' e4)]
          exact h
        · rw [if_neg e4] at h
          have := h4 (of_decide_eq_true h)
          rw [if_neg (by omega)]
          exact decide_eq_true this
      · rw [if_neg e3] at h ⊢; exact h
    · rw [if_neg e2] at h ⊢; exact h
  · rw [if_neg e1] at h
    have := h1 (of_decide_eq_true h)
    rw [if_neg (by omega)]
    exact decide_eq_true this
theorem num_mono {K : Nat → Bool} {x y : Int} (hx : 0 ≤ x) (hk : K x.toNat = true) (h : x < y) : ((cntK K x.toNat : Nat) : Int) < ((cntK K y.toNat : Nat) : Int) := by
  have := cntK_strict (K := K) (show x.toNat < y.toNat by omega) hk
  omega
section
variable {m : Mach} (h : Valid m)
include h
theorem RS_rngF {x : Int} (h0 : 0 < m.n.toNat) (hr : RS false m.arcs [0] x) : 0 ≤ x ∧ x < (m.n.toNat : Int) := by
  induction hr with
  | base hs => simp at hs; omega
  | @step s t a _ ha hk hv _ => have := aval_rng (back := false) h.inRange ha; omega
theorem RS_rngB {x : Int} (hr : RS true m.arcs (finStates m.fins) x) : 0 ≤ x ∧ x < (m.n.toNat : Int) := by
  induction hr with
  | base hs =>
    obtain ⟨y, hy, rfl⟩ := List.mem_map.1 hs
    exact h.finRange y hy
  | @step s t a _ ha hk hv _ => have := aval_rng (back := true) h.inRange ha; omega
theorem part_fwd (h0 : 0 < m.n.toNat) {x : Int} (hr : RS false m.arcs [0] x) : RS true m.arcs (finStates m.fins) x → RS false (partM m (keepK m)).arcs [0] (cntK (keepK m) x.toNat : Int) := by
  induction hr with
  | base hs => intro _; simp at hs; subst hs; exact .base (by simp [cntK])
  | @step s t a hs ha hk hv ih =>
    intro ht
    have hks : a.f = s := hk
    have hvt : a.t = t := hv
    have hb : RS true m.arcs (finStates m.fins) s := .step (a := a) ht ha hvt hks
    have hsr := RS_rngF h h0 hs
    have htr := RS_rngB h ht
    have k1 := keep_of hsr.1 hs hb
    have k2 := keep_of htr.1 (.step hs ha hk hv) ht
    exact .step (ih hb) (mem_part ha (by rw [hks]; exact k1) (by rw [hvt]; exact k2)) (by show ((cntK (keepK m) a.f.toNat : Nat) : Int) = _; rw [hks]) (by show ((cntK (keepK m) a.t.toNat : Nat) : Int) = _; rw [hvt])
theorem part_bwd (h0 : 0 < m.n.toNat) {x : Int} (hr : RS true m.arcs (finStates m.fins) x) : RS false m.arcs [0] x → RS true (partM m (keepK m)).arcs (finStates (partM m (keepK m)).fins) (cntK (keepK m) x.toNat : Int) := by
  induction hr with
  | @base s hs =>
    intro hf
    have hsr := RS_rngF h h0 hf
    have k1 := keep_of hsr.1 hf (.base hs)
    obtain ⟨y, hy, rfl⟩ := List.mem_map.1 hs
    exact .base (List.mem_map.2 ⟨partFin (keepK m) y, List.mem_map.2 ⟨y, List.mem_filter.2 ⟨hy, k1⟩, rfl⟩, rfl⟩)
  | @step s t a hs ha hk hv ih =>
    intro ht
    have hks : a.t = s := hk
    have hvt : a.f = t := hv
    have hb : RS false m.arcs [0] s := .step (a := a) ht ha hvt hks
    have hsr := RS_rngB h hs
    have htr := RS_rngF h h0 ht
    have k1 := keep_of hsr.1 hb hs
    have k2 := keep_of htr.1 ht (.step hs ha hk hv)
    exact .step (ih hb) (mem_part ha (by rw [hvt]; exact k2) (by rw [hks]; exact k1)) (by show ((cntK (keepK m) a.t.toNat : Nat) : Int) = _; rw [hks]) (by show ((cntK (keepK m) a.f.toNat : Nat) : Int) = _; rw [hvt])
theorem part_keep (h0 : 0 < m.n.toNat) {i : Nat} (hi : i < cntK (keepK m) m.n.toNat) : keepK (partM m (keepK m)) i = true := by
  obtain ⟨s, hs, hk, rfl⟩ := cntK_onto _ _ hi
  obtain ⟨h1, h2⟩ := keepK_iff.1 hk
  have e : ((s : Nat) : Int).toNat = s := by omega
  have f1 := part_fwd h h0 h1 h2
  have f2 := part_bwd h h0 h2 h1
  rw [e] at f1 f2
  exact keepK_iff.2 ⟨f1, f2⟩
theorem part_n (h0 : 0 < m.n.toNat) : (partM m (keepK m)).n.toNat = cntK (keepK m) m.n.toNat := by
  have := h0
  have := h.n0
  unfold partM
  show ((cntK (keepK m) m.n.toNat : Nat) : Int).toNat = _
  omega
theorem part_rngA {a : Arc} (ha : a ∈ (partM m (keepK m)).arcs) : 0 ≤ a.f ∧ a.f < ((cntK (keepK m) m.n.toNat : Nat) : Int) ∧ 0 ≤ a.t ∧ a.t < ((cntK (keepK m) m.n.toNat : Nat) : Int) ∧ ∃ b, b ∈ m.arcs ∧ a = partArc (keepK m) b := by
  obtain ⟨b, hb, rfl⟩ := List.mem_map.1 ha
  obtain ⟨hb, hk⟩ := List.mem_filter.1 hb
  rw [Bool.and_eq_true] at hk
  have hr := h.inRange b hb
  have c1 := cntK_strict (K := keepK m) (show b.f.toNat < m.n.toNat by omega) hk.1
  have c2 := cntK_strict (K := keepK m) (show b.t.toNat < m.n.toNat by omega) hk.2
  exact ⟨by show 0 ≤ ((cntK (keepK m) b.f.toNat : Nat) : Int); omega, by show ((cntK (keepK m) b.f.toNat : Nat) : Int) < _; omega, by show 0 ≤ ((cntK (keepK m) b.t.toNat : Nat) : Int); omega, by show ((cntK (keepK m) b.t.toNat : Nat) : Int) < _; omega, b, hb, rfl⟩
theorem part_rngF {x : Fnl} (hx : x ∈ (partM m (keepK m)).fins) : 0 ≤ x.s ∧ x.s < ((cntK (keepK m) m.n.toNat : Nat) : Int) ∧ ∃ b, b ∈ m.fins ∧ x = partFin (keepK m) b := by
  obtain ⟨b, hb, rfl⟩ := List.mem_map.1 hx
  obtain ⟨hb, hk⟩ := List.mem_filter.1 hb
  have hr := h.finRange b hb
  have c1 := cntK_strict (K := keepK m) (show b.s.toNat < m.n.toNat by omega) hk
  exact ⟨by show 0 ≤ ((cntK (keepK m) b.s.toNat : Nat) : Int); omega, by show ((cntK (keepK m) b.s.toNat : Nat) : Int) < _; omega, b, hb, rfl⟩
theorem part_self (h0 : 0 < m.n.toNat) : partM (partM m (keepK m)) (keepK (partM m (keepK m))) = partM m (keepK m) := by
  have hk : ∀ i, i < cntK (keepK m) m.n.toNat → keepK (partM m (keepK m)) i = true := fun i hi => part_keep h h0 hi
  have hn := part_n h h0
  have hc : ∀ i, i ≤ cntK (keepK m) m.n.toNat → cntK (keepK (partM m (keepK m))) i = i := fun i hi => cntK_all i (fun s hs => hk s (by omega))
  generalize hM : partM m (keepK m) = t at *
  have e0 : (cntK (keepK t) t.n.toNat : Int) = t.n := by
    rw [hn, hc _ (Nat.le_refl _), ← hM]; rfl
  have e1 : partArcs (keepK t) t.arcs = t.arcs := by
    unfold partArcs
    have hr : ∀ a ∈ t.arcs, 0 ≤ a.f ∧ a.f < ((cntK (keepK m) m.n.toNat : Nat) : Int) ∧ 0 ≤ a.t ∧ a.t < ((cntK (keepK m) m.n.toNat : Nat) : Int) := fun a ha => by
      rw [← hM] at ha
      have := part_rngA h ha
      exact ⟨this.1, this.2.1, this.2.2.1, this.2.2.2.1⟩
    rw [List.filter_eq_self.2 (fun a ha => by have := hr a ha; rw [hk _ (by omega), hk _ (by omega)]; rfl)]
    refine (List.map_congr_left fun a ha => ?_).trans (List.map_id _)
    have := hr a ha
    unfold partArc
    rw [hc _ (by omega), hc _ (by omega)]
    exact Arc.ext' (by show ((a.f.toNat : Nat) : Int) = a.f; omega) (by show ((a.t.toNat : Nat) : Int) = a.t; omega) rfl rfl rfl
  have e2 : partFins (keepK t) t.fins = t.fins := by
    unfold partFins
    have hr : ∀ a ∈ t.fins, 0 ≤ a.s ∧ a.s < ((cntK (keepK m) m.n.toNat : Nat) : Int) := fun a ha => by
      rw [← hM] at ha
      have := part_rngF h ha
      exact ⟨this.1, this.2.1⟩
    rw [List.filter_eq_self.2 (fun a ha => by have := hr a ha; rw [hk _ (by omega)])]
    refine (List.map_congr_left fun a ha => ?_).trans (List.map_id _)
    have := hr a ha
    unfold partFin
    rw [hc _ (by omega)]
    exact Fnl.ext' (by show ((a.s.toNat : Nat) : Int) = a.s; omega) rfl
  show (⟨_, _, _⟩ : Mach) = t
  rw [e0, e1, e2]
theorem arcs_sorted : m.arcs.Pairwise (fun a b => arcLess a b = true) :=
  pairwise_of_step (R := fun a b => arcLess a b = true) (fun a b c h1 h2 => lessL_trans (arcKey a) (arcKey b) (arcKey c) h1 h2) dA m.arcs (fun k hk => by
    have := (arcFault_none (h.arc (k + 1) hk)).2 (by omega)
    rw [show k + 1 - 1 = k by omega] at this
    rw [arcLess_cmp, decide_eq_false this]; rfl)
theorem fins_sorted : m.fins.Pairwise (fun a b => a.s < b.s) :=
  pairwise_of_step (R := fun a b => a.s < b.s) (fun a b c h1 h2 => by omega) dF m.fins (fun k hk => by
    have := (finFault_none (h.fin (k + 1) hk)).2 (by omega)
    rw [show k + 1 - 1 = k by omega] at this
    exact this)
theorem part_sortedA : (partArcs (keepK m) m.arcs).Pairwise (fun a b => arcLess a b = true) := by
  unfold partArcs
  refine List.pairwise_map.2 (List.Pairwise.imp_of_mem (fun {a b} ha hb hab => ?_) ((arcs_sorted h).filter _))
  obtain ⟨ha, hka⟩ := List.mem_filter.1 ha
  obtain ⟨hb, hkb⟩ := List.mem_filter.1 hb
  rw [Bool.and_eq_true] at hka hkb
  have ra := h.inRange a ha
  have rb := h.inRange b hb
  exact lessL_img (fun e => num_mono (by omega) hka.1 e) (fun e => by show ((cntK (keepK m) a.f.toNat : Nat) : Int) = ((cntK (keepK m) b.f.toNat : Nat) : Int); rw [e]) (fun e => num_mono (by omega) hka.2 e) (fun e => by show ((cntK (keepK m) a.t.toNat : Nat) : Int) = ((cntK (keepK m) b.t.toNat : Nat) : Int); rw [e]) hab
theorem part_sortedF : (partFins (keepK m) m.fins).Pairwise (fun a b => a.s < b.s) := by
  unfold partFins
  refine List.pairwise_map.2 (List.Pairwise.imp_of_mem (fun {a b} ha hb hab => ?_) ((fins_sorted h).filter _))
  obtain ⟨ha, hka⟩ := List.mem_filter.1 ha
  have ra := h.finRange a ha
  exact num_mono (by omega) hka hab
theorem part_valid : Valid (partM m (keepK m)) := by
  have hl := cntK_le (keepK m) m.n.toNat
  have h0 := h.n0
  have h4 := h.n4
  refine ⟨by show 0 ≤ ((cntK (keepK m) m.n.toNat : Nat) : Int); omega, by show ((cntK (keepK m) m.n.toNat : Nat) : Int) ≤ 400; omega, Nat.le_trans (partArcs_len _ _) h.len, fun k hk => ?_, fun k hk => ?_⟩
  · have hm : (partM m (keepK m)).arcs.getD k dA ∈ (partM m (keepK m)).arcs := by
      simp [List.getD_eq_getElem?_getD, List.getElem?_eq_getElem hk]
    obtain ⟨r1, r2, r3, r4, b, hb, e⟩ := part_rngA h hm
    have ob := okArc_iff (h.okA hb)
    have ok : okArc (partM m (keepK m)).n ((partM m (keepK m)).arcs.getD k dA) = true := by
      simp only [okArc, Bool.and_eq_true, inR_iff]
      refine ⟨⟨⟨⟨⟨r1, ?_⟩, r3, ?_⟩, ?_⟩, ?_⟩, ?_⟩
      · show _ ≤ ((cntK (keepK m) m.n.toNat : Nat) : Int) - 1; omega
      · show _ ≤ ((cntK (keepK m) m.n.toNat : Nat) : Int) - 1; omega
      · rw [e]; exact ⟨ob.2.2.2.2.1, ob.2.2.2.2.2.1⟩
      · rw [e]; exact ⟨ob.2.2.2.2.2.2.1, ob.2.2.2.2.2.2.2.1⟩
      · rw [e]; exact ⟨ob.2.2.2.2.2.2.2.2.1, ob.2.2.2.2.2.2.2.2.2⟩
    unfold arcFault
    rw [if_pos ok, if_neg]
    rintro ⟨hk0, hc⟩
    have hp := step_of_pairwise dA (part_sortedA h) (k := k - 1) (by rw [show k - 1 + 1 = k by omega]; exact hk)
    rw [show k - 1 + 1 = k by omega, arcLess_cmp] at hp
    have hc' : 0 ≤ arcCmp ((partArcs (keepK m) m.arcs).getD (k - 1) dA) ((partArcs (keepK m) m.arcs).getD k dA) := hc
    rw [decide_eq_true hc'] at hp
    cases hp
  · have hm : (partM m (keepK m)).fins.getD k dF ∈ (partM m (keepK m)).fins := by
      simp [List.getD_eq_getElem?_getD, List.getElem?_eq_getElem hk]
    obtain ⟨r1, r2, b, hb, e⟩ := part_rngF h hm
    have ob := okFin_iff (h.okF hb)
    have ok : okFin (partM m (keepK m)).n ((partM m (keepK m)).fins.getD k dF) = true := by
      simp only [okFin, Bool.and_eq_true, inR_iff]
      refine ⟨⟨r1, ?_⟩, ?_⟩
      · show _ ≤ ((cntK (keepK m) m.n.toNat : Nat) : Int) - 1; omega
      · rw [e]; exact ⟨ob.2.2.1, ob.2.2.2⟩
    unfold finFault
    rw [if_pos ok, if_neg]
    rintro ⟨hk0, hc⟩
    have hp := step_of_pairwise dF (part_sortedF h) (k := k - 1) (by rw [show k - 1 + 1 = k by omega]; exact hk)
    rw [show k - 1 + 1 = k by omega] at hp
    have hc' : ((partFins (keepK m) m.fins).getD k dF).s ≤ ((partFins (keepK m) m.fins).getD (k - 1) dF).s := hc
    omega
end
theorem trim_valid {m : Mach} (h : Valid m) : Valid (trimOf m) := by
  unfold trimOf
  split
  · exact ⟨by simp [emptyM], by simp [emptyM], by simp [emptyM], fun k hk => by simp [emptyM] at hk, fun k hk => by simp [emptyM] at hk⟩
  · exact part_valid h
theorem trim_idem {m : Mach} (h : Valid m) : trimOf (trimOf m) = trimOf m := by
  by_cases hc : m.n = 0 ∨ keepK m 0 = false
  · have e : trimOf m = emptyM := by unfold trimOf; rw [if_pos hc]
    rw [e]
    unfold trimOf
    rw [if_pos (.inl rfl)]
  · have e : trimOf m = partM m (keepK m) := by unfold trimOf; rw [if_neg hc]
    have hn0 : 0 < m.n.toNat := by have := h.n0; have : m.n ≠ 0 := fun e => hc (.inl e); omega
    have hk0 : keepK m 0 = true := by
      cases ek : keepK m 0
      · exact absurd (.inr ek) hc
      · rfl
    rw [e]
    have hpos : 0 < cntK (keepK m) m.n.toNat := cntK_strict (K := keepK m) (s := 0) hn0 hk0
    unfold trimOf
    rw [if_neg, part_self h hn0]
    rintro (h1 | h1)
    · have h2 : ((cntK (keepK m) m.n.toNat : Nat) : Int) = 0 := h1
      omega
    · rw [part_keep h hn0 hpos] at h1; cases h1
end Gm

/- Text HpP. -/
namespace Gm
structure Pl where
  w : Nat
  s : Nat
  i : Nat
  j : Nat
def dP : Pl := ⟨0, 0, 0, 0⟩
theorem Pl.ext' {a b : Pl} (h1 : a.w = b.w) (h2 : a.s = b.s) (h3 : a.i = b.i) (h4 : a.j = b.j) : a = b := by
  cases a; cases b; simp_all
def kw (l : List Pl) (k : Nat) : Nat := (l.getD k dP).w
def swp (l : List Pl) (i j : Nat) : List Pl := (l.set i (l.getD j dP)).set j (l.getD i dP)
theorem swp_len (l : List Pl) (i j : Nat) : (swp l i j).length = l.length := by simp [swp]
theorem swp_perm {l : List Pl} {i j : Nat} (hi : i < l.length) (hj : j < l.length) : (swp l i j).Perm l := by
  have e1 : l.getD i dP = l[i] := by simp [hi]
  have e2 : l.getD j dP = l[j] := by simp [hj]
  unfold swp
  rw [e1, e2]
  exact List.set_set_perm hi hj
theorem getD_swp {l : List Pl} {i j : Nat} (hi : i < l.length) (hj : j < l.length) (k : Nat) : (swp l i j).getD k dP = if k = j then l.getD i dP else if k = i then l.getD j dP else l.getD k dP := by
  unfold swp
  simp only [List.getD_eq_getElem?_getD, List.getElem?_set, List.length_set]
  by_cases h1 : k = j
  · subst h1; simp [hj]
  · by_cases h2 : k = i
    · subst h2
      simp [h1, hi, Ne.symm h1]
    · simp [h1, h2, Ne.symm h1, Ne.symm h2]
theorem kw_swp {l : List Pl} {i j : Nat} (hi : i < l.length) (hj : j < l.length) (k : Nat) : kw (swp l i j) k = if k = j then kw l i else if k = i then kw l j else kw l k := by
  unfold kw
  rw [getD_swp hi hj]
  (repeat' split) <;> rfl
/-- The heap's order among the first n. -/
def hOrd (l : List Pl) (n : Nat) : Prop := ∀ k, 0 < k → k < n → kw l ((k - 1) / 2) ≤ kw l k
def upI (l : List Pl) (n j : Nat) : Prop := (∀ k, 0 < k → k < n → k ≠ j → kw l ((k - 1) / 2) ≤ kw l k) ∧ (∀ c, 0 < c → c < n → (c - 1) / 2 = j → 0 < j → kw l ((j - 1) / 2) ≤ kw l c)
def dnI (l : List Pl) (n i : Nat) : Prop := (∀ k, 0 < k → k < n → (k - 1) / 2 ≠ i → kw l ((k - 1) / 2) ≤ kw l k) ∧ (∀ c, 0 < c → c < n → (c - 1) / 2 = i → 0 < i → kw l ((i - 1) / 2) ≤ kw l c)
theorem hOrd_min {l : List Pl} {n : Nat} (h : hOrd l n) : ∀ k, k < n → kw l 0 ≤ kw l k
  | 0, _ => Nat.le_refl _
  | k + 1, hk => by
    have h1 := h (k + 1) (by omega) hk
    have h2 := hOrd_min h ((k + 1 - 1) / 2) (by omega)
    omega
theorem up_step {l : List Pl} {n j : Nat} (hn : n = l.length) (h : upI l n j) (h0 : 0 < j) (hj : j < n) (hl : kw l j < kw l ((j - 1) / 2)) : upI (swp l ((j - 1) / 2) j) n ((j - 1) / 2) := by
  subst hn
  obtain ⟨h1, h2⟩ := h
  have hi : (j - 1) / 2 < l.length := by omega
  obtain ⟨i, hie⟩ : ∃ i, i = (j - 1) / 2 := ⟨_, rfl⟩
  rw [← hie] at hi hl h2 ⊢
  have hK := kw_swp hi hj
  constructor
  · intro k hk0 hkn hki
    rw [hK, hK]
    by_cases e1 : k = j
    · subst e1
      rw [if_pos rfl, if_neg (by omega), if_pos hie.symm]
      omega
    · rw [if_neg e1, if_neg hki]
      have hp := h1 k hk0 hkn e1
      by_cases e2 : (k - 1) / 2 = j
      · rw [if_pos e2]
        exact h2 k hk0 hkn e2 h0
      · rw [if_neg e2]
        by_cases e3 : (k - 1) / 2 = i
        · rw [if_pos e3]; rw [e3] at hp; omega
        · rw [if_neg e3]; exact hp
  · intro c hc0 hcn hci hi0
    rw [hK, hK]
    have hpi : kw l ((i - 1) / 2) ≤ kw l i := h1 i hi0 hi (by omega)
    rw [if_neg (show ¬ (i - 1) / 2 = j by omega), if_neg (show ¬ (i - 1) / 2 = i by omega)]
    by_cases e1 : c = j
    · rw [if_pos e1]; exact hpi
    · rw [if_neg e1, if_neg (show ¬ c = i by omega)]
      have := h1 c hc0 hcn e1
      rw [hci] at this
      omega
theorem up_end {l : List Pl} {n j : Nat} (h : upI l n j) (hl : j = 0 ∨ kw l ((j - 1) / 2) ≤ kw l j) : hOrd l n := by
  intro k hk0 hkn
  by_cases e : k = j
  · subst e
    rcases hl with hl | hl
    · omega
    · exact hl
  · exact h.1 k hk0 hkn e
/-- An element put behind a heap. -/
theorem up_start {l : List Pl} {n : Nat} (h : hOrd l n) (hn : n = l.length) (x : Pl) : upI (l ++ [x]) (n + 1) n := by
  subst hn
  have e : ∀ k, k < l.length → kw (l ++ [x]) k = kw l k := fun k hk => by
    unfold kw; simp [List.getD, List.getElem?_append_left hk]
  constructor
  · intro k hk0 hkn hne
    rw [e _ (by omega), e _ (by omega)]
    exact h k hk0 (by omega)
  · intro c hc0 hcn hcj _
    omega
theorem dn_step {l : List Pl} {n i j : Nat} (hn : n ≤ l.length) (h : dnI l n i) (hj : j < n) (hji : j = 2 * i + 1 ∨ j = 2 * i + 2) (hl : kw l j < kw l i) (hmin : ∀ c, 0 < c → c < n → (c - 1) / 2 = i → kw l j ≤ kw l c) : dnI (swp l i j) n j := by
  obtain ⟨h1, h2⟩ := h
  have hi : i < l.length := by omega
  have hj' : j < l.length := by omega
  have hK := kw_swp hi hj'
  have hpj : (j - 1) / 2 = i := by omega
  constructor
  · intro k hk0 hkn hkj
    rw [hK, hK, if_neg hkj]
    by_cases e1 : k = j
    · rw [if_pos e1, e1, hpj, if_pos rfl]; omega
    · rw [if_neg e1]
      by_cases e2 : (k - 1) / 2 = i
      · rw [if_pos e2, if_neg (show ¬ k = i by omega)]
        exact hmin k hk0 hkn e2
      · rw [if_neg e2]
        by_cases e3 : k = i
        · rw [if_pos e3, e3]
          exact h2 j (by omega) hj hpj (by omega)
        · rw [if_neg e3]; exact h1 k hk0 hkn e2
  · intro c hc0 hcn hcj hj0
    rw [hK, hK, hpj, if_neg (show ¬ i = j by omega), if_pos rfl, if_neg (show ¬ c = j by omega), if_neg (show ¬ c = i by omega)]
    have := h1 c hc0 hcn (by omega)
    rw [hcj] at this
    exact this
theorem dn_end {l : List Pl} {n i : Nat} (h : dnI l n i) (hl : ∀ c, 0 < c → c < n → (c - 1) / 2 = i → kw l i ≤ kw l c) : hOrd l n := by
  intro k hk0 hkn
  by_cases e : (k - 1) / 2 = i
  · rw [e]; exact hl k hk0 hkn e
  · exact h.1 k hk0 hkn e
/-- The last one put in front. -/
theorem dn_start {l : List Pl} {n : Nat} (hn : l.length = n + 1) (h : hOrd l (n + 1)) : dnI (swp l 0 n) n 0 := by
  have hK := kw_swp (l := l) (i := 0) (j := n) (by omega) (by omega)
  constructor
  · intro k hk0 hkn hne
    rw [hK, hK, if_neg (show ¬ (k - 1) / 2 = n by omega), if_neg (show ¬ (k - 1) / 2 = 0 from hne), if_neg (show ¬ k = n by omega), if_neg (show ¬ k = 0 by omega)]
    exact h k hk0 (by omega)
  · intro c _ _ _ h0; omega
/-- What a pop gives. -/
theorem pop_law {l l2 : List Pl} {n : Nat} (hn : l.length = n + 1) (h : hOrd l (n + 1)) (hp : l2.Perm l) (hl : l2.getD n dP = l.getD 0 dP) :
    l.Perm (l.getD 0 dP :: l2.take n) ∧ ∀ y ∈ l2.take n, (l.getD 0 dP).w ≤ y.w := by
  have hlen : l2.length = n + 1 := by rw [hp.length_eq, hn]
  have e : l2 = l2.take n ++ [l2.getD n dP] := by
    have h1 := List.take_append_drop n l2
    have h2 : l2.drop n = [l2.getD n dP] := by
      rw [List.drop_eq_getElem_cons (by omega), List.drop_eq_nil_of_le (by omega)]
      simp [List.getD, hlen]
    rw [h2] at h1; exact h1.symm
  constructor
  · have h1 : l.Perm (l2.take n ++ [l2.getD n dP]) := by rw [← e]; exact hp.symm
    rw [hl] at h1
    exact h1.trans (List.perm_append_singleton _ _)
  · intro y hy
    have hy2 : y ∈ l := hp.mem_iff.1 (List.mem_of_mem_take hy)
    obtain ⟨k, hk, rfl⟩ := List.getElem_of_mem hy2
    have := hOrd_min h k (by omega)
    unfold kw at this
    simpa [List.getD, hk] using this
/-- A heap that a swap below n leaves as it was behind n. -/
theorem swp_out {l : List Pl} {i j k : Nat} (hi : i < l.length) (hj : j < l.length) (h1 : k ≠ i) (h2 : k ≠ j) : (swp l i j).getD k dP = l.getD k dP := by
  rw [getD_swp hi hj, if_neg h2, if_neg h1]
end Gm

/- Text WtP. -/
namespace Gm
/-- One arc, from place i of the word that is read and place j of the word that is written. -/
def stp (u v : List Int) (a : Arc) (i j : Nat) : Option (Nat × Nat) :=
  if a.i ≠ 0 ∧ (i = u.length ∨ u.getD i 0 ≠ a.i) then none
  else if a.o ≠ 0 ∧ (j = v.length ∨ v.getD j 0 ≠ a.o) then none
  else some (if a.i = 0 then i else i + 1, if a.o = 0 then j else j + 1)
theorem stp_le {u v : List Int} {a : Arc} {i j i' j' : Nat} (h : stp u v a i j = some (i', j')) (hi : i ≤ u.length) (hj : j ≤ v.length) : i' ≤ u.length ∧ j' ≤ v.length := by
  unfold stp at h
  by_cases h1 : a.i ≠ 0 ∧ (i = u.length ∨ u.getD i 0 ≠ a.i)
  · rw [if_pos h1] at h; cases h
  · rw [if_neg h1] at h
    by_cases h2 : a.o ≠ 0 ∧ (j = v.length ∨ v.getD j 0 ≠ a.o)
    · rw [if_pos h2] at h; cases h
    · rw [if_neg h2] at h
      simp only [Option.some.injEq, Prod.mk.injEq] at h
      obtain ⟨rfl, rfl⟩ := h
      have g1 : a.i ≠ 0 → i ≠ u.length := fun h3 h4 => h1 ⟨h3, .inl h4⟩
      have g2 : a.o ≠ 0 → j ≠ v.length := fun h3 h4 => h2 ⟨h3, .inl h4⟩
      constructor
      · by_cases h3 : a.i = 0
        · rw [if_pos h3]; exact hi
        · rw [if_neg h3]; have := g1 h3; omega
      · by_cases h3 : a.o = 0
        · rw [if_pos h3]; exact hj
        · rw [if_neg h3]; have := g2 h3; omega
/-- State s is reached, with i labels read and j labels written, by a path of weight d. -/
inductive Rch (m : Mach) (u v : List Int) : Nat → Nat → Nat → Nat → Prop
  | start : 0 < m.n → Rch m u v 0 0 0 0
  | step {s i j d i' j' : Nat} {a : Arc} : Rch m u v s i j d → a ∈ m.arcs → a.f = (s : Int) → stp u v a i j = some (i', j') → Rch m u v a.t.toNat i' j' (d + a.w.toNat)
/-- A path from the first state to a final one that reads u and writes v, and its weight. -/
def Acc (m : Mach) (u v : List Int) (d : Nat) : Prop := ∃ x ∈ m.fins, ∃ e, Rch m u v x.s.toNat u.length v.length e ∧ d = e + x.w.toNat
/-- r is the least weight of one, or -1 if there is none. -/
def Least (m : Mach) (u v : List Int) (r : Int) : Prop := (r = -1 ∧ ∀ d, ¬ Acc m u v d) ∨ (∃ n : Nat, r = (n : Int) ∧ Acc m u v n ∧ ∀ d, Acc m u v d → n ≤ d)
theorem least_uniq {m : Mach} {u v : List Int} {r r' : Int} (h : Least m u v r) (h' : Least m u v r') : r = r' := by
  rcases h with ⟨h1, h2⟩ | ⟨n, h1, h2, h3⟩ <;> rcases h' with ⟨g1, g2⟩ | ⟨k, g1, g2, g3⟩
  · omega
  · exact absurd g2 (h2 k)
  · exact absurd h2 (g2 n)
  · have := h3 k g2; have := g3 n h2; omega
theorem least_below (P : Nat → Prop) : ∀ n, P n → ∃ k, P k ∧ ∀ d, P d → k ≤ d := by
  intro n
  induction n using Nat.strongRecOn with
  | ind n ih =>
    intro h
    by_cases hx : ∃ d, P d ∧ d < n
    · obtain ⟨d, hd, hlt⟩ := hx
      exact ih d hlt hd
    · exact ⟨n, h, fun d hd => by
        rcases Nat.lt_or_ge d n with h1 | h1
        · exact absurd ⟨d, hd, h1⟩ hx
        · exact h1⟩
theorem least_ex (m : Mach) (u v : List Int) : ∃ r, Least m u v r := by
  by_cases h : ∃ d, Acc m u v d
  · obtain ⟨d, hd⟩ := h
    obtain ⟨k, hk, hk2⟩ := least_below _ d hd
    exact ⟨k, .inr ⟨k, rfl, hk, hk2⟩⟩
  · exact ⟨-1, .inl ⟨rfl, fun d hd => h ⟨d, hd⟩⟩⟩
/-- The least weight. -/
noncomputable def wgt (m : Mach) (u v : List Int) : Int := Classical.choose (least_ex m u v)
theorem wgt_least (m : Mach) (u v : List Int) : Least m u v (wgt m u v) := Classical.choose_spec (least_ex m u v)
theorem wgt_eq {m : Mach} {u v : List Int} {r : Int} (h : Least m u v r) : wgt m u v = r := least_uniq (wgt_least m u v) h
/-- Places that are closed under the arcs, each with a weight that is reached: they hold all that is reached, at its least. -/
theorem closed_least {m : Mach} {u v : List Int} {B : Nat → Nat → Nat → Option Nat} (h0 : 0 < m.n → B 0 0 0 = some 0)
    (hc : ∀ s i j d, B s i j = some d → i ≤ u.length → j ≤ v.length → ∀ a ∈ m.arcs, a.f = (s : Int) → ∀ i' j', stp u v a i j = some (i', j') → ∃ d', B a.t.toNat i' j' = some d' ∧ d' ≤ d + a.w.toNat) :
    ∀ s i j d, Rch m u v s i j d → i ≤ u.length ∧ j ≤ v.length ∧ ∃ d', B s i j = some d' ∧ d' ≤ d := by
  intro s i j d h
  induction h with
  | start hn => exact ⟨Nat.zero_le _, Nat.zero_le _, 0, h0 hn, Nat.le_refl _⟩
  | step h1 h2 h3 h4 ih =>
    obtain ⟨g1, g2, d1, g3, g4⟩ := ih
    obtain ⟨k1, k2⟩ := stp_le h4 g1 g2
    obtain ⟨d2, k3, k4⟩ := hc _ _ _ _ g3 g1 g2 _ h2 h3 _ _ h4
    exact ⟨k1, k2, d2, k3, by omega⟩
theorem rch_in {m : Mach} {u v : List Int} {s i j d : Nat} (h : Rch m u v s i j d) : i ≤ u.length ∧ j ≤ v.length := by
  induction h with
  | start hn => exact ⟨Nat.zero_le _, Nat.zero_le _⟩
  | step h1 h2 h3 h4 ih => exact stp_le h4 ih.1 ih.2
/-- The state of the search with a queue: q: what is open; D: the weight of each place that is done; la: the last weight taken; the arcs from place (s0, i0, j0) are followed as far as Y says. -/
structure Dij (m : Mach) (u v : List Int) (q : List Pl) (D : Nat → Nat → Nat → Option Nat) (la : Nat) (s0 i0 j0 : Nat) (Y : Arc → Prop) : Prop where
  open_ : ∀ e ∈ q, Rch m u v e.s e.i e.j e.w ∧ la ≤ e.w
  done_ : ∀ s i j d, D s i j = some d → Rch m u v s i j d ∧ d ≤ la
  next_ : ∀ s i j d, D s i j = some d → ∀ a ∈ m.arcs, a.f = (s : Int) → ((s, i, j) = (s0, i0, j0) → Y a) → ∀ i' j', stp u v a i j = some (i', j') →
    (∃ e ∈ q, e.s = a.t.toNat ∧ e.i = i' ∧ e.j = j' ∧ e.w ≤ d + a.w.toNat) ∨ ∃ d', D a.t.toNat i' j' = some d' ∧ d' ≤ d + a.w.toNat
  start_ : (∃ e ∈ q, e.s = 0 ∧ e.i = 0 ∧ e.j = 0 ∧ e.w = 0) ∨ D 0 0 0 = some 0
theorem dij_start {m : Mach} {u v : List Int} (h : 0 < m.n) : Dij m u v [⟨0, 0, 0, 0⟩] (fun _ _ _ => none) 0 0 0 0 (fun _ => True) where
  open_ := by
    intro e he
    simp only [List.mem_singleton] at he
    subst he
    exact ⟨.start h, Nat.le_refl _⟩
  done_ := by intro s i j d hd; cases hd
  next_ := by intro s i j d hd; cases hd
  start_ := .inl ⟨⟨0, 0, 0, 0⟩, by simp, rfl, rfl, rfl, rfl⟩
/-- An open place is taken that is done. -/
theorem dij_skip {m : Mach} {u v : List Int} {q q' : List Pl} {D : Nat → Nat → Nat → Option Nat} {la s0 i0 j0 : Nat} {e : Pl} {d : Nat} (h : Dij m u v q D la s0 i0 j0 (fun _ => True)) (hq : q.Perm (e :: q')) (hd : D e.s e.i e.j = some d) : Dij m u v q' D la s0 i0 j0 (fun _ => True) where
  open_ := fun x hx => h.open_ x (hq.mem_iff.2 (by simp [hx]))
  done_ := h.done_
  next_ := by
    intro s i j d1 h1 a ha hf hY i' j' hs
    rcases h.next_ s i j d1 h1 a ha hf hY i' j' hs with ⟨x, hx, g1, g2, g3, g4⟩ | h2
    · rcases List.mem_cons.1 (hq.mem_iff.1 hx) with rfl | hx
      · right
        rw [← g1, ← g2, ← g3]
        have k1 := (h.done_ _ _ _ _ hd).2
        have k2 := (h.open_ x (hq.mem_iff.2 (by simp))).2
        exact ⟨d, hd, by omega⟩
      · exact .inl ⟨x, hx, g1, g2, g3, g4⟩
    · exact .inr h2
  start_ := by
    rcases h.start_ with ⟨x, hx, g1, g2, g3, g4⟩ | h2
    · rcases List.mem_cons.1 (hq.mem_iff.1 hx) with rfl | hx
      · right
        rw [g1, g2, g3] at hd
        have k1 := (h.done_ _ _ _ _ hd).2
        have k2 := (h.open_ x (hq.mem_iff.2 (by simp))).2
        rw [hd]; congr 1; omega
      · exact .inl ⟨x, hx, g1, g2, g3, g4⟩
    · exact .inr h2
def setD (D : Nat → Nat → Nat → Option Nat) (s i j d : Nat) : Nat → Nat → Nat → Option Nat := fun s' i' j' => if s' = s ∧ i' = i ∧ j' = j then some d else D s' i' j'
/-- An open place is taken, the lightest one, and is done now. -/
theorem dij_take {m : Mach} {u v : List Int} {q q' : List Pl} {D : Nat → Nat → Nat → Option Nat} {la s0 i0 j0 : Nat} {e : Pl} (h : Dij m u v q D la s0 i0 j0 (fun _ => True)) (hq : q.Perm (e :: q')) (hm : ∀ y ∈ q', e.w ≤ y.w) (hd : D e.s e.i e.j = none) :
    Dij m u v q' (setD D e.s e.i e.j e.w) e.w e.s e.i e.j (fun _ => False) where
  open_ := fun x hx => ⟨(h.open_ x (hq.mem_iff.2 (by simp [hx]))).1, hm x hx⟩
  done_ := by
    intro s i j d hs
    have hla := (h.open_ e (hq.mem_iff.2 (by simp)))
    unfold setD at hs
    by_cases hc : s = e.s ∧ i = e.i ∧ j = e.j
    · rw [if_pos hc] at hs
      obtain ⟨rfl, rfl, rfl⟩ := hc
      simp only [Option.some.injEq] at hs
      subst hs
      exact ⟨hla.1, Nat.le_refl _⟩
    · rw [if_neg hc] at hs
      have := h.done_ s i j d hs
      exact ⟨this.1, by omega⟩
  next_ := by
    intro s i j d1 h1 a ha hf hY i' j' hs
    unfold setD at h1
    by_cases hc : s = e.s ∧ i = e.i ∧ j = e.j
    · exact absurd (hY (by rw [hc.1, hc.2.1, hc.2.2])) id
    · rw [if_neg hc] at h1
      rcases h.next_ s i j d1 h1 a ha hf (fun _ => trivial) i' j' hs with ⟨x, hx, g1, g2, g3, g4⟩ | ⟨d2, g1, g2⟩
      · rcases List.mem_cons.1 (hq.mem_iff.1 hx) with rfl | hx
        · right
          refine ⟨x.w, ?_, g4⟩
          unfold setD
          rw [if_pos ⟨g1.symm, g2.symm, g3.symm⟩]
        · exact .inl ⟨x, hx, g1, g2, g3, g4⟩
      · right
        refine ⟨d2, ?_, g2⟩
        unfold setD
        rw [if_neg (fun hh => by rw [hh.1, hh.2.1, hh.2.2, hd] at g1; cases g1)]
        exact g1
  start_ := by
    rcases h.start_ with ⟨x, hx, g1, g2, g3, g4⟩ | h2
    · rcases List.mem_cons.1 (hq.mem_iff.1 hx) with rfl | hx
      · right
        unfold setD
        rw [if_pos ⟨g1.symm, g2.symm, g3.symm⟩, g4]
      · exact .inl ⟨x, hx, g1, g2, g3, g4⟩
    · right
      unfold setD
      rw [if_neg (fun hh => by rw [← hh.1, ← hh.2.1, ← hh.2.2, h2] at hd; cases hd)]
      exact h2
/-- An arc from the place is followed: it leads nowhere. -/
theorem dij_none {m : Mach} {u v : List Int} {q : List Pl} {D : Nat → Nat → Nat → Option Nat} {la s0 i0 j0 : Nat} {Y : Arc → Prop} {a : Arc} (h : Dij m u v q D la s0 i0 j0 Y) (hs : stp u v a i0 j0 = none) : Dij m u v q D la s0 i0 j0 (fun b => Y b ∨ b = a) where
  open_ := h.open_
  done_ := h.done_
  next_ := by
    intro s i j d1 h1 b hb hf hY i' j' hst
    refine h.next_ s i j d1 h1 b hb hf (fun hp => ?_) i' j' hst
    rcases hY hp with hy | rfl
    · exact hy
    · simp only [Prod.mk.injEq] at hp
      obtain ⟨_, rfl, rfl⟩ := hp
      rw [hs] at hst; cases hst
  start_ := h.start_
/-- An arc from the place is followed: what it leads to is open now. -/
theorem dij_push {m : Mach} {u v : List Int} {q q' : List Pl} {D : Nat → Nat → Nat → Option Nat} {la s0 i0 j0 i1 j1 d0 : Nat} {Y : Arc → Prop} {a : Arc} (h : Dij m u v q D la s0 i0 j0 Y) (ha : a ∈ m.arcs) (hf : a.f = (s0 : Int)) (hs : stp u v a i0 j0 = some (i1, j1)) (hd : D s0 i0 j0 = some d0) (hla : d0 = la)
    (hq : q'.Perm (⟨d0 + a.w.toNat, a.t.toNat, i1, j1⟩ :: q)) : Dij m u v q' D la s0 i0 j0 (fun b => Y b ∨ b = a) where
  open_ := by
    intro e he
    rcases List.mem_cons.1 (hq.mem_iff.1 he) with rfl | he
    · exact ⟨.step (h.done_ _ _ _ _ hd).1 ha hf hs, by simp only; omega⟩
    · exact h.open_ e he
  done_ := h.done_
  next_ := by
    intro s i j d1 h1 b hb hf' hY i' j' hst
    by_cases hp : (s, i, j) = (s0, i0, j0) ∧ b = a
    · obtain ⟨hp, rfl⟩ := hp
      simp only [Prod.mk.injEq] at hp
      obtain ⟨rfl, rfl, rfl⟩ := hp
      rw [hs] at hst
      simp only [Option.some.injEq, Prod.mk.injEq] at hst
      obtain ⟨rfl, rfl⟩ := hst
      rw [hd] at h1
      simp only [Option.some.injEq] at h1
      subst h1
      exact .inl ⟨⟨d0 + b.w.toNat, b.t.toNat, i1, j1⟩, hq.mem_iff.2 (by simp), rfl, rfl, rfl, Nat.le_refl _⟩
    · rcases h.next_ s i j d1 h1 b hb hf' (fun hp2 => by
        rcases hY hp2 with hy | hy
        · exact hy
        · exact absurd ⟨hp2, hy⟩ hp) i' j' hst with ⟨x, hx, g⟩ | h2
      · exact .inl ⟨x, hq.mem_iff.2 (by simp [hx]), g⟩
      · exact .inr h2
  start_ := by
    rcases h.start_ with ⟨x, hx, g⟩ | h2
    · exact .inl ⟨x, hq.mem_iff.2 (by simp [hx]), g⟩
    · exact .inr h2
/-- All the arcs from the place are followed. -/
theorem dij_all {m : Mach} {u v : List Int} {q : List Pl} {D : Nat → Nat → Nat → Option Nat} {la s0 i0 j0 : Nat} {Y : Arc → Prop} (h : Dij m u v q D la s0 i0 j0 Y) (hY : ∀ a ∈ m.arcs, a.f = (s0 : Int) → Y a) : Dij m u v q D la s0 i0 j0 (fun _ => True) where
  open_ := h.open_
  done_ := h.done_
  next_ := by
    intro s i j d1 h1 b hb hf _ i' j' hst
    refine h.next_ s i j d1 h1 b hb hf (fun hp => ?_) i' j' hst
    simp only [Prod.mk.injEq] at hp
    exact hY b hb (by rw [hf, hp.1])
  start_ := h.start_
/-- Nothing is open any more. -/
theorem dij_end {m : Mach} {u v : List Int} {D : Nat → Nat → Nat → Option Nat} {la s0 i0 j0 : Nat} (h : Dij m u v [] D la s0 i0 j0 (fun _ => True)) : ∀ s i j d, Rch m u v s i j d → ∃ d', D s i j = some d' ∧ d' ≤ d ∧ Rch m u v s i j d' := by
  intro s i j d hr
  have h0 : D 0 0 0 = some 0 := by
    rcases h.start_ with ⟨x, hx, _⟩ | h2
    · simp at hx
    · exact h2
  obtain ⟨_, _, d', g1, g2⟩ := closed_least (B := D) (fun _ => h0) (fun s i j d hd _ _ a ha hf i' j' hs => by
    rcases h.next_ s i j d hd a ha hf (fun _ => trivial) i' j' hs with ⟨x, hx, _⟩ | h2
    · simp at hx
    · exact h2) s i j d hr
  exact ⟨d', g1, g2, (h.done_ _ _ _ _ g1).1⟩
/-- The least weight so far: of the places that are done. -/
def LeastD (m : Mach) (u v : List Int) (D : Nat → Nat → Nat → Option Nat) (r : Int) : Prop :=
  (r = -1 ∨ ∃ n : Nat, r = (n : Int) ∧ Acc m u v n) ∧ ∀ x ∈ m.fins, ∀ d, D x.s.toNat u.length v.length = some d → 0 ≤ r ∧ r ≤ ((d + x.w.toNat : Nat) : Int)
theorem leastD_end {m : Mach} {u v : List Int} {D : Nat → Nat → Nat → Option Nat} {r : Int} (hE : ∀ s i j d, Rch m u v s i j d → ∃ d', D s i j = some d' ∧ d' ≤ d ∧ Rch m u v s i j d') (h : LeastD m u v D r) : Least m u v r := by
  obtain ⟨h1, h2⟩ := h
  have key : ∀ d, Acc m u v d → 0 ≤ r ∧ r ≤ (d : Int) := by
    rintro d ⟨x, hx, e, he, rfl⟩
    obtain ⟨d', g1, g2, _⟩ := hE _ _ _ _ he
    have := h2 x hx d' g1
    omega
  rcases h1 with h1 | ⟨n, h1, h3⟩
  · left
    exact ⟨h1, fun d hd => by have := key d hd; omega⟩
  · right
    exact ⟨n, h1, h3, fun d hd => by have := key d hd; omega⟩
end Gm

/- Text HpA. -/
namespace Gm
open Go Go.RowKit
def plVals (a : Pl) : List Value := [.int .i64 (a.w : Int), .int .i64 (a.s : Int), .int .i64 (a.i : Int), .int .i64 (a.j : Int)]
def plRow (l : List Pl) : List Value := l.flatMap plVals
theorem plRow_cons (a : Pl) (l : List Pl) : plRow (a :: l) = plVals a ++ plRow l := rfl
theorem plRow_append (l k : List Pl) : plRow (l ++ k) = plRow l ++ plRow k := by simp [plRow]
theorem plRow_length (l : List Pl) : (plRow l).length = l.length * 4 := by
  induction l with
  | nil => rfl
  | cons a l ih => rw [plRow_cons, List.length_append, ih, List.length_cons]; simp [plVals]; omega
theorem plRow_at : ∀ (l : List Pl) (k j : Nat), k < l.length → j < 4 → (plRow l)[k * 4 + j]? = (plVals (l.getD k dP))[j]?
  | [], k, j, h, _ => by simp at h
  | a :: l, 0, j, _, hj => by
    rw [plRow_cons]
    rcases (by omega : j = 0 ∨ j = 1 ∨ j = 2 ∨ j = 3) with rfl | rfl | rfl | rfl <;> rfl
  | a :: l, k + 1, j, h, hj => by
    have ih := plRow_at l k j (by simpa using h) hj
    rw [plRow_cons, List.getElem?_append_right (by simp [plVals]; omega)]
    have e2 : (k + 1) * 4 + j - (plVals a).length = k * 4 + j := by simp [plVals]; omega
    rw [e2, ih]
    simp
theorem plRow_set : ∀ (l : List Pl) (k : Nat) (x : Pl), k < l.length →
    ((((plRow l).set (k * 4) (.int .i64 (x.w : Int))).set (k * 4 + 1) (.int .i64 (x.s : Int))).set (k * 4 + 2) (.int .i64 (x.i : Int))).set (k * 4 + 3) (.int .i64 (x.j : Int)) = plRow (l.set k x)
  | [], k, x, h => by simp at h
  | a :: l, 0, x, _ => by
    rw [List.set_cons_zero, plRow_cons, plRow_cons]; rfl
  | a :: l, k + 1, x, h => by
    have ih := plRow_set l k x (by simpa using h)
    rw [List.set_cons_succ, plRow_cons, plRow_cons, ← ih]
    have e : (k + 1) * 4 = k * 4 + 4 := by omega
    rw [e]
    rfl
theorem own_setN {w : World} {base sz n : Nat} {e : TypeId} {v : Value} {xs : List Value} (h : w.ownsRow base e sz v n xs) {g cap : Nat} (hv : v = .slice (some ⟨g, 0, none⟩) n cap) (hn : 0 < n) (i : Nat) (u : Value) :
    (w.setCell ⟨g, i, none⟩ u).ownsRow base e sz v n (xs.set i u) := by
  refine ⟨by rw [List.length_set]; exact h.1, ?_⟩
  rcases h.2 with ⟨_, h0⟩ | ⟨g', cap', cur, h1, h2, h3, h4, h5, h6, h7⟩
  · omega
  · rw [hv] at h1
    injection h1 with h1 _ hc
    injection h1 with h1
    injection h1 with h1
    subst h1
    refine .inr ⟨g, cap', cur.setIfInBounds i u, by rw [hv, hc], h2, ?_, h4, h5, by simpa using h6, ?_⟩
    · simp [World.setCell, Array.getElem?_modify, h3]
    · rw [Array.toList_setIfInBounds, List.take_set, h7]
theorem own_freeN {w : World} {base sz n : Nat} {e : TypeId} {v : Value} {xs : List Value} (h : w.ownsRow base e sz v n xs) {g cap : Nat} (hv : v = .slice (some ⟨g, 0, none⟩) n cap) (hn : 0 < n) (j : Nat) : w.frozen? ⟨g, j, none⟩ = false := by
  rcases h.2 with ⟨_, h0⟩ | ⟨g', cap', cur, h1, h2, h3, h4⟩
  · omega
  · rw [hv] at h1
    injection h1 with h1 _ hc
    injection h1 with h1
    injection h1 with h1
    subst h1
    simp [World.frozen?, h3]
theorem own_formN {w : World} {base sz n : Nat} {e : TypeId} {v : Value} {xs : List Value} (h : w.ownsRow base e sz v n xs) (hn : 0 < n) : ∃ g cap, v = .slice (some ⟨g, 0, none⟩) n cap ∧ base ≤ g ∧ g < w.heap.size ∧ n ≤ cap ∧ cap ≤ maxLen := by
  rcases h.2 with ⟨_, h0⟩ | ⟨g, cap, cur, h1, h2, h3, h4, h5, h6, h7⟩
  · omega
  · refine ⟨g, cap, h1, h2, ?_, h4, h5⟩
    rcases Nat.lt_or_ge g w.heap.size with hlt | hge
    · exact hlt
    · rw [Array.getElem?_eq_none hge] at h3; cases h3
theorem pl_at {w : World} {base n : Nat} {e : TypeId} {l : List Pl} {g cap : Nat} (h : w.ownsRow base e 4 (.slice (some ⟨g, 0, none⟩) n cap) n (plRow l)) (hn : l.length = n) {k : Nat} (hk : k < n) {x : Pl} (hx : l.getD k dP = x) :
    w.cell? ⟨g, k * 4, none⟩ = some (.int .i64 (x.w : Int)) ∧ w.cell? ⟨g, k * 4 + 1, none⟩ = some (.int .i64 (x.s : Int)) ∧ w.cell? ⟨g, k * 4 + 2, none⟩ = some (.int .i64 (x.i : Int)) ∧ w.cell? ⟨g, k * 4 + 3, none⟩ = some (.int .i64 (x.j : Int)) := by
  have key : ∀ j, j < 4 → w.cell? ⟨g, k * 4 + j, none⟩ = (plVals x)[j]? := fun j hj => by
    have h1 := plRow_at l k j (by omega) hj
    rw [hx] at h1
    obtain ⟨u, hu⟩ : ∃ u, (plVals x)[j]? = some u := ⟨_, List.getElem?_eq_getElem (by simpa [plVals] using hj)⟩
    rw [hu] at h1 ⊢
    have := h.cells (g := g) rfl (k * 4 + j) u h1
    have e : (⟨g, 0, none⟩ : Addr).add (k * 4 + j) = ⟨g, k * 4 + j, none⟩ := by unfold Addr.add; split <;> simp_all
    rwa [e] at this
  exact ⟨key 0 (by omega), key 1 (by omega), key 2 (by omega), key 3 (by omega)⟩
theorem own_grown_set {w w' : World} {g : Nat} (h : w.grownBy w' (some g)) (o : Nat) (u : Value) : w.grownBy (w'.setCell ⟨g, o, none⟩ u) (some g) :=
  ⟨h.os, h.tape, h.output, by simpa [World.setCell] using h.size, fun k hk hne => (Below.heap_setCell w' ⟨g, o, none⟩ u k (by rintro rfl; exact hne rfl)).trans (h.block k hk hne)⟩
theorem grownBy_refl (w : World) (r : Option Nat) : w.grownBy w r := ⟨rfl, rfl, rfl, Nat.le_refl _, fun _ _ _ => rfl⟩
theorem grownBy_drewN {w w' : World} {r : Option Nat} (h : w.grownBy w' r) (n : Nat) : w.grownBy (w'.drewN n) r := ⟨h.os, h.tape, h.output, h.size, h.block⟩
theorem grownBy_drew {w w' : World} {r : Option Nat} (h : w.grownBy w' r) : w.grownBy w'.drew r := ⟨h.os, h.tape, h.output, h.size, h.block⟩
theorem own_drew {w : World} {base n s : Nat} {e : TypeId} {v : Value} {xs : List Value} (h : w.ownsRow base e s v n xs) : w.drew.ownsRow base e s v n xs := h
theorem own_drewN' {w : World} {base n s : Nat} {e : TypeId} {v : Value} {xs : List Value} (h : w.ownsRow base e s v n xs) (k : Nat) : (w.drewN k).ownsRow base e s v n xs := h
theorem grownBy_trans {w w' w'' : World} {r : Option Nat} (h : w.grownBy w' r) (h' : w'.grownBy w'' r) : w.grownBy w'' r :=
  ⟨h'.os.trans h.os, h'.tape.trans h.tape, h'.output.trans h.output, Nat.le_trans h.size h'.size, fun k hk hne => (h'.block k (Nat.lt_of_lt_of_le hk h.size) hne).trans (h.block k hk hne)⟩
end Gm
namespace Go.Proofs.Ytopakcbhodnipaa
open Go.RowKit Gm
set_option linter.unusedSimpArgs false
set_option linter.unusedVariables false
end Go.Proofs.Ytopakcbhodnipaa

/- Text WtQ. -/
namespace Gm
/-- The weight of final state i among the first ones, or -1. -/
def finU (l : List Fnl) (i : Nat) : Int := ((l.reverse.find? fun x => decide (x.s = (i : Int))).map (·.w)).getD (-1)
theorem takeF {l : List Fnl} {k : Nat} {x : Fnl} (hk : k < l.length) (hx : l.getD k dF = x) : l.take (k + 1) = l.take k ++ [x] := by
  have e : l.getD k dF = l[k] := by simp [hk]
  rw [List.take_succ_eq_append_getElem hk, ← e, hx]
theorem finU_snoc (l : List Fnl) (x : Fnl) (i : Nat) : finU (l ++ [x]) i = if x.s = (i : Int) then x.w else finU l i := by
  unfold finU
  rw [List.reverse_append]
  by_cases h : x.s = (i : Int) <;> simp [h]
theorem finU_mem {l : List Fnl} {i : Nat} (h : 0 ≤ finU l i) : ∃ x ∈ l, x.s = (i : Int) ∧ x.w = finU l i := by
  unfold finU at h ⊢
  cases hf : l.reverse.find? fun x => decide (x.s = (i : Int)) with
  | none => rw [hf] at h; simp at h
  | some y =>
    have h1 := List.find?_some hf
    have h2 := List.mem_of_find?_eq_some hf
    exact ⟨y, by simpa using h2, by simpa using h1, by simp⟩
theorem finU_of {l : List Fnl} {x : Fnl} (hx : x ∈ l) (h0 : 0 ≤ x.s) (hu : ∀ y ∈ l, y.s = x.s → y.w = x.w) : finU l x.s.toNat = x.w := by
  unfold finU
  cases hf : l.reverse.find? fun y => decide (y.s = (x.s.toNat : Int)) with
  | none =>
    have := List.find?_eq_none.1 hf x (by simpa using hx)
    simp at this; omega
  | some y =>
    have h1 := List.find?_some hf
    have h2 := List.mem_of_find?_eq_some hf
    simp at h1 h2
    simp [hu y h2 (by omega)]
/-- A place as a number. -/
def ixp (nu no s i j : Nat) : Nat := (s * (nu + 1) + i) * (no + 1) + j
theorem ixp_inj {nu no s i j s' i' j' : Nat} (hi : i ≤ nu) (hj : j ≤ no) (hi' : i' ≤ nu) (hj' : j' ≤ no) (h : ixp nu no s i j = ixp nu no s' i' j') : s = s' ∧ i = i' ∧ j = j' := by
  unfold ixp at h
  have e1 : ((s * (nu + 1) + i) * (no + 1) + j) / (no + 1) = s * (nu + 1) + i := by
    rw [Nat.add_comm, Nat.add_mul_div_right _ _ (by omega), Nat.div_eq_of_lt (by omega)]; omega
  have e2 : ((s' * (nu + 1) + i') * (no + 1) + j') / (no + 1) = s' * (nu + 1) + i' := by
    rw [Nat.add_comm, Nat.add_mul_div_right _ _ (by omega), Nat.div_eq_of_lt (by omega)]; omega
  rw [h, e2] at e1
  have hjj : j = j' := by rw [e1] at h; omega
  have f1 : (s * (nu + 1) + i) / (nu + 1) = s := by
    rw [Nat.add_comm, Nat.add_mul_div_right _ _ (by omega), Nat.div_eq_of_lt (by omega)]; omega
  have f2 : (s' * (nu + 1) + i') / (nu + 1) = s' := by
    rw [Nat.add_comm, Nat.add_mul_div_right _ _ (by omega), Nat.div_eq_of_lt (by omega)]; omega
  rw [← e1, f2] at f1
  subst f1
  exact ⟨rfl, by omega, hjj⟩
theorem ixp_lt {S nu no s i j : Nat} (hs : s < S) (hi : i ≤ nu) (hj : j ≤ no) : ixp nu no s i j < S * (nu + 1) * (no + 1) := by
  unfold ixp
  have h1 : s * (nu + 1) + i + 1 ≤ S * (nu + 1) := by
    have := Nat.mul_le_mul_right (nu + 1) (show s + 1 ≤ S from hs)
    rw [Nat.add_mul] at this
    omega
  have h2 := Nat.mul_le_mul_right (no + 1) h1
  rw [Nat.add_mul (s * (nu + 1) + i) 1] at h2
  omega
/-- So many below n are not done. -/
def undn (dn : Nat → Bool) : Nat → Nat
  | 0 => 0
  | n + 1 => undn dn n + (if dn n = true then 0 else 1)
theorem undn_le (dn : Nat → Bool) : ∀ n, undn dn n ≤ n
  | 0 => Nat.le_refl _
  | n + 1 => by
    have := undn_le dn n
    unfold undn
    split <;> omega
theorem undn_none : ∀ n, undn (fun _ => false) n = n
  | 0 => rfl
  | n + 1 => by
    have := undn_none n
    unfold undn
    rw [this]; simp
theorem undn_far {dn : Nat → Bool} {k : Nat} : ∀ n, n ≤ k → undn (upd dn k) n = undn dn n
  | 0, _ => rfl
  | n + 1, h => by
    have := undn_far (dn := dn) (k := k) n (by omega)
    unfold undn
    rw [this]
    have e : upd dn k n = dn n := by unfold upd; rw [if_neg (by omega)]
    rw [e]
theorem undn_upd {dn : Nat → Bool} {k : Nat} (h : dn k = false) : ∀ n, k < n → undn (upd dn k) n + 1 = undn dn n
  | 0, hk => by omega
  | n + 1, hk => by
    unfold undn
    by_cases e : k = n
    · subst e
      rw [undn_far k (Nat.le_refl _), upd_self, h]; simp
    · have ih := undn_upd h n (by omega)
      have e2 : upd dn k n = dn n := by unfold upd; rw [if_neg (by omega)]
      rw [e2]
      omega
theorem rch_s {m : Mach} {u v : List Int} {S : Nat} (hS : 0 < S) (hr : inRange m.arcs S) {s i j d : Nat} (h : Rch m u v s i j d) : s < S := by
  cases h with
  | start _ => exact hS
  | step h1 h2 h3 h4 =>
    have := hr _ h2
    omega
/-- The least weight so far, when a place is done. -/
def nextL (m : Mach) (nu no : Nat) (x : Pl) (r : Int) : Int :=
  if x.i = nu ∧ x.j = no ∧ 0 ≤ finU m.fins x.s then (if r < 0 ∨ (x.w : Int) + finU m.fins x.s < r then (x.w : Int) + finU m.fins x.s else r) else r
theorem leastD_step {m : Mach} {u v : List Int} {D : Nat → Nat → Nat → Option Nat} {r : Int} {x : Pl} (hf0 : ∀ y ∈ m.fins, 0 ≤ y.s ∧ 0 ≤ y.w) (hu : ∀ y ∈ m.fins, ∀ z ∈ m.fins, z.s = y.s → z.w = y.w)
    (h : LeastD m u v D r) (hr : Rch m u v x.s x.i x.j x.w) : LeastD m u v (setD D x.s x.i x.j x.w) (nextL m u.length v.length x r) := by
  obtain ⟨h1, h2⟩ := h
  unfold nextL
  by_cases hc : x.i = u.length ∧ x.j = v.length ∧ 0 ≤ finU m.fins x.s
  · rw [if_pos hc]
    obtain ⟨c1, c2, c3⟩ := hc
    obtain ⟨y, hy, hy1, hy2⟩ := finU_mem c3
    have hAcc : Acc m u v (x.w + y.w.toNat) := ⟨y, hy, x.w, by
      rw [show y.s.toNat = x.s by omega, ← c1, ← c2]; exact hr, rfl⟩
    have hsum : (x.w : Int) + finU m.fins x.s = ((x.w + y.w.toNat : Nat) : Int) := by
      have := (hf0 y hy).2
      omega
    have hnew : ∀ r' : Int, (r' ≤ (x.w : Int) + finU m.fins x.s) → 0 ≤ r' → (∀ z ∈ m.fins, ∀ d, D z.s.toNat u.length v.length = some d → 0 ≤ r' ∧ r' ≤ ((d + z.w.toNat : Nat) : Int)) →
        ∀ z ∈ m.fins, ∀ d, setD D x.s x.i x.j x.w z.s.toNat u.length v.length = some d → 0 ≤ r' ∧ r' ≤ ((d + z.w.toNat : Nat) : Int) := by
      intro r' hle h0 hold z hz d hd
      unfold setD at hd
      by_cases e : z.s.toNat = x.s ∧ u.length = x.i ∧ v.length = x.j
      · rw [if_pos e] at hd
        simp only [Option.some.injEq] at hd
        have hzs := (hf0 z hz).1
        have hzw : z.w = y.w := hu y hy z hz (by omega)
        have := (hf0 y hy).2
        refine ⟨h0, ?_⟩
        rw [← hd, hzw]; omega
      · rw [if_neg e] at hd
        exact hold z hz d hd
    by_cases hlt : r < 0 ∨ (x.w : Int) + finU m.fins x.s < r
    · rw [if_pos hlt]
      refine ⟨.inr ⟨_, hsum, hAcc⟩, hnew _ (Int.le_refl _) (by omega) (fun z hz d hd => ?_)⟩
      have := h2 z hz d hd
      omega
    · rw [if_neg hlt]
      exact ⟨h1, hnew _ (by omega) (by omega) h2⟩
  · rw [if_neg hc]
    refine ⟨h1, fun z hz d hd => ?_⟩
    unfold setD at hd
    by_cases e : z.s.toNat = x.s ∧ u.length = x.i ∧ v.length = x.j
    · exfalso
      apply hc
      refine ⟨e.2.1.symm, e.2.2.symm, ?_⟩
      have := finU_of hz (hf0 z hz).1 (hu z hz)
      rw [e.1] at this
      rw [this]; exact (hf0 z hz).2
    · rw [if_neg e] at hd
      exact h2 z hz d hd
theorem leastD_start {m : Mach} {u v : List Int} : LeastD m u v (fun _ _ _ => none) (-1) := ⟨.inl rfl, fun _ _ _ hd => by cases hd⟩
end Gm

/- Text PwP. -/
namespace Gm
set_option linter.unusedSimpArgs false
set_option linter.unusedVariables false
/-- The word of a label: 0 is none. -/
def lab (x : Int) : List Int := if x = 0 then [] else [x]
theorem lab_zero : lab 0 = [] := rfl
theorem lab_len (x : Int) : (lab x).length = if x = 0 then 0 else 1 := by unfold lab; split <;> rfl
/-- A path along arcs from state s to state t that reads u and writes v, and its weight. -/
inductive Pw (A : List Arc) (s : Int) : Int → List Int → List Int → Nat → Prop
  | nil : Pw A s s [] [] 0
  | snoc {t : Int} {u v : List Int} {d : Nat} {a : Arc} : Pw A s t u v d → a ∈ A → a.f = t → Pw A s a.t (u ++ lab a.i) (v ++ lab a.o) (d + a.w.toNat)
theorem Pw.cast {A : List Arc} {s t t' : Int} {u u' v v' : List Int} {d d' : Nat} (h : Pw A s t u v d) (ht : t = t') (hu : u = u') (hv : v = v') (hd : d = d') : Pw A s t' u' v' d' := by
  subst ht; subst hu; subst hv; subst hd; exact h
theorem Pw.one {A : List Arc} {a : Arc} (ha : a ∈ A) : Pw A a.f a.t (lab a.i) (lab a.o) a.w.toNat :=
  (Pw.snoc (.nil) ha rfl).cast rfl (by simp) (by simp) (by simp)
theorem Pw.trans {A : List Arc} {s t r : Int} {u v u' v' : List Int} {d d' : Nat} (h : Pw A s t u v d) (h' : Pw A t r u' v' d') : Pw A s r (u ++ u') (v ++ v') (d + d') := by
  induction h' with
  | nil => exact h.cast rfl (by simp) (by simp) (by simp)
  | snoc _ ha hf ih => exact (Pw.snoc ih ha hf).cast rfl (by simp [List.append_assoc]) (by simp [List.append_assoc]) (by omega)
theorem Pw.mono {A B : List Arc} {s t : Int} {u v : List Int} {d : Nat} (h : Pw A s t u v d) (hs : ∀ a ∈ A, a ∈ B) : Pw B s t u v d := by
  induction h with
  | nil => exact .nil
  | snoc _ ha hf ih => exact .snoc ih (hs _ ha) hf
/-- From the first arc on. -/
theorem Pw.cons {A : List Arc} {s t : Int} {u v : List Int} {d : Nat} (h : Pw A s t u v d) : (s = t ∧ u = [] ∧ v = [] ∧ d = 0) ∨ ∃ a ∈ A, a.f = s ∧ ∃ u' v' d', Pw A a.t t u' v' d' ∧ u = lab a.i ++ u' ∧ v = lab a.o ++ v' ∧ d = a.w.toNat + d' := by
  induction h with
  | nil => exact .inl ⟨rfl, rfl, rfl, rfl⟩
  | @snoc t u v d b hp hb hf ih =>
    right
    rcases ih with ⟨rfl, rfl, rfl, rfl⟩ | ⟨a, ha, hs, u', v', d', hq, rfl, rfl, rfl⟩
    · exact ⟨b, hb, hf, [], [], 0, .nil, by simp, by simp, by simp⟩
    · exact ⟨a, ha, hs, _, _, _, .snoc hq hb hf, by simp, by simp, by omega⟩
theorem take_lab {u : List Int} {i : Nat} {x : Int} (hi : i ≤ u.length) (h : ¬ (x ≠ 0 ∧ (i = u.length ∨ u.getD i 0 ≠ x))) : u.take (if x = 0 then i else i + 1) = u.take i ++ lab x := by
  unfold lab
  by_cases hx : x = 0
  · simp [hx]
  · have h1 : i ≠ u.length := fun e => h ⟨hx, .inl e⟩
    have h2 : u.getD i 0 = x := Classical.byContradiction fun e => h ⟨hx, .inr e⟩
    have h3 : i < u.length := by omega
    rw [if_neg hx, if_neg hx, List.take_succ_eq_append_getElem h3]
    simp [h3] at h2
    rw [h2]
theorem stp_take {u v : List Int} {a : Arc} {i j i' j' : Nat} (h : stp u v a i j = some (i', j')) (hi : i ≤ u.length) (hj : j ≤ v.length) : u.take i' = u.take i ++ lab a.i ∧ v.take j' = v.take j ++ lab a.o := by
  unfold stp at h
  by_cases h1 : a.i ≠ 0 ∧ (i = u.length ∨ u.getD i 0 ≠ a.i)
  · rw [if_pos h1] at h; cases h
  · rw [if_neg h1] at h
    by_cases h2 : a.o ≠ 0 ∧ (j = v.length ∨ v.getD j 0 ≠ a.o)
    · rw [if_pos h2] at h; cases h
    · rw [if_neg h2] at h
      simp only [Option.some.injEq, Prod.mk.injEq] at h
      obtain ⟨rfl, rfl⟩ := h
      exact ⟨take_lab hi h1, take_lab hj h2⟩
theorem stp_lab {u v u' v' : List Int} {a : Arc} (hu : u' ++ lab a.i <+: u) (hv : v' ++ lab a.o <+: v) : stp u v a u'.length v'.length = some ((u' ++ lab a.i).length, (v' ++ lab a.o).length) := by
  have key : ∀ (x : Int) (p w : List Int), p ++ lab x <+: w → ¬ (x ≠ 0 ∧ (p.length = w.length ∨ w.getD p.length 0 ≠ x)) := by
    rintro x p w ⟨r, rfl⟩ ⟨hx, hh⟩
    rw [lab, if_neg hx] at hh
    rcases hh with hh | hh
    · simp at hh
    · apply hh; simp
  unfold stp
  rw [if_neg (key _ _ _ hu), if_neg (key _ _ _ hv)]
  simp only [List.length_append, lab_len]
  congr 2
  · split <;> rfl
  · split <;> rfl
theorem rch_pw {m : Mach} {u v : List Int} {s i j d : Nat} (hr : ∀ a ∈ m.arcs, 0 ≤ a.t) (h : Rch m u v s i j d) : Pw m.arcs 0 (s : Int) (u.take i) (v.take j) d := by
  induction h with
  | start _ => exact Pw.nil
  | @step s i j d i' j' a h1 h2 h3 h4 ih =>
    obtain ⟨g1, g2⟩ := rch_in h1
    obtain ⟨k1, k2⟩ := stp_take h4 g1 g2
    have ht := hr a h2
    exact (Pw.snoc ih h2 h3).cast (by omega) k1.symm k2.symm rfl
theorem pw_rch {m : Mach} {t : Int} {u' v' : List Int} {d : Nat} (h0 : 0 < m.n) (hr : ∀ a ∈ m.arcs, 0 ≤ a.f) (h : Pw m.arcs 0 t u' v' d) : ∀ u v, u' <+: u → v' <+: v → Rch m u v t.toNat u'.length v'.length d := by
  induction h with
  | nil => exact fun u v _ _ => .start h0
  | @snoc t u' v' d a hp ha hf ih =>
    intro u v hu hv
    have h1 := ih u v ((List.prefix_append _ _).trans hu) ((List.prefix_append _ _).trans hv)
    have := hr a ha
    exact .step h1 ha (by omega) (stp_lab hu hv)
/-- What a machine accepts, by its paths. -/
theorem acc_pw {m : Mach} (hr : ∀ a ∈ m.arcs, 0 ≤ a.f ∧ 0 ≤ a.t) (hf : ∀ x ∈ m.fins, 0 ≤ x.s) {u v : List Int} {d : Nat} : Acc m u v d ↔ 0 < m.n ∧ ∃ x ∈ m.fins, ∃ e, Pw m.arcs 0 x.s u v e ∧ d = e + x.w.toNat := by
  constructor
  · rintro ⟨x, hx, e, he, rfl⟩
    have h0 : 0 < m.n := by
      have : ∀ {s i j d : Nat}, Rch m u v s i j d → 0 < m.n := by
        intro s i j d h
        induction h with
        | start h => exact h
        | step _ _ _ _ ih => exact ih
      exact this he
    have := hf x hx
    exact ⟨h0, x, hx, e, (rch_pw (fun a ha => (hr a ha).2) he).cast (by omega) (by simp) (by simp) rfl, rfl⟩
  · rintro ⟨h0, x, hx, e, he, rfl⟩
    exact ⟨x, hx, e, pw_rch h0 (fun a ha => (hr a ha).1) he u v (List.prefix_refl _) (List.prefix_refl _), rfl⟩
end Gm

/- Text RaP. -/
namespace Gm
set_option linter.unusedSimpArgs false
set_option linter.unusedVariables false
theorem least_congr {m m' : Mach} {u v u' v' : List Int} (h : ∀ d, Acc m u v d ↔ Acc m' u' v' d) {r : Int} (hl : Least m u v r) : Least m' u' v' r := by
  rcases hl with ⟨h1, h2⟩ | ⟨n, h1, h2, h3⟩
  · exact .inl ⟨h1, fun d hd => h2 d ((h d).2 hd)⟩
  · exact .inr ⟨n, h1, (h n).1 h2, fun d hd => h3 d ((h d).2 hd)⟩
theorem wgt_congr {m m' : Mach} {u v u' v' : List Int} (h : ∀ d, Acc m u v d ↔ Acc m' u' v' d) : wgt m u v = wgt m' u' v' :=
  wgt_eq (least_congr (fun d => (h d).symm) (wgt_least m' u' v'))
/-- A machine that is within its own states. -/
structure Rng (m : Mach) : Prop where
  arc : ∀ a ∈ m.arcs, 0 ≤ a.f ∧ a.f < m.n ∧ 0 ≤ a.t ∧ a.t < m.n
  fin : ∀ x ∈ m.fins, 0 ≤ x.s ∧ x.s < m.n
  wt : (∀ a ∈ m.arcs, 0 ≤ a.w) ∧ ∀ x ∈ m.fins, 0 ≤ x.w
  n0 : 0 ≤ m.n
theorem Rng.acc {m : Mach} (h : Rng m) {u v : List Int} {d : Nat} : Acc m u v d ↔ 0 < m.n ∧ ∃ x ∈ m.fins, ∃ e, Pw m.arcs 0 x.s u v e ∧ d = e + x.w.toNat :=
  acc_pw (fun a ha => ⟨(h.arc a ha).1, (h.arc a ha).2.2.1⟩) (fun x hx => (h.fin x hx).1)
def shA (k : Int) (a : Arc) : Arc := ⟨a.f + k, a.t + k, a.i, a.o, a.w⟩
def shF (k : Int) (x : Fnl) : Fnl := ⟨x.s + k, x.w⟩
def eps (f t w : Int) : Arc := ⟨f, t, 0, 0, w⟩
theorem pw_shift {A B : List Arc} {k s t : Int} {u v : List Int} {d : Nat} (h : Pw A s t u v d) (hB : ∀ a ∈ A, shA k a ∈ B) : Pw B (s + k) (t + k) u v d := by
  induction h with
  | nil => exact .nil
  | snoc _ ha hf ih => exact Pw.snoc ih (hB _ ha) (by rw [shA]; simp only; omega)
/-- A path that begins in a part stays in it. -/
theorem pw_stay {A B : List Arc} {k s t : Int} {u v : List Int} {d : Nat} (I : Int → Prop) (h : Pw B (s + k) t u v d) (hs : I s) (hI : ∀ a ∈ A, I a.t) (hB : ∀ b ∈ B, ∀ x, I x → b.f = x + k → ∃ a ∈ A, b = shA k a) : ∃ t', t = t' + k ∧ I t' ∧ Pw A s t' u v d := by
  induction h with
  | nil => exact ⟨s, rfl, hs, .nil⟩
  | @snoc t u v d b hp hb hf ih =>
    obtain ⟨t', rfl, ht, hq⟩ := ih
    obtain ⟨a, ha, rfl⟩ := hB _ hb t' ht hf
    exact ⟨a.t, rfl, hI a ha, .snoc hq ha (by simp only [shA] at hf; omega)⟩
/-! Union -/
def uniArcs (a b : Mach) : List Arc := (if 0 < a.n then [eps 0 1 0] else []) ++ (if 0 < b.n then [eps 0 (1 + a.n) 0] else []) ++ a.arcs.map (shA 1) ++ b.arcs.map (shA (1 + a.n))
def uniFins (a b : Mach) : List Fnl := a.fins.map (shF 1) ++ b.fins.map (shF (1 + a.n))
theorem mem_uni {a b : Mach} {x : Arc} : x ∈ uniArcs a b ↔ (0 < a.n ∧ x = eps 0 1 0) ∨ (0 < b.n ∧ x = eps 0 (1 + a.n) 0) ∨ (∃ y ∈ a.arcs, x = shA 1 y) ∨ ∃ y ∈ b.arcs, x = shA (1 + a.n) y := by
  unfold uniArcs
  simp only [List.mem_append, List.mem_map]
  by_cases h1 : 0 < a.n <;> by_cases h2 : 0 < b.n <;> simp [h1, h2, eq_comm, or_assoc]
theorem rng_uni {a b : Mach} {A : List Arc} (ha : Rng a) (hb : Rng b) (hA : ∀ x, x ∈ A ↔ x ∈ uniArcs a b) : Rng ⟨1 + a.n + b.n, A, uniFins a b⟩ where
  arc := by
    intro x hx
    have := ha.n0; have := hb.n0
    rcases mem_uni.1 ((hA x).1 hx) with ⟨h, rfl⟩ | ⟨h, rfl⟩ | ⟨y, hy, rfl⟩ | ⟨y, hy, rfl⟩
    · simp only [eps]; omega
    · simp only [eps]; omega
    · have := ha.arc y hy; simp only [shA]; omega
    · have := hb.arc y hy; simp only [shA]; omega
  fin := by
    intro x hx
    have := ha.n0; have := hb.n0
    rcases List.mem_append.1 hx with hx | hx <;> obtain ⟨y, hy, rfl⟩ := List.mem_map.1 hx
    · have := ha.fin y hy; simp only [shF]; omega
    · have := hb.fin y hy; simp only [shF]; omega
  wt := by
    constructor
    · intro x hx
      rcases mem_uni.1 ((hA x).1 hx) with ⟨h, rfl⟩ | ⟨h, rfl⟩ | ⟨y, hy, rfl⟩ | ⟨y, hy, rfl⟩
      · simp only [eps]; omega
      · simp only [eps]; omega
      · exact ha.wt.1 y hy
      · exact hb.wt.1 y hy
    · intro x hx
      rcases List.mem_append.1 hx with hx | hx <;> obtain ⟨y, hy, rfl⟩ := List.mem_map.1 hx
      · exact ha.wt.2 y hy
      · exact hb.wt.2 y hy
  n0 := by have := ha.n0; have := hb.n0; simp only; omega
theorem acc_uni {a b : Mach} {A : List Arc} (ha : Rng a) (hb : Rng b) (hA : ∀ x, x ∈ A ↔ x ∈ uniArcs a b) {u v : List Int} {d : Nat} : Acc ⟨1 + a.n + b.n, A, uniFins a b⟩ u v d ↔ Acc a u v d ∨ Acc b u v d := by
  have an := ha.n0
  have bn := hb.n0
  rw [(rng_uni ha hb hA).acc, ha.acc, hb.acc]
  have stayA : ∀ {t : Int} {u v : List Int} {d : Nat}, 0 < a.n → Pw A 1 t u v d → ∃ t', t = t' + 1 ∧ (0 ≤ t' ∧ t' < a.n) ∧ Pw a.arcs 0 t' u v d := fun h0 hp =>
    pw_stay (k := 1) (s := 0) (fun x => 0 ≤ x ∧ x < a.n) (by simpa using hp) (by omega) (fun x hx => by have := ha.arc x hx; omega) (fun x hx y hy hf => by
      rcases mem_uni.1 ((hA x).1 hx) with ⟨h, rfl⟩ | ⟨h, rfl⟩ | ⟨z, hz, rfl⟩ | ⟨z, hz, rfl⟩
      · simp only [eps] at hf; omega
      · simp only [eps] at hf; omega
      · exact ⟨z, hz, rfl⟩
      · have := hb.arc z hz; simp only [shA] at hf; omega)
  have stayB : ∀ {t : Int} {u v : List Int} {d : Nat}, 0 < b.n → Pw A (1 + a.n) t u v d → ∃ t', t = t' + (1 + a.n) ∧ (0 ≤ t' ∧ t' < b.n) ∧ Pw b.arcs 0 t' u v d := fun h0 hp =>
    pw_stay (k := 1 + a.n) (s := 0) (fun x => 0 ≤ x ∧ x < b.n) (by simpa using hp) (by omega) (fun x hx => by have := hb.arc x hx; omega) (fun x hx y hy hf => by
      rcases mem_uni.1 ((hA x).1 hx) with ⟨h, rfl⟩ | ⟨h, rfl⟩ | ⟨z, hz, rfl⟩ | ⟨z, hz, rfl⟩
      · simp only [eps] at hf; omega
      · simp only [eps] at hf; omega
      · have := ha.arc z hz; simp only [shA] at hf; omega
      · exact ⟨z, hz, rfl⟩)
  constructor
  · rintro ⟨_, x, hx, e, hp, rfl⟩
    have hx1 : 1 ≤ x.s := by
      rcases List.mem_append.1 hx with hx | hx <;> obtain ⟨y, hy, rfl⟩ := List.mem_map.1 hx
      · have := ha.fin y hy; simp only [shF]; omega
      · have := hb.fin y hy; simp only [shF]; omega
    rcases hp.cons with ⟨h, _⟩ | ⟨c, hc, hf, u', v', d', hq, rfl, rfl, rfl⟩
    · omega
    · rcases mem_uni.1 ((hA c).1 hc) with ⟨h, rfl⟩ | ⟨h, rfl⟩ | ⟨z, hz, rfl⟩ | ⟨z, hz, rfl⟩
      · left
        obtain ⟨t', ht, hr, hw⟩ := stayA h hq
        refine ⟨h, ?_⟩
        rcases List.mem_append.1 hx with hx | hx <;> obtain ⟨y, hy, rfl⟩ := List.mem_map.1 hx
        · exact ⟨y, hy, d', hw.cast (by simp only [shF] at ht; omega) (by simp [eps, lab]) (by simp [eps, lab]) rfl, by simp [eps, shF]⟩
        · have := hb.fin y hy; simp only [shF] at ht; omega
      · right
        obtain ⟨t', ht, hr, hw⟩ := stayB h hq
        refine ⟨h, ?_⟩
        rcases List.mem_append.1 hx with hx | hx <;> obtain ⟨y, hy, rfl⟩ := List.mem_map.1 hx
        · have := ha.fin y hy; simp only [shF] at ht; omega
        · exact ⟨y, hy, d', hw.cast (by simp only [shF] at ht; omega) (by simp [eps, lab]) (by simp [eps, lab]) rfl, by simp [eps, shF]⟩
      · have := ha.arc z hz; simp only [shA] at hf; omega
      · have := hb.arc z hz; simp only [shA] at hf; omega
  · rintro (⟨h0, x, hx, e, hp, rfl⟩ | ⟨h0, x, hx, e, hp, rfl⟩)
    · have h1 := (Pw.one ((hA _).2 (mem_uni.2 (.inl ⟨h0, rfl⟩)))).trans ((pw_shift (k := 1) (B := A) hp (fun y hy => (hA _).2 (mem_uni.2 (.inr (.inr (.inl ⟨y, hy, rfl⟩)))))).cast rfl rfl rfl rfl)
      exact ⟨by show (0 : Int) < 1 + a.n + b.n; omega, shF 1 x, List.mem_append.2 (.inl (List.mem_map.2 ⟨x, hx, rfl⟩)), e, h1.cast rfl (by simp [eps, lab]) (by simp [eps, lab]) (by simp [eps]), rfl⟩
    · have h2 := pw_shift (k := 1 + a.n) (B := A) hp (fun y hy => (hA _).2 (mem_uni.2 (.inr (.inr (.inr ⟨y, hy, rfl⟩)))))
      rw [show (0 : Int) + (1 + a.n) = 1 + a.n by omega] at h2
      have h1 := (Pw.one ((hA _).2 (mem_uni.2 (.inr (.inl ⟨h0, rfl⟩))))).trans h2
      exact ⟨by show (0 : Int) < 1 + a.n + b.n; omega, shF (1 + a.n) x, List.mem_append.2 (.inr (List.mem_map.2 ⟨x, hx, rfl⟩)), e, h1.cast rfl (by simp [eps, lab]) (by simp [eps, lab]) (by simp [eps]), rfl⟩
/-! Concatenation -/
def catArcs (a b : Mach) : List Arc := a.arcs ++ b.arcs.map (shA a.n) ++ a.fins.map (fun x => eps x.s a.n x.w)
def catFins (a b : Mach) : List Fnl := b.fins.map (shF a.n)
theorem mem_cat {a b : Mach} {x : Arc} : x ∈ catArcs a b ↔ x ∈ a.arcs ∨ (∃ y ∈ b.arcs, x = shA a.n y) ∨ ∃ y ∈ a.fins, x = eps y.s a.n y.w := by
  unfold catArcs
  simp only [List.mem_append, List.mem_map, eq_comm, or_assoc]
theorem rng_cat {a b : Mach} {A : List Arc} (ha : Rng a) (hb : Rng b) (hb0 : 0 < b.n) (hA : ∀ x, x ∈ A ↔ x ∈ catArcs a b) : Rng ⟨a.n + b.n, A, catFins a b⟩ where
  arc := by
    intro x hx
    have := ha.n0; have := hb.n0
    rcases mem_cat.1 ((hA x).1 hx) with hy | ⟨y, hy, rfl⟩ | ⟨y, hy, rfl⟩
    · have := ha.arc x hy; simp only; omega
    · have := hb.arc y hy; simp only [shA]; omega
    · have := ha.fin y hy; simp only [eps]; omega
  fin := by
    intro x hx
    have := ha.n0
    obtain ⟨y, hy, rfl⟩ := List.mem_map.1 hx
    have := hb.fin y hy; simp only [shF]; omega
  wt := by
    constructor
    · intro x hx
      rcases mem_cat.1 ((hA x).1 hx) with hy | ⟨y, hy, rfl⟩ | ⟨y, hy, rfl⟩
      · exact ha.wt.1 x hy
      · exact hb.wt.1 y hy
      · exact ha.wt.2 y hy
    · intro x hx
      obtain ⟨y, hy, rfl⟩ := List.mem_map.1 hx
      exact hb.wt.2 y hy
  n0 := by have := ha.n0; have := hb.n0; simp only; omega
theorem acc_cat {a b : Mach} {A : List Arc} (ha : Rng a) (hb : Rng b) (ha0 : 0 < a.n) (hb0 : 0 < b.n) (hA : ∀ x, x ∈ A ↔ x ∈ catArcs a b) {u v : List Int} {d : Nat} :
    Acc ⟨a.n + b.n, A, catFins a b⟩ u v d ↔ ∃ u1 u2 v1 v2 d1 d2, u = u1 ++ u2 ∧ v = v1 ++ v2 ∧ d = d1 + d2 ∧ Acc a u1 v1 d1 ∧ Acc b u2 v2 d2 := by
  rw [(rng_cat ha hb hb0 hA).acc]
  simp only [ha.acc, hb.acc]
  have key : ∀ {t : Int} {u v : List Int} {d : Nat}, Pw A 0 t u v d → (t < a.n ∧ Pw a.arcs 0 t u v d) ∨ ∃ t', t = t' + a.n ∧ 0 ≤ t' ∧ ∃ x ∈ a.fins, ∃ u1 u2 v1 v2 d1 d2, Pw a.arcs 0 x.s u1 v1 d1 ∧ Pw b.arcs 0 t' u2 v2 d2 ∧ u = u1 ++ u2 ∧ v = v1 ++ v2 ∧ d = d1 + x.w.toNat + d2 := by
    intro t u v d h
    induction h with
    | nil => exact .inl ⟨ha0, .nil⟩
    | @snoc t u v d c hp hc hf ih =>
      rcases ih with ⟨h1, h2⟩ | ⟨t', rfl, ht, x, hx, u1, u2, v1, v2, d1, d2, h1, h2, rfl, rfl, rfl⟩
      · rcases mem_cat.1 ((hA c).1 hc) with hy | ⟨y, hy, rfl⟩ | ⟨y, hy, rfl⟩
        · exact .inl ⟨(ha.arc c hy).2.2.2, .snoc h2 hy hf⟩
        · have := hb.arc y hy; simp only [shA] at hf; omega
        · right
          exact ⟨0, by simp only [eps]; omega, Int.le_refl _, y, hy, u, [], v, [], d, 0, h2.cast (by simp only [eps] at hf; omega) rfl rfl rfl, .nil, by simp [eps, lab], by simp [eps, lab], by simp [eps]⟩
      · right
        rcases mem_cat.1 ((hA c).1 hc) with hy | ⟨y, hy, rfl⟩ | ⟨y, hy, rfl⟩
        · have := ha.arc c hy; omega
        · have := hb.arc y hy
          exact ⟨y.t, rfl, this.2.2.1, x, hx, u1, _, v1, _, d1, _, h1, .snoc h2 hy (by simp only [shA] at hf; omega), by simp [shA], by simp [shA], by simp [shA]; omega⟩
        · have := ha.fin y hy; simp only [eps] at hf; omega
  constructor
  · rintro ⟨_, x, hx, e, hp, rfl⟩
    obtain ⟨y, hy, rfl⟩ := List.mem_map.1 hx
    have hyr := hb.fin y hy
    rcases key hp with ⟨h1, h2⟩ | ⟨t', ht, ht0, x, hx, u1, u2, v1, v2, d1, d2, h1, h2, rfl, rfl, rfl⟩
    · simp only [shF] at h1; omega
    · exact ⟨u1, u2, v1, v2, d1 + x.w.toNat, d2 + y.w.toNat, rfl, rfl, by simp only [shF]; omega, ⟨ha0, x, hx, d1, h1, rfl⟩, ⟨hb0, y, hy, d2, h2.cast (by simp only [shF] at ht; omega) rfl rfl rfl, rfl⟩⟩
  · rintro ⟨u1, u2, v1, v2, d1, d2, rfl, rfl, rfl, ⟨_, x, hx, e, hp, rfl⟩, ⟨_, y, hy, e', hp', rfl⟩⟩
    have g1 := hp.mono (B := A) (fun z hz => (hA z).2 (mem_cat.2 (.inl hz)))
    have g2 := Pw.one (A := A) ((hA _).2 (mem_cat.2 (.inr (.inr ⟨x, hx, rfl⟩))))
    have g3 := pw_shift (k := a.n) (B := A) hp' (fun z hz => (hA _).2 (mem_cat.2 (.inr (.inl ⟨z, hz, rfl⟩))))
    rw [show (0 : Int) + a.n = a.n by omega] at g3
    have g4 := g1.trans (g2.trans g3)
    have := ha.n0; have := hb.n0
    exact ⟨by show (0 : Int) < a.n + b.n; omega, shF a.n y, List.mem_map.2 ⟨y, hy, rfl⟩, e + x.w.toNat + e', g4.cast rfl (by simp [eps, lab]) (by simp [eps, lab]) (by simp [eps]; omega), by simp only [shF]; omega⟩
/-! Repetition -/
def starArcs (m : Mach) : List Arc := (if 0 < m.n then [eps 0 1 0] else []) ++ m.arcs.map (shA 1) ++ m.fins.map (fun x => eps (1 + x.s) 0 x.w)
theorem mem_star {m : Mach} {x : Arc} : x ∈ starArcs m ↔ (0 < m.n ∧ x = eps 0 1 0) ∨ (∃ y ∈ m.arcs, x = shA 1 y) ∨ ∃ y ∈ m.fins, x = eps (1 + y.s) 0 y.w := by
  unfold starArcs
  simp only [List.mem_append, List.mem_map]
  by_cases h1 : 0 < m.n <;> simp [h1, eq_comm, or_assoc]
theorem rng_star {m : Mach} {A : List Arc} (hm : Rng m) (hA : ∀ x, x ∈ A ↔ x ∈ starArcs m) : Rng ⟨1 + m.n, A, [⟨0, 0⟩]⟩ where
  arc := by
    intro x hx
    have := hm.n0
    rcases mem_star.1 ((hA x).1 hx) with ⟨h, rfl⟩ | ⟨y, hy, rfl⟩ | ⟨y, hy, rfl⟩
    · simp only [eps]; omega
    · have := hm.arc y hy; simp only [shA]; omega
    · have := hm.fin y hy; simp only [eps]; omega
  fin := by
    intro x hx
    have := hm.n0
    simp only [List.mem_singleton] at hx
    subst hx; simp only; omega
  wt := by
    constructor
    · intro x hx
      rcases mem_star.1 ((hA x).1 hx) with ⟨h, rfl⟩ | ⟨y, hy, rfl⟩ | ⟨y, hy, rfl⟩
      · simp only [eps]; omega
      · exact hm.wt.1 y hy
      · exact hm.wt.2 y hy
    · intro x hx
      simp only [List.mem_singleton] at hx
      subst hx; simp
  n0 := by have := hm.n0; simp only; omega
/-- Pairs of a machine put together, any number of them. -/
inductive Rep (m : Mach) : List Int → List Int → Nat → Prop
  | nil : Rep m [] [] 0
  | snoc {u v u' v' : List Int} {d d' : Nat} : Rep m u v d → Acc m u' v' d' → Rep m (u ++ u') (v ++ v') (d + d')
theorem acc_star {m : Mach} {A : List Arc} (hm : Rng m) (hA : ∀ x, x ∈ A ↔ x ∈ starArcs m) {u v : List Int} {d : Nat} : Acc ⟨1 + m.n, A, [⟨0, 0⟩]⟩ u v d ↔ Rep m u v d := by
  have mn := hm.n0
  rw [(rng_star hm hA).acc]
  have key : ∀ {t : Int} {u v : List Int} {d : Nat}, Pw A 0 t u v d → (t = 0 ∧ Rep m u v d) ∨ ∃ t', t = t' + 1 ∧ 0 ≤ t' ∧ ∃ u1 u2 v1 v2 d1 d2, 0 < m.n ∧ Rep m u1 v1 d1 ∧ Pw m.arcs 0 t' u2 v2 d2 ∧ u = u1 ++ u2 ∧ v = v1 ++ v2 ∧ d = d1 + d2 := by
    intro t u v d h
    induction h with
    | nil => exact .inl ⟨rfl, .nil⟩
    | @snoc t u v d c hp hc hf ih =>
      rcases ih with ⟨rfl, h2⟩ | ⟨t', rfl, ht, u1, u2, v1, v2, d1, d2, h0, h1, h2, rfl, rfl, rfl⟩
      · rcases mem_star.1 ((hA c).1 hc) with ⟨h, rfl⟩ | ⟨y, hy, rfl⟩ | ⟨y, hy, rfl⟩
        · right
          exact ⟨0, by simp only [eps]; omega, Int.le_refl _, u, [], v, [], d, 0, h, h2, .nil, by simp [eps, lab], by simp [eps, lab], by simp [eps]⟩
        · have := hm.arc y hy; simp only [shA] at hf; omega
        · have := hm.fin y hy; simp only [eps] at hf; omega
      · rcases mem_star.1 ((hA c).1 hc) with ⟨h, rfl⟩ | ⟨y, hy, rfl⟩ | ⟨y, hy, rfl⟩
        · simp only [eps] at hf; omega
        · right
          exact ⟨y.t, rfl, (hm.arc y hy).2.2.1, u1, _, v1, _, d1, _, h0, h1, .snoc h2 hy (by simp only [shA] at hf; omega), by simp [shA], by simp [shA], by simp [shA]; omega⟩
        · left
          refine ⟨rfl, ?_⟩
          have h3 : Acc m u2 v2 (d2 + y.w.toNat) := hm.acc.2 ⟨h0, y, hy, d2, h2.cast (by simp only [eps] at hf; omega) rfl rfl rfl, rfl⟩
          have h4 := Rep.snoc h1 h3
          simpa [eps, lab, Nat.add_assoc] using h4
  constructor
  · rintro ⟨_, x, hx, e, hp, rfl⟩
    simp only [List.mem_singleton] at hx
    subst hx
    rcases key hp with ⟨_, h⟩ | ⟨t', ht, h0, _⟩
    · simpa using h
    · simp only at ht; omega
  · intro h
    refine ⟨by show (0 : Int) < 1 + m.n; omega, ⟨0, 0⟩, by simp, d, ?_, by simp⟩
    show Pw A 0 0 u v d
    induction h with
    | nil => exact .nil
    | @snoc u v u' v' d d' h1 h2 ih =>
      obtain ⟨h0, x, hx, e, hp, rfl⟩ := hm.acc.1 h2
      have g1 := Pw.one (A := A) ((hA _).2 (mem_star.2 (.inl ⟨h0, rfl⟩)))
      have g2 := pw_shift (k := 1) (B := A) hp (fun z hz => (hA _).2 (mem_star.2 (.inr (.inl ⟨z, hz, rfl⟩))))
      have g3 := Pw.one (A := A) ((hA _).2 (mem_star.2 (.inr (.inr ⟨x, hx, rfl⟩))))
      have g2' : Pw A 1 (1 + x.s) u' v' e := g2.cast (by omega) rfl rfl rfl
      have g4 := ih.trans (g1.trans (g2'.trans g3))
      exact g4.cast rfl (by simp [eps, lab]) (by simp [eps, lab]) (by simp [eps])
end Gm

/- Text WtT. -/
namespace Gm
set_option linter.unusedSimpArgs false
set_option linter.unusedVariables false
theorem rng_valid {m : Mach} (h : Valid m) : Rng m where
  arc := fun a ha => by have := okArc_iff (h.okA ha); omega
  fin := fun x hx => by have := okFin_iff (h.okF hx); omega
  wt := ⟨fun a ha => by have := okArc_iff (h.okA ha); omega, fun x hx => by have := okFin_iff (h.okF hx); omega⟩
  n0 := h.n0
theorem pw_RSf {A : List Arc} {s t : Int} {u v : List Int} {d : Nat} {I : List Int} (h : Pw A s t u v d) (hs : RS false A I s) : RS false A I t := by
  induction h with
  | nil => exact hs
  | @snoc t u v d a _ ha hf ih => exact .step (a := a) ih ha hf rfl
theorem pw_RSb {A : List Arc} {s t : Int} {u v : List Int} {d : Nat} {I : List Int} (h : Pw A s t u v d) : RS true A I t → RS true A I s := by
  induction h with
  | nil => exact id
  | @snoc t u v d a _ ha hf ih => exact fun hs => ih (.step (a := a) hs ha rfl hf)
theorem num_inj {m : Mach} {x y : Int} (hx : 0 ≤ x) (hy : 0 ≤ y) (kx : keepK m x.toNat = true) (ky : keepK m y.toNat = true) (e : (cntK (keepK m) x.toNat : Int) = (cntK (keepK m) y.toNat : Int)) : x = y := by
  rcases Int.lt_trichotomy x y with hlt | heq | hlt
  · have := num_mono hx kx hlt; omega
  · exact heq
  · have := num_mono hy ky hlt; omega
section
variable {m : Mach} (h : Valid m)
include h
theorem pw_part {t : Int} {u v : List Int} {d : Nat} (hp : Pw m.arcs 0 t u v d) : RS true m.arcs (finStates m.fins) t → Pw (partM m (keepK m)).arcs 0 (cntK (keepK m) t.toNat : Int) u v d := by
  induction hp with
  | nil => intro _; exact Pw.nil.cast (by simp [cntK]) rfl rfl rfl
  | @snoc t u v d a hp ha hf ih =>
    intro ht
    have hb : RS true m.arcs (finStates m.fins) t := .step (a := a) ht ha rfl hf
    have hft : RS false m.arcs [0] t := pw_RSf hp (.base (by simp))
    have hsr := RS_rngB h hb
    have htr := RS_rngB h ht
    have k1 := keep_of hsr.1 hft hb
    have k2 := keep_of htr.1 (.step (a := a) hft ha hf rfl) ht
    have g := Pw.snoc (ih hb) (mem_part ha (by rw [hf]; exact k1) k2) (by show ((cntK (keepK m) a.f.toNat : Nat) : Int) = _; rw [hf])
    exact g
theorem part_pw (hk : keepK m 0 = true) {t : Int} {u v : List Int} {d : Nat} (hp : Pw (partM m (keepK m)).arcs 0 t u v d) : ∃ s, 0 ≤ s ∧ keepK m s.toNat = true ∧ t = (cntK (keepK m) s.toNat : Int) ∧ Pw m.arcs 0 s u v d := by
  induction hp with
  | nil => exact ⟨0, Int.le_refl _, hk, by simp [cntK], .nil⟩
  | @snoc t u v d a hp ha hf ih =>
    obtain ⟨s, hs, ks, rfl, hq⟩ := ih
    obtain ⟨b, hb, rfl⟩ := List.mem_map.1 ha
    obtain ⟨hb1, hb2⟩ := List.mem_filter.1 hb
    simp only [Bool.and_eq_true] at hb2
    have hr := (rng_valid h).arc b hb1
    have e : b.f = s := num_inj hr.1 hs hb2.1 ks hf
    exact ⟨b.t, hr.2.2.1, hb2.2, rfl, .snoc hq hb1 e⟩
theorem acc_trim {u v : List Int} {d : Nat} : Acc (trimOf m) u v d ↔ Acc m u v d := by
  have ht := rng_valid (trim_valid h)
  rw [ht.acc, (rng_valid h).acc]
  unfold trimOf
  by_cases hn : m.n = 0
  · rw [if_pos (.inl hn)]
    simp [emptyM, hn]
  · have h0 : 0 < m.n.toNat := by have := h.n0; omega
    have h0' : 0 < m.n := by omega
    cases hk : keepK m 0
    · rw [if_pos (.inr rfl)]
      constructor
      · rintro ⟨hh, _⟩; simp [emptyM] at hh
      · rintro ⟨_, x, hx, e, hp, rfl⟩
        exfalso
        have hb := pw_RSb hp (.base (I := finStates m.fins) (List.mem_map.2 ⟨x, hx, rfl⟩))
        have := (keepK_iff (m := m) (s := 0)).2 ⟨.base (by simp), hb⟩
        rw [hk] at this; cases this
    · rw [if_neg (by simp [hn])]
      have hpn : 0 < (partM m (keepK m)).n := by
        have h1 := cntK_strict (K := keepK m) (s := 0) (t := m.n.toNat) h0 hk
        show (0 : Int) < ((cntK (keepK m) m.n.toNat : Nat) : Int)
        omega
      constructor
      · rintro ⟨_, x, hx, e, hp, rfl⟩
        obtain ⟨y, hy, rfl⟩ := List.mem_map.1 hx
        obtain ⟨hy1, hy2⟩ := List.mem_filter.1 hy
        obtain ⟨s, hs, ks, he, hq⟩ := part_pw h hk hp
        have hr := (rng_valid h).fin y hy1
        have e1 : y.s = s := num_inj hr.1 hs hy2 ks he
        exact ⟨h0', y, hy1, e, hq.cast e1.symm rfl rfl rfl, rfl⟩
      · rintro ⟨_, x, hx, e, hp, rfl⟩
        have hb : RS true m.arcs (finStates m.fins) x.s := .base (List.mem_map.2 ⟨x, hx, rfl⟩)
        have hf := pw_RSf hp (.base (I := [0]) (by simp))
        have hr := (rng_valid h).fin x hx
        have k1 := keep_of hr.1 hf hb
        exact ⟨hpn, partFin (keepK m) x, List.mem_map.2 ⟨x, List.mem_filter.2 ⟨hx, k1⟩, rfl⟩, e, pw_part h hp hb, rfl⟩
theorem wgt_trim (u v : List Int) : wgt (trimOf m) u v = wgt m u v := wgt_congr fun _ => acc_trim h
end
end Gm

/- Text CuW. -/
namespace Go.Proofs.Ytopakcbhodnipaa
open Go.RowKit Gm
set_option linter.unusedSimpArgs false
set_option linter.unusedVariables false
theorem rd_take {W : World} {B n k : Nat} {A : Option Addr} {l : List Int} (h : Rd W B 1 A n (intCell l)) (hk : k ≤ n) : Rd W B 1 A k (intCell (l.take k)) := fun h0 => by
  obtain ⟨b, off, e, hb, hc⟩ := h (by omega)
  refine ⟨b, off, e, hb, fun i j hi hj => ?_⟩
  rw [hc i j (by omega) hj]
  unfold intCell
  rw [List.getD_eq_getElem?_getD, List.getD_eq_getElem?_getD, List.getElem?_take_of_lt hi]
theorem rd_drop {W : World} {B n k : Nat} {A : Option Addr} {l : List Int} (h : Rd W B 1 A n (intCell l)) (hk : k ≤ n) (hn : k < n) : Rd W B 1 (A.map (·.add k)) (n - k) (intCell (l.drop k)) := fun h0 => by
  obtain ⟨b, off, rfl, hb, hc⟩ := h (by omega)
  refine ⟨b, off + k, by simp [Addr.add], hb, fun i j hi hj => ?_⟩
  have := hc (k + i) j (by omega) hj
  unfold intCell at this ⊢
  rw [List.getD_eq_getElem?_getD] at this ⊢
  rw [List.getElem?_drop, ← this]
  congr 2
  omega
theorem cut_take {A : Option Addr} {n c k : Nat} (hk : k ≤ n) (hc : n ≤ c) (hb : n ≤ big) : ∃ V, (∀ W : World, (Instr.slice 22 (.slice A n c) none (some (.int .i64 (k : Int))) none).run Try.prog W = .ok V W) ∧ ∀ W B l, Nums W B (.slice A n c) l → Nums W B V (l.take k) := by
  refine ⟨sliced A 0 k c 1, fun W => ?_, fun W B l h => ?_⟩
  · have h1 : (k : Int) ≤ (c : Int) := by omega
    have h0 : (0 : Int) ≤ (k : Int) := by omega
    go_simp
  · obtain ⟨A', n', c', e, h1, h2, h3, h4⟩ := h
    injection e with e1 e2 e3
    subst e1 e2 e3
    have e : sliced A 0 k c 1 = .slice (if c = 0 then A else A.map (·.add 0)) k c := by simp [sliced]
    have eA : (if c = 0 then A else A.map (·.add 0)) = A := by
      split
      · rfl
      · cases A <;> simp [Addr.add]
    rw [e, eA]
    exact ⟨A, k, c, rfl, hide (by rw [List.length_take, h1.out]; omega), by omega, by omega, rd_take h4 hk⟩
theorem cut_drop {A : Option Addr} {n c k : Nat} (hk : k ≤ n) (hc : n ≤ c) (hb : n ≤ big) : ∃ V, (∀ W : World, (Instr.slice 22 (.slice A n c) (some (.int .i64 (k : Int))) none none).run Try.prog W = .ok V W) ∧ ∀ W B l, Nums W B (.slice A n c) l → Nums W B V (l.drop k) := by
  refine ⟨sliced A k n c 1, fun W => ?_, fun W B l h => ?_⟩
  · have h1 : (k : Int) ≤ (n : Int) := by omega
    have h0 : (0 : Int) ≤ (k : Int) := by omega
    go_simp
  · obtain ⟨A', n', c', e, h1, h2, h3, h4⟩ := h
    injection e with e1 e2 e3
    subst e1 e2 e3
    have e : sliced A k n c 1 = .slice (if c = k then A else A.map (·.add k)) (n - k) (c - k) := by simp [sliced]
    rw [e]
    refine ⟨_, n - k, c - k, rfl, hide (by rw [List.length_drop, h1.out]), by omega, by omega, ?_⟩
    by_cases hn : k < n
    · rw [if_neg (by omega)]; exact rd_drop h4 hk hn
    · have : n - k = 0 := by omega
      rw [this]; exact Rd.zero
theorem cut_mid {A : Option Addr} {n c k p : Nat} (hp : p ≤ k) (hk : k ≤ n) (hc : n ≤ c) (hb : n ≤ big) : ∃ V, (∀ W : World, (Instr.slice 22 (.slice A n c) (some (.int .i64 (p : Int))) (some (.int .i64 (k : Int))) none).run Try.prog W = .ok V W) ∧ ∀ W B l, Nums W B (.slice A n c) l → Nums W B V ((l.take k).drop p) := by
  refine ⟨sliced A p k c 1, fun W => ?_, fun W B l h => ?_⟩
  · have h1 : (k : Int) ≤ (c : Int) := by omega
    have h2 : (p : Int) ≤ (k : Int) := by omega
    have h0 : (0 : Int) ≤ (p : Int) := by omega
    go_simp
  · obtain ⟨A', n', c', e, h1, h2, h3, h4⟩ := h
    injection e with e1 e2 e3
    subst e1 e2 e3
    have e : sliced A p k c 1 = .slice (if c = p then A else A.map (·.add p)) (k - p) (c - p) := by simp [sliced]
    rw [e]
    refine ⟨_, k - p, c - p, rfl, hide (by rw [List.length_drop, List.length_take, h1.out]; omega), by omega, by omega, ?_⟩
    by_cases hn : p < k
    · rw [if_neg (by omega)]; exact rd_drop (rd_take h4 hk) hp hn
    · have : k - p = 0 := by omega
      rw [this]; exact Rd.zero
end Go.Proofs.Ytopakcbhodnipaa

/- Text RwG. -/
namespace Go.Proofs.Ytopakcbhodnipaa
open Go.ChangeShapes Go.WideShapes Go.ChangeAt Go.RowKit Gm
set_option linter.unusedVariables false
section
variable {H : Type} {enc : TypeId × Value → H} {P : Program}
theorem post_of_below {f : Func} {s : ChangeSpec} {apart fresh handsOn again : Bool} {W W' : World} {args : Array Value} {v : Value} {ds gs : List (DataW H)} {before pa pv : List MemPlace}
    (hW : DataW.Whole enc P f.params.toList s.vars apart W args.toList ds gs before)
    (hres : ∀ (b : Nat) (sp : Nat → Bool) (hd : Bool), DataW.TrodAll enc P W' b sp hd f.resultTypes.toList (v.resultList f.resultTypes.size) (s.fn H (ds ++ gs)).results [])
    (hargs : ∀ sp : Nat → Bool, (∀ p ∈ before, sp p.block = true) → DataW.TrodAll enc P W' 0 sp true f.params.toList args.toList (s.fn H (ds ++ gs)).args pa)
    (hvars : ∀ sp : Nat → Bool, (∀ p ∈ before, sp p.block = true) → DataW.TrodVars enc P W' sp s.vars (s.fn H (ds ++ gs)).vars pv)
    (hps : before = pa ++ pv) (hb : Below W.heap.size W W')
    (hok : ∀ (j : Nat) (t : TypeId) (r : Value), f.resultTypes[j]? = some t → (v.resultList f.resultTypes.size)[j]? = some r → Value.okWide P W' .any 0 t r) :
    s.post enc P f apart fresh handsOn again W args v W' := by
  have hlt : ∀ p ∈ before, p.block < W.heap.size := fun p hp => hW.lt p hp
  have hold : ∀ p ∈ before, (fun b => decide (b < W.heap.size)) p.block = true := fun p hp => by simpa using hlt p hp
  refine ⟨ds, gs, before, [], pa, pv, hW, hres _ _ _, hargs _ hold, hvars _ hold, World.keptBut_mono (fun p hp => ⟨hp, ?_⟩) (hb.frame (· ∈ before)), fun _ => ?_⟩
  · rw [hps, List.mem_append] at hp
    exact Or.inr hp
  · obtain ⟨_, _, _, _, _, hz, hn⟩ := hW
    refine ⟨hok, _, _, ([] ++ pa) ++ pv, ⟨[] ++ pa, pv, trodAll_append (hargs _ (fun _ _ => rfl)) (hres _ _ _), hvars _ (fun _ _ => rfl), rfl, ?_, ?_⟩, ?_⟩
    · intro b off hp
      have hin : MemPlace.cell b off ∈ before := by rw [hps]; simpa using hp
      rw [hb.frozen (hlt _ hin)]
      exact hz b off hin
    · intro ha
      have := hn ha
      rw [hps] at this
      simpa using this
    · intro p hp _
      rw [hps]
      simpa using hp
end
theorem own' : ownKnob Try.prog.godebug = none := by kernel_rfl
theorem laidOut' : laidOutB Try.prog = true := by kernel_rfl
theorem cells_int : Try.prog.cellsOf 3 = 1 := by kernel_rfl
theorem bytes_int : Try.prog.bytesOf 3 = 8 := by kernel_rfl
section
variable {H : Type} {enc : TypeId × Value → H} {w : World} {base : Nat} {spare : Nat → Bool} {held : Bool}
theorem cell_plain {w : World} {a : Addr} {v : Value} (h : w.cell? a = some v) : a.spot = none ∧ a.block < w.heap.size := by
  unfold World.cell? at h
  split at h
  · rename_i hb
    refine ⟨?_, (Array.getElem?_eq_some_iff.1 hb).1⟩
    split at h
    · cases h
    · rename_i hs; simpa using hs
  · cases h
set_option maxRecDepth 100000 in
theorem nums_open {r : Reach} {b0 : Nat} {v : Value} {d : DataW H} {p : List MemPlace} {ts : List TypeId} {ds : List (DataW H)} {j : Nat} (hv : Value.okWide Try.prog w r b0 22 v) (h : DataW.Trod enc Try.prog w base spare held 22 v d p)
    (hs : (DataW.weightsEach Try.prog ts ds).all (· ≤ reachBytes) = true) (ht : ts[j]? = some 22) (hd : ds[j]? = some d) : ∃ l, Nums w w.heap.size v l := by
  obtain ⟨a0, len, cap, rfl⟩ := okWide_slice Try.underlying22 hv
  obtain ⟨fuel, hf⟩ := h
  rcases open_ints Try.underlying22 Try.underlying3 cells_int hf with ⟨hcs, hx⟩ | ⟨a, len', cap', zs, hcs, _, hl, hm, hz, hx, hcell, hwz⟩
  · have e : Value.slice a0 len cap = .slice none 0 0 := by simpa [Value.cells] using hcs
    rw [e]
    exact ⟨[], none, 0, 0, rfl, hide rfl, Nat.le_refl _, by simp [big], Rd.zero⟩
  · have e : Value.slice a0 len cap = .slice (some a) len' cap' := by simpa [Value.cells] using hcs
    rw [e]
    have hlz : len' ≤ zs.length := by rw [hz]; split <;> omega
    have hdd : d = .slice (lits .i64 (zs.take len')) (lits .i64 (zs.drop len')) := congrArg Prod.fst hx
    have hsz := sized_slice hs ht (hd.trans (congrArg some hdd)) Try.underlying22
    rw [bytes_int] at hsz
    have hbig : len' ≤ big := by
      simp only [reachBytes, lits, List.length_map, List.length_take, List.length_drop] at hsz
      unfold big; omega
    refine ⟨zs.take len', some a, len', cap', rfl, hide (by rw [List.length_take]; omega), hl, hbig, fun hn => ?_⟩
    have h0 := hcell 0 (by omega)
    have ha : a.add 0 = a := by unfold Addr.add; rw [if_pos rfl]
    rw [ha] at h0
    obtain ⟨hsp, hb⟩ := cell_plain h0
    obtain ⟨b, off, spot⟩ := a
    simp only at hsp
    subst hsp
    refine ⟨b, off, rfl, hb, fun i jj hi hj => ?_⟩
    obtain rfl : jj = 0 := by omega
    have := hcell i (by omega)
    have e2 : (⟨b, off, none⟩ : Addr).add i = ⟨b, off + (i * 1 + 0), none⟩ := by unfold Addr.add; split <;> simp_all
    rw [e2] at this
    rw [this]
    simp [intCell, hi]
end
end Go.Proofs.Ytopakcbhodnipaa

/- Text SrP. -/

namespace Gm
set_option linter.unusedSimpArgs false
set_option linter.unusedVariables false
theorem lessL_irrefl : ∀ l : List Int, lessL l l = false
  | [] => rfl
  | x :: l => by simp [lessL, lessL_irrefl l]
theorem arcLess_irrefl (a : Arc) : arcLess a a = false := lessL_irrefl _
theorem arcLess_trans {a b c : Arc} (h1 : arcLess a b = true) (h2 : arcLess b c = true) : arcLess a c = true := lessL_trans _ _ _ h1 h2
theorem lessL_total : ∀ (l k : List Int), l.length = k.length → lessL l k = true ∨ l = k ∨ lessL k l = true
  | [], [], _ => .inr (.inl rfl)
  | x :: l, y :: k, h => by
    rcases Int.lt_trichotomy x y with h1 | h1 | h1
    · left; simp [lessL, h1, show x ≠ y by omega]
    · subst h1
      rcases lessL_total l k (by simpa using h) with h2 | h2 | h2
      · left; simp [lessL, h2]
      · right; left; rw [h2]
      · right; right; simp [lessL, h2]
    · right; right; simp [lessL, h1, show y ≠ x by omega]
theorem arcKey_inj {a b : Arc} (h : arcKey a = arcKey b) : a = b := by
  simp only [arcKey, List.cons.injEq, and_true] at h
  exact Arc.ext' h.1 h.2.2.2.1 h.2.1 h.2.2.1 h.2.2.2.2
theorem arcLess_total (a b : Arc) : arcLess a b = true ∨ a = b ∨ arcLess b a = true := by
  rcases lessL_total (arcKey a) (arcKey b) rfl with h | h | h
  · exact .inl h
  · exact .inr (.inl (arcKey_inj h))
  · exact .inr (.inr h)
/-- In order, equal ones beside one another. -/
def SortedA (l : List Arc) : Prop := l.Pairwise fun a b => arcLess b a = false
theorem arcLess_asymm {a b : Arc} (h : arcLess a b = true) : arcLess b a = false := by
  cases e : arcLess b a
  · rfl
  · have := arcLess_trans h e; rw [arcLess_irrefl] at this; cases this
/-- What is in order is determined by what it holds. -/
theorem sorted_uniq : ∀ {l k : List Arc}, SortedA l → SortedA k → l.Perm k → l = k
  | [], k, _, _, hp => (List.nil_perm.1 hp).symm
  | a :: l, [], _, _, hp => absurd hp.length_eq (by simp)
  | a :: l, b :: k, hl, hk, hp => by
    have hl' := List.pairwise_cons.1 hl
    have hk' := List.pairwise_cons.1 hk
    have hab : a = b := by
      have h1 : a ∈ b :: k := hp.mem_iff.1 (by simp)
      have h2 : b ∈ a :: l := hp.mem_iff.2 (by simp)
      rcases List.mem_cons.1 h1 with h1 | h1
      · exact h1
      · rcases List.mem_cons.1 h2 with h2 | h2
        · exact h2.symm
        · have g1 := hk'.1 a h1
          have g2 := hl'.1 b h2
          rcases arcLess_total a b with h | h | h
          · rw [g1] at h; cases h
          · exact h
          · rw [g2] at h; cases h
    subst hab
    rw [sorted_uniq hl'.2 hk'.2 ((List.perm_cons a).1 hp)]
/-- A list without those that e holds like the one before them (in the list as it was). -/
def cpt (e : Arc → Arc → Bool) : Arc → List Arc → List Arc
  | _, [] => []
  | p, a :: l => if e p a = true then cpt e a l else a :: cpt e a l
def compact (e : Arc → Arc → Bool) : List Arc → List Arc
  | [] => []
  | a :: l => a :: cpt e a l
theorem cpt_snoc (e : Arc → Arc → Bool) : ∀ (l : List Arc) (p a : Arc), cpt e p (l ++ [a]) = cpt e p l ++ (if e ((p :: l).getLast (by simp)) a = true then [] else [a])
  | [], p, a => by
    simp only [List.nil_append, cpt, List.getLast_singleton]
    by_cases h : e p a = true <;> simp [h]
  | b :: l, p, a => by
    have ih := cpt_snoc e l b a
    have hl : (p :: b :: l).getLast (by simp) = (b :: l).getLast (by simp) := List.getLast_cons (by simp)
    simp only [List.cons_append, cpt, ih, hl]
    by_cases h : e p b = true <;> simp [h]
theorem compact_snoc (e : Arc → Arc → Bool) {l : List Arc} (hl : l ≠ []) (a : Arc) : compact e (l ++ [a]) = compact e l ++ (if e (l.getLast hl) a = true then [] else [a]) := by
  cases l with
  | nil => exact absurd rfl hl
  | cons b l => simp only [List.cons_append, compact, cpt_snoc]
theorem cpt_len (e : Arc → Arc → Bool) : ∀ (l : List Arc) (p : Arc), (cpt e p l).length ≤ l.length
  | [], _ => Nat.le_refl _
  | b :: l, p => by
    have := cpt_len e l b
    unfold cpt
    split <;> simp <;> omega
theorem compact_len (e : Arc → Arc → Bool) (l : List Arc) : (compact e l).length ≤ l.length := by
  cases l with
  | nil => exact Nat.le_refl _
  | cons b l => have := cpt_len e l b; simp [compact]; omega
theorem cpt_sub (e : Arc → Arc → Bool) : ∀ (l : List Arc) (p : Arc), (cpt e p l).Sublist l
  | [], _ => .slnil
  | b :: l, p => by
    unfold cpt
    split
    · exact (cpt_sub e l b).cons _
    · exact (cpt_sub e l b).cons_cons _
theorem compact_sub (e : Arc → Arc → Bool) (l : List Arc) : (compact e l).Sublist l := by
  cases l with
  | nil => exact .slnil
  | cons b l => exact (cpt_sub e l b).cons_cons _
/-- Equal arcs. -/
def eqA (a b : Arc) : Bool := decide (a = b)
theorem mem_cpt : ∀ (l : List Arc) (p x : Arc), x ∈ p :: cpt eqA p l ↔ x ∈ p :: l
  | [], p, x => by simp [cpt]
  | b :: l, p, x => by
    have ih := mem_cpt l b x
    unfold cpt
    by_cases h : eqA p b = true
    · rw [if_pos h]
      have hb : p = b := of_decide_eq_true h
      subst hb
      rw [ih]; simp
    · rw [if_neg h, List.mem_cons, ih]; simp
theorem mem_compact {l : List Arc} {x : Arc} : x ∈ compact eqA l ↔ x ∈ l := by
  cases l with
  | nil => rfl
  | cons b l => exact mem_cpt l b x
theorem cpt_strict : ∀ (l : List Arc) (p : Arc), SortedA (p :: l) → (p :: cpt eqA p l).Pairwise fun a b => arcLess a b = true
  | [], p, _ => by simp [cpt]
  | b :: l, p, h => by
    have h' := List.pairwise_cons.1 h
    have ih := cpt_strict l b h'.2
    unfold cpt
    by_cases e : eqA p b = true
    · rw [if_pos e]
      have hb : p = b := of_decide_eq_true e
      subst hb
      exact ih
    · rw [if_neg e]
      have hne : p ≠ b := fun h => e (decide_eq_true h)
      have hlt : arcLess p b = true := by
        rcases arcLess_total p b with g | g | g
        · exact g
        · exact absurd g hne
        · rw [h'.1 b (by simp)] at g; cases g
      refine List.pairwise_cons.2 ⟨fun x hx => ?_, ih⟩
      rcases List.mem_cons.1 hx with rfl | hx
      · exact hlt
      · exact arcLess_trans hlt ((List.pairwise_cons.1 ih).1 x hx)
theorem compact_strict {l : List Arc} (h : SortedA l) : (compact eqA l).Pairwise fun a b => arcLess a b = true := by
  cases l with
  | nil => exact List.Pairwise.nil
  | cons b l => exact cpt_strict l b h
/-- Where no two are equal, nothing is left out. -/
theorem cpt_all : ∀ (l : List Arc) (p : Arc), (p :: l).Nodup → cpt eqA p l = l
  | [], _, _ => rfl
  | b :: l, p, h => by
    have h' := List.nodup_cons.1 h
    unfold cpt
    rw [if_neg (fun e => by
      have hb : p = b := of_decide_eq_true e
      exact h'.1 (by simp [hb]))]
    rw [cpt_all l b h'.2]
theorem compact_all {l : List Arc} (h : l.Nodup) : compact eqA l = l := by
  cases l with
  | nil => rfl
  | cons b l => rw [compact, cpt_all l b h]
/-- The same arc but for the weight. -/
def likeA (a b : Arc) : Bool := decide (a.f = b.f) && decide (a.i = b.i) && decide (a.o = b.o) && decide (a.t = b.t)
/-- A list is put in order: one by one. -/
def insA (a : Arc) : List Arc → List Arc
  | [] => [a]
  | b :: l => if arcLess a b = true then a :: b :: l else b :: insA a l
def srtA : List Arc → List Arc
  | [] => []
  | a :: l => insA a (srtA l)
theorem insA_perm (a : Arc) : ∀ l, (insA a l).Perm (a :: l)
  | [] => .refl _
  | b :: l => by
    unfold insA
    split
    · exact .refl _
    · exact ((insA_perm a l).cons b).trans (.swap a b l)
theorem srtA_perm : ∀ l, (srtA l).Perm l
  | [] => .refl _
  | a :: l => (insA_perm a _).trans ((srtA_perm l).cons a)
theorem insA_sorted (a : Arc) : ∀ l, SortedA l → SortedA (insA a l)
  | [], _ => by simp [insA, SortedA]
  | b :: l, h => by
    have h' := List.pairwise_cons.1 h
    unfold insA
    by_cases e : arcLess a b = true
    · rw [if_pos e]
      refine List.pairwise_cons.2 ⟨fun x hx => ?_, h⟩
      rcases List.mem_cons.1 hx with rfl | hx
      · exact arcLess_asymm e
      · cases g : arcLess x a
        · rfl
        · have := arcLess_trans g e; rw [h'.1 x hx] at this; cases this
    · rw [if_neg e]
      refine List.pairwise_cons.2 ⟨fun x hx => ?_, insA_sorted a l h'.2⟩
      rcases List.mem_cons.1 ((insA_perm a l).mem_iff.1 hx) with rfl | hx
      · cases g : arcLess x b
        · rfl
        · exact absurd g e
      · exact h'.1 x hx
theorem srtA_sorted : ∀ l, SortedA (srtA l)
  | [] => List.Pairwise.nil
  | a :: l => insA_sorted a _ (srtA_sorted l)
theorem srtA_eq {l k : List Arc} (hk : SortedA k) (hp : k.Perm l) : k = srtA l := sorted_uniq hk (srtA_sorted l) (hp.trans (srtA_perm l).symm)
theorem srtA_congr {l k : List Arc} (hp : l.Perm k) : srtA l = srtA k := sorted_uniq (srtA_sorted l) (srtA_sorted k) ((srtA_perm l).trans (hp.trans (srtA_perm k).symm))
end Gm

/- Text SrS. -/
namespace Gm
open Go Go.RowKit Go.Proofs Go.Sort
set_option linter.unusedSimpArgs false
set_option linter.unusedVariables false
instance : Inhabited Arc := ⟨dA⟩
/-- An arc's five cells. -/
def encA (a : Arc) : List Value := [.int .i64 a.f, .int .i64 a.t, .int .i64 a.i, .int .i64 a.o, .int .i64 a.w]
theorem ltOf_arc (a b : Arc) : ltOf arcCmp a b = arcLess a b := by
  rw [arcLess_cmp, ltOf]
  by_cases h : arcCmp a b < 0
  · rw [decide_eq_true h]; simp; omega
  · rw [decide_eq_false h]; simp; omega
theorem swo_arc : SWO (ltOf arcCmp) where
  irrefl x := by rw [ltOf_arc]; exact arcLess_irrefl x
  trans x y z h1 h2 := by rw [ltOf_arc] at *; exact arcLess_trans h1 h2
  ntrans x y z h1 h2 := by
    rw [ltOf_arc] at *
    cases e : arcLess x z
    · rfl
    · exfalso
      rcases arcLess_total y x with h | h | h
      · have := arcLess_trans h e; rw [h2] at this; cases this
      · subst h; rw [h2] at e; cases e
      · rw [h1] at h; cases h
theorem encA_get (a : Arc) (j : Nat) (hj : j < 5) : (encA a)[j]? = some (.int .i64 (fld a j)) := by
  rcases (by omega : j = 0 ∨ j = 1 ∨ j = 2 ∨ j = 3 ∨ j = 4) with rfl | rfl | rfl | rfl | rfl <;> rfl
theorem flat_get (l : List Arc) (t : Nat) (h : t < l.length * 5) : (arcRow l)[t]? = some (flatK encA 5 l.toArray)[t]! := by
  have hi : t / 5 < l.length := by omega
  have hj : t % 5 < 5 := Nat.mod_lt _ (by omega)
  have h1 := arcRow_at l (t / 5) (t % 5) hi hj
  rw [show t / 5 * 5 + t % 5 = t by omega] at h1
  rw [h1, get_flatK _ _ _ _ (by simpa using h)]
  have h2 := encA_get (l.getD (t / 5) dA) (t % 5) hj
  have h3 : l.toArray[t / 5]! = l.getD (t / 5) dA := by
    rw [getElem!_pos l.toArray (t / 5) (by simpa using hi)]
    simp [hi]
  rw [h3]
  congr 1
  rw [List.getElem!_eq_getElem?_getD, h2]; rfl
theorem flat_row (l : List Arc) : (flatK encA 5 l.toArray).toList = arcRow l := by
  apply List.ext_getElem?
  intro t
  by_cases h : t < l.length * 5
  · rw [flat_get l t h]
    have hs : t < (flatK encA 5 l.toArray).size := by rw [size_flatK]; simpa using h
    rw [getElem!_pos _ t hs]
    simp [hs]
  · rw [List.getElem?_eq_none (by rw [Array.length_toList, size_flatK]; simp; omega), List.getElem?_eq_none (by rw [arcRow_length]; omega)]
theorem holds_own {w : World} {base n c g : Nat} {e : TypeId} {l : List Arc} (h : w.ownsRow base e 5 (.slice (some ⟨g, 0, none⟩) n c) n (arcRow l)) (hl : l.length = n) (hn : 0 < n) : HoldsK encA 5 w g 0 l.toArray := by
  intro j hj
  rw [size_flatK] at hj
  have hj' : j < l.length * 5 := by simpa using hj
  have hc := h.cells (g := g) rfl j _ (flat_get l j hj')
  have hadd : (⟨g, 0, none⟩ : Addr).add j = ⟨g, 0 + j, none⟩ := by unfold Addr.add; split <;> simp_all
  rw [hadd] at hc
  refine ⟨hc, ?_⟩
  rcases h.2 with ⟨_, h0⟩ | ⟨g', cap', cur, h1, h2, h3, h4⟩
  · omega
  · injection h1 with h1 _ hc
    injection h1 with h1
    injection h1 with h1
    subst h1
    simp [World.frozen?, h3]
theorem own_sorted {w : World} {base n c g m : Nat} {e : TypeId} {l k : List Arc} {os : Array Obj} (h : w.ownsRow base e 5 (.slice (some ⟨g, 0, none⟩) n c) n (arcRow l)) (hl : l.length = n) (hk : k.length = n) (hn : 0 < n) :
    (sortWorldK encA 5 w g 0 m k.toArray os).ownsRow base e 5 (.slice (some ⟨g, 0, none⟩) n c) n (arcRow k) ∧ w.grownBy (sortWorldK encA 5 w g 0 m k.toArray os) (some g) := by
  rcases h.2 with ⟨_, h0⟩ | ⟨g', cap', cur, h1, h2, h3, h4, h5, h6, h7⟩
  · omega
  · injection h1 with h1 _ hc
    injection h1 with h1
    injection h1 with h1
    subst h1
    have hsz : g < w.heap.size := (Array.getElem?_eq_some_iff.1 h3).1
    have hblk : (sortWorldK encA 5 w g 0 m k.toArray os).heap[g]? = some (.cells (putCells id 0 (flatK encA 5 k.toArray) cur) e (0, 0)) := by
      simp only [sortWorldK, putRowK, putRow, grow, mapBlock, Sort.ahead]
      rw [Array.getElem?_append_left (by simpa using hsz), Array.getElem?_modify, if_pos rfl, h3]
      rfl
    refine ⟨⟨by rw [arcRow_length, hk], .inr ⟨g, cap', putCells id 0 (flatK encA 5 k.toArray) cur, by rw [hc], h2, hblk, h4, h5, ?_, ?_⟩⟩, ?_⟩
    · simp [putCells, h6]
    · have hle : n * 5 ≤ cur.size := by rw [h6]; omega
      apply List.ext_getElem?
      intro t
      by_cases ht : t < n * 5
      · rw [List.getElem?_take_of_lt ht, flat_get k t (by rw [hk]; exact ht)]
        have hs : t < cur.size := by omega
        simp [putCells, hs, hk, ht]
      · rw [List.getElem?_eq_none (by simp [putCells]; omega), List.getElem?_eq_none (by rw [arcRow_length]; omega)]
    · refine ⟨rfl, rfl, rfl, ?_, ?_⟩
      · simp [sortWorldK, putRowK, putRow, grow, mapBlock, Sort.ahead]
      · intro q hq hne
        simp only [sortWorldK, putRowK, putRow, grow, mapBlock, Sort.ahead]
        rw [Array.getElem?_append_left (by simpa using hq), Array.getElem?_modify, if_neg (fun e => hne (by rw [e]))]
theorem own_formN5 {w : World} {base sz n : Nat} {e : TypeId} {v : Value} {xs : List Value} (h : w.ownsRow base e sz v n xs) (hn : 0 < n) : ∃ g cap, v = .slice (some ⟨g, 0, none⟩) n cap ∧ base ≤ g ∧ g < w.heap.size ∧ n ≤ cap ∧ cap ≤ maxLen := by
  rcases h.2 with ⟨_, h0⟩ | ⟨g, cap, cur, h1, h2, h3, h4, h5, _⟩
  · omega
  · exact ⟨g, cap, h1, h2, (Array.getElem?_eq_some_iff.1 h3).1, h4, h5⟩
end Gm
namespace Go.Proofs.Ytopakcbhodnipaa
open Go.RowKit Gm Go.Sort Go.Shelf
set_option linter.unusedSimpArgs false
set_option linter.unusedVariables false
set_option maxHeartbeats 400000 in
theorem order_grow (a b : Arc) (w : World) :
    Calls Try.prog 65 #[.agg #[.int .i64 a.f, .int .i64 a.t, .int .i64 a.i, .int .i64 a.o, .int .i64 a.w], .agg #[.int .i64 b.f, .int .i64 b.t, .int .i64 b.i, .int .i64 b.o, .int .i64 b.w]] w fun e w' => e = .returned (.int .i64 (arcCmp a b)) ∧ ∃ q os', w' = grow (w.drewN q) os' := by
  go_enter Try.func65, Try.ntmps65
  go_wp2
  refine wp_quiet_tail_lit 25 (by kernel_rfl) (by kernel_rfl) ?_
  simp only [List.take_succ_cons, List.take_zero, List.drop_succ_cons, List.drop_zero]
  repeat (quiet_step ((go_at_call 92; exact Calls.quiet_of_same ((compare_any _ _ _).mono (fun e w' h => ⟨h.1, h.2.symm⟩)))))
  refine wpQuiet_nil ?_
  intro _ hw'; obtain ⟨nq, hw''⟩ := hw'; subst hw''
  go_wp2_with fail
  refine (or_any (some ⟨w.heap.size + 1 + 1, 0, none⟩) 5 5 [cmpI a.f b.f, cmpI a.i b.i, cmpI a.o b.o, cmpI a.t b.t, cmpI a.w b.w] _ (w.heap.size + 1 + 1 + 1) rfl (by omega) ?_).mono ?_
  · intro _
    refine ⟨_, _, rfl, by omega, fun i j hi hj => ?_⟩
    obtain rfl : j = 0 := by omega
    rcases (by omega : i = 0 ∨ i = 1 ∨ i = 2 ∨ i = 3 ∨ i = 4) with rfl | rfl | rfl | rfl | rfl <;> go_simp <;> rfl
  · rintro e w' ⟨rfl, rfl⟩
    go_wp2
    go_ret
    refine ⟨rfl, nq, ?os, ?eq⟩
    case eq =>
      rw [alloc_eq_grow, alloc_eq_grow, alloc_eq_grow, grow_grow]
      exact grow_grow (w.drewN nq) _ _
theorem isAggA : ∀ w, (isAgg (Try.laySortA_ren.t 24)).run Try.prog w = .ok true w := fun w => by kernel_rfl
theorem sizeOfA : ∀ w, (Go.sizeOf (Try.laySortA_ren.t 24)).run Try.prog w = .ok 5 w := fun w => by kernel_rfl
theorem sort_own (l : List Arc) (n c g base : Nat) (w : World) (hl : l.length = n) (hn : 0 < n) (hn2 : n ≤ 1000000000) (h : w.ownsRow base 61 5 (.slice (some ⟨g, 0, none⟩) n c) n (arcRow l)) :
    Calls Try.prog 64 #[.slice (some ⟨g, 0, none⟩) n c, .func (.func 65) #[] #[]] w fun e w' => e = .returned (.tuple #[]) ∧ w'.ownsRow base 61 5 (.slice (some ⟨g, 0, none⟩) n c) n (arcRow (srtA l)) ∧ w.grownBy w' (some g) := by
  have eg : ∀ args w, (callFunc 65 args).run Try.prog w = .ok (.enter 65 args) w := enters_of Try.func65 (by kernel_rfl) rfl
  have hblk := (h.lt g rfl).2
  have hcon := AnyQ.slices_SortFunc Try.laySortA 5 isAggA sizeOfA encA (fun _ => rfl) (fun x v hv => by simp [encA] at hv; rcases hv with rfl | rfl | rfl | rfl | rfl <;> rfl) arcCmp swo_arc 65 #[] g 0 c l.toArray w eg
    (fun _ _ _ _ x y => order_grow x y _) (holds_own h hl hn) hblk (by simp; omega)
  rw [show l.toArray.size = n by simpa using hl] at hcon
  change Calls Try.prog 64 _ _ _ at hcon
  refine hcon.mono ?_
  rintro e w' ⟨rfl, d', m, os, hp, hs, rfl⟩
  have hz : d'.size = n := by have := hp.1; simpa [hl] using this
  have hperm : d'.toList.Perm l := by
    have h2 := hp.2.2
    rw [Array.extract_eq_self_of_le (by omega), Array.extract_eq_self_of_le (by simp; omega)] at h2
    simpa using h2
  have hsort : SortedA d'.toList := by
    refine List.pairwise_iff_getElem.2 fun i j hi hj hij => ?_
    have h2 := hs i j (Nat.zero_le _) hij (by simpa [hz] using hj)
    rw [ltOf_arc, getElem!_pos d' j (by simpa using hj), getElem!_pos d' i (by simpa using hi)] at h2
    simpa using h2
  have hd : d' = (srtA l).toArray := by
    have := srtA_eq hsort hperm
    rw [← this]
  have hkl : (srtA l).length = n := by rw [(srtA_perm l).length_eq, hl]
  rw [hd]
  exact ⟨rfl, own_sorted h hl hkl hn⟩
end Go.Proofs.Ytopakcbhodnipaa

/- Text UnP. -/
namespace Gm
set_option linter.unusedSimpArgs false
set_option linter.unusedVariables false
theorem arcs_nodup {m : Mach} (h : Valid m) : m.arcs.Nodup := (arcs_sorted h).imp (fun {a b} hab e => by subst e; rw [arcLess_irrefl] at hab; cases hab)
theorem shA_inj {k : Int} {a b : Arc} (h : shA k a = shA k b) : a = b := by
  unfold shA at h
  injection h with h1 h2 h3 h4 h5
  exact Arc.ext' (by omega) (by omega) h3 h4 h5
theorem sh_nodup {k : Int} {l : List Arc} (h : l.Nodup) : (l.map (shA k)).Nodup := List.pairwise_map.2 (h.imp fun {a b} hne e => hne (shA_inj e))
theorem nodup_app {l k : List Arc} (hl : l.Nodup) (hk : k.Nodup) (h : ∀ x ∈ l, ∀ y ∈ k, x ≠ y) : (l ++ k).Nodup := List.nodup_append.2 ⟨hl, hk, h⟩
theorem uni_nodup {a b : Mach} (ha : Valid a) (hb : Valid b) : (uniArcs a b).Nodup := by
  have ra := rng_valid ha
  have rb := rng_valid hb
  have h0 := ra.n0
  have h1 : ∀ (c : Prop) [Decidable c] (x : Arc), (if c then [x] else []).Nodup := by intro c _ x; split <;> simp
  have m1 : ∀ {c : Prop} [Decidable c] {x y : Arc}, y ∈ (if c then [x] else []) → c ∧ y = x := by intro c _ x y hy; split at hy <;> simp_all
  unfold uniArcs
  refine nodup_app (nodup_app (nodup_app (h1 _ _) (h1 _ _) ?_) (sh_nodup (arcs_nodup ha)) ?_) (sh_nodup (arcs_nodup hb)) ?_
  · intro x hx y hy e
    obtain ⟨c1, rfl⟩ := m1 hx
    obtain ⟨c2, rfl⟩ := m1 hy
    simp only [eps, Arc.mk.injEq] at e
    omega
  · intro x hx y hy e
    obtain ⟨z, hz, rfl⟩ := List.mem_map.1 hy
    have := ra.arc z hz
    rcases List.mem_append.1 hx with hx | hx <;> obtain ⟨c1, rfl⟩ := m1 hx <;> simp only [eps, shA, Arc.mk.injEq] at e <;> omega
  · intro x hx y hy e
    obtain ⟨z, hz, rfl⟩ := List.mem_map.1 hy
    have := rb.arc z hz
    rcases List.mem_append.1 hx with hx | hx
    · rcases List.mem_append.1 hx with hx | hx <;> obtain ⟨c1, rfl⟩ := m1 hx <;> simp only [eps, shA, Arc.mk.injEq] at e <;> omega
    · obtain ⟨z', hz', rfl⟩ := List.mem_map.1 hx
      have := ra.arc z' hz'
      simp only [shA, Arc.mk.injEq] at e; omega
theorem uni_len {a b : Mach} (ha : Valid a) (hb : Valid b) : (uniArcs a b).length ≤ 4002 := by
  have h1 := ha.len
  have h2 := hb.len
  unfold uniArcs
  simp only [List.length_append, List.length_map]
  have h3 : (if 0 < a.n then [eps 0 1 0] else []).length ≤ 1 := by split <;> simp
  have h4 : (if 0 < b.n then [eps 0 (1 + a.n) 0] else []).length ≤ 1 := by split <;> simp
  omega
theorem eps_nodup {l : List Fnl} (f t : Fnl → Int) (h : l.Pairwise fun x y => f x ≠ f y) : (l.map fun x => eps (f x) (t x) x.w).Nodup :=
  List.pairwise_map.2 (h.imp fun {x y} hne e => by simp only [eps, Arc.mk.injEq] at e; exact hne e.1)
theorem cat_nodup {a b : Mach} (ha : Valid a) (hb : Valid b) : (catArcs a b).Nodup := by
  have ra := rng_valid ha
  have rb := rng_valid hb
  have h0 := ra.n0
  unfold catArcs
  refine nodup_app (nodup_app (arcs_nodup ha) (sh_nodup (arcs_nodup hb)) ?_) (eps_nodup (fun x => x.s) (fun _ => a.n) ((fins_sorted ha).imp fun {x y} h => by omega)) ?_
  · intro x hx y hy e
    obtain ⟨z, hz, rfl⟩ := List.mem_map.1 hy
    have h1 := ra.arc x hx
    have h2 := rb.arc z hz
    subst e
    simp only [shA] at h1; omega
  · intro x hx y hy e
    obtain ⟨z, hz, rfl⟩ := List.mem_map.1 hy
    have h2 := ra.fin z hz
    rcases List.mem_append.1 hx with hx | hx
    · have h1 := ra.arc x hx
      subst e
      simp only [eps] at h1; omega
    · obtain ⟨z', hz', rfl⟩ := List.mem_map.1 hx
      have h3 := rb.arc z' hz'
      simp only [eps, shA, Arc.mk.injEq] at e; omega
theorem cat_len {a b : Mach} (ha : Valid a) (hb : Valid b) : (catArcs a b).length ≤ 4400 := by
  have h1 := ha.len
  have h2 := hb.len
  have h3 := ha.finLen
  unfold catArcs
  simp only [List.length_append, List.length_map]
  omega
theorem star_nodup {m : Mach} (hm : Valid m) : (starArcs m).Nodup := by
  have rm := rng_valid hm
  have h1 : ∀ (c : Prop) [Decidable c] (x : Arc), (if c then [x] else []).Nodup := by intro c _ x; split <;> simp
  have m1 : ∀ {c : Prop} [Decidable c] {x y : Arc}, y ∈ (if c then [x] else []) → c ∧ y = x := by intro c _ x y hy; split at hy <;> simp_all
  unfold starArcs
  refine nodup_app (nodup_app (h1 _ _) (sh_nodup (arcs_nodup hm)) ?_) (eps_nodup (fun x => 1 + x.s) (fun _ => 0) ((fins_sorted hm).imp fun {x y} h => by omega)) ?_
  · intro x hx y hy e
    obtain ⟨z, hz, rfl⟩ := List.mem_map.1 hy
    have := rm.arc z hz
    obtain ⟨c1, rfl⟩ := m1 hx
    simp only [eps, shA, Arc.mk.injEq] at e; omega
  · intro x hx y hy e
    obtain ⟨z, hz, rfl⟩ := List.mem_map.1 hy
    have h2 := rm.fin z hz
    rcases List.mem_append.1 hx with hx | hx
    · obtain ⟨c1, rfl⟩ := m1 hx
      simp only [eps, Arc.mk.injEq] at e; omega
    · obtain ⟨z', hz', rfl⟩ := List.mem_map.1 hx
      have h3 := rm.arc z' hz'
      simp only [eps, shA, Arc.mk.injEq] at e; omega
theorem star_len {m : Mach} (hm : Valid m) : (starArcs m).length ≤ 2401 := by
  have h1 := hm.len
  have h3 := hm.finLen
  have h4 : (if 0 < m.n then [eps 0 1 0] else []).length ≤ 1 := by split <;> simp
  unfold starArcs
  simp only [List.length_append, List.length_map]
  omega
/-- A machine put in order is valid. -/
theorem valid_srt {n : Int} {l : List Arc} {f : List Fnl} (hnd : l.Nodup) (hn : 0 ≤ n ∧ n ≤ 400) (hl : l.length ≤ 2000) (ha : ∀ a ∈ l, okArc n a = true) (hf : ∀ x ∈ f, okFin n x = true) (hfs : f.Pairwise fun x y => x.s < y.s) : Valid ⟨n, srtA l, f⟩ where
  n0 := hn.1
  n4 := hn.2
  len := by show (srtA l).length ≤ 2000; rw [(srtA_perm l).length_eq]; exact hl
  arc := by
    intro k hk
    have hk' : k < (srtA l).length := hk
    have hm : (srtA l).getD k dA ∈ srtA l := by simp [List.getD, hk']
    unfold arcFault
    rw [if_pos (ha _ ((srtA_perm l).mem_iff.1 hm)), if_neg]
    rintro ⟨h0, hc⟩
    have hs := List.pairwise_iff_getElem.1 (srtA_sorted l) (k - 1) k (by omega) hk' (by omega)
    have e1 : (srtA l).getD (k - 1) dA = (srtA l)[k - 1] := by simp [show k - 1 < (srtA l).length by omega]
    have e2 : (srtA l).getD k dA = (srtA l)[k] := by simp [hk']
    rw [e1, e2] at hc
    have hne : (srtA l)[k - 1] ≠ (srtA l)[k] := fun e => by
      have := (List.getElem_inj (h₀ := by omega) (h₁ := hk') ((srtA_perm l).nodup_iff.2 hnd)).1 e
      omega
    rcases arcLess_total (srtA l)[k - 1] (srtA l)[k] with h | h | h
    · rw [arcLess_cmp] at h; simp at h; omega
    · exact hne h
    · rw [hs] at h; cases h
  fin := by
    intro k hk
    have hk' : k < f.length := hk
    have hm : f.getD k dF ∈ f := by simp [List.getD, hk']
    unfold finFault
    rw [if_pos (hf _ hm), if_neg]
    rintro ⟨h0, hc⟩
    have hs := List.pairwise_iff_getElem.1 hfs (k - 1) k (by omega) hk' (by omega)
    have e1 : f.getD (k - 1) dF = f[k - 1] := by simp [show k - 1 < f.length by omega]
    have e2 : f.getD k dF = f[k] := by simp [hk']
    rw [e1, e2] at hc
    omega
end Gm

/- Text SdP. -/
namespace Gm
set_option linter.unusedSimpArgs false
set_option linter.unusedVariables false
/-- The places k and k + 1 are exchanged. -/
def swA (l : List Arc) (k : Nat) : List Arc := (l.set (k + 1) (l.getD k dA)).set k (l.getD (k + 1) dA)
theorem swA_len (l : List Arc) (k : Nat) : (swA l k).length = l.length := by simp [swA]
theorem swA_perm : ∀ (l : List Arc) (k : Nat), k + 1 < l.length → (swA l k).Perm l
  | [], k, h => by simp at h
  | [a], k, h => by simp at h
  | a :: b :: l, 0, _ => by
    unfold swA
    simp only [Nat.zero_add, List.set_cons_succ, List.set_cons_zero, List.getD_cons_zero, List.getD_cons_succ]
    exact .swap ..
  | a :: b :: l, k + 1, h => by
    have ih := swA_perm (b :: l) k (by simpa using h)
    unfold swA at ih ⊢
    simp only [List.set_cons_succ, List.getD_cons_succ] at ih ⊢
    exact .cons _ ih
theorem swA_getD (l : List Arc) (k m : Nat) (h : k + 1 < l.length) : (swA l k).getD m dA = if m = k then l.getD (k + 1) dA else if m = k + 1 then l.getD k dA else l.getD m dA := by
  unfold swA
  rw [List.getD_eq_getElem?_getD, List.getElem?_set]
  by_cases e1 : k = m
  · subst e1
    rw [if_pos rfl, if_pos (by simp; omega), if_pos rfl]; rfl
  · rw [if_neg e1, if_neg (fun e => e1 e.symm), List.getElem?_set]
    by_cases e2 : k + 1 = m
    · subst e2
      rw [if_pos rfl, if_pos h, if_pos rfl]; rfl
    · rw [if_neg e2, if_neg (fun e => e2 e.symm), List.getD_eq_getElem?_getD]
theorem arcLess_le {a b c : Arc} (h1 : arcLess a b = true) (h2 : arcLess c b = false) : arcLess a c = true := by
  rcases arcLess_total b c with h | h | h
  · exact arcLess_trans h1 h
  · rw [← h]; exact h1
  · rw [h2] at h; cases h
/-- The places below i are in order. -/
def SortTo (l : List Arc) (i : Nat) : Prop := ∀ p q, p < q → q < i → arcLess (l.getD q dA) (l.getD p dA) = false
/-- The places up to i are in order but for the place j, which stands before those behind it. -/
def Ins (l : List Arc) (i j : Nat) : Prop :=
  (∀ p q, p < q → q ≤ i → p ≠ j → q ≠ j → arcLess (l.getD q dA) (l.getD p dA) = false) ∧ ∀ q, j < q → q ≤ i → arcLess (l.getD q dA) (l.getD j dA) = false
theorem ins_start {l : List Arc} {i : Nat} (h : SortTo l i) : Ins l i i := ⟨fun p q h1 h2 h3 h4 => h p q h1 (by omega), fun q h1 h2 => by omega⟩
theorem ins_step {l : List Arc} {i k : Nat} (hi : i < l.length) (hk : k + 1 ≤ i) (h : Ins l i (k + 1)) (hl : arcLess (l.getD (k + 1) dA) (l.getD k dA) = true) : Ins (swA l k) i k := by
  have hg := fun m => swA_getD l k m (by omega)
  obtain ⟨h1, h2⟩ := h
  constructor
  · intro p q hpq hq hp hq'
    rw [hg, hg, if_neg hp, if_neg hq']
    by_cases e1 : q = k + 1
    · rw [if_pos e1, if_neg (by omega)]
      exact h1 p k (by omega) (by omega) (by omega) (by omega)
    · rw [if_neg e1]
      by_cases e2 : p = k + 1
      · rw [if_pos e2]
        exact h1 k q (by omega) hq (by omega) e1
      · rw [if_neg e2]
        exact h1 p q hpq hq e2 e1
  · intro q hq1 hq2
    rw [hg, hg, if_neg (by omega), if_pos rfl]
    by_cases e1 : q = k + 1
    · rw [if_pos e1]; exact arcLess_asymm hl
    · rw [if_neg e1]; exact h2 q (by omega) hq2
theorem ins_end {l : List Arc} {i j : Nat} (hj : j ≤ i) (h : Ins l i j) (hl : j = 0 ∨ ∃ k, j = k + 1 ∧ arcLess (l.getD j dA) (l.getD k dA) = false) : SortTo l (i + 1) := by
  obtain ⟨h1, h2⟩ := h
  intro p q hpq hq
  by_cases e1 : p = j
  · subst e1; exact h2 q hpq (by omega)
  · by_cases e2 : q = j
    · subst e2
      rcases hl with hl | ⟨k, hk, hl⟩
      · omega
      · by_cases e3 : p = k
        · subst e3; exact hl
        · cases hc : arcLess (l.getD q dA) (l.getD p dA)
          · rfl
          · have := arcLess_le hc (h1 p k (by omega) (by omega) e1 (by omega))
            rw [hl] at this; cases this
    · exact h1 p q hpq (by omega) e1 e2
theorem sort_start (l : List Arc) : SortTo l 1 := fun p q h1 h2 => by omega
theorem sort_end {l k : List Arc} {i : Nat} (h : SortTo l i) (hi : l.length ≤ i) (hp : l.Perm k) : l = srtA k := by
  refine srtA_eq ?_ hp
  unfold SortedA
  rw [List.pairwise_iff_getElem]
  intro p q hp hq hpq
  have := h p q hpq (by omega)
  simpa [List.getD, hp, hq] using this
/-- Same labels and states; reduced: the weight does not matter. -/
def sameA (red : Bool) (a b : Arc) : Bool := if red then likeA a b else eqA a b
theorem sameA_eq (red : Bool) (p a : Arc) : sameA red p a = (likeA a p && (red || decide (a.w = p.w))) := by
  have hl : likeA a p = likeA p a := by
    unfold likeA
    rw [decide_eq_decide.2 (show a.f = p.f ↔ p.f = a.f from eq_comm), decide_eq_decide.2 (show a.i = p.i ↔ p.i = a.i from eq_comm), decide_eq_decide.2 (show a.o = p.o ↔ p.o = a.o from eq_comm), decide_eq_decide.2 (show a.t = p.t ↔ p.t = a.t from eq_comm)]
  cases red
  · unfold sameA eqA
    rw [if_neg (by simp), Bool.false_or, hl]
    unfold likeA
    obtain ⟨pf, pt, pi, po, pw⟩ := p
    obtain ⟨af, at_, ai, ao, aw⟩ := a
    rw [Bool.eq_iff_iff]
    simp
    constructor
    · rintro ⟨rfl, rfl, rfl, rfl, rfl⟩; simp
    · rintro ⟨⟨⟨⟨rfl, rfl⟩, rfl⟩, rfl⟩, rfl⟩; simp
  · unfold sameA
    rw [if_pos rfl, Bool.true_or, Bool.and_true, hl]
/-- One more arc looked at. -/
theorem compact_take {e : Arc → Arc → Bool} {l : List Arc} {k : Nat} {a : Arc} (hk : k < l.length) (ha : l.getD k dA = a) :
    compact e (l.take (k + 1)) = compact e (l.take k) ++ (if 0 < k ∧ e (l.getD (k - 1) dA) a = true then [] else [a]) := by
  have ht : l.take (k + 1) = l.take k ++ [a] := by
    rw [List.take_succ_eq_append_getElem hk]
    congr 1
    simp [List.getD, hk] at ha
    rw [ha]
  rw [ht]
  by_cases h0 : k = 0
  · subst h0
    rw [if_neg (by omega)]
    rfl
  · have hne : l.take k ≠ [] := by
      intro h
      have h2 : (l.take k).length = k := by rw [List.length_take]; omega
      rw [h] at h2
      simp at h2
      omega
    rw [compact_snoc e hne]
    have hlast : (l.take k).getLast hne = l.getD (k - 1) dA := by
      rw [List.getLast_eq_getElem]
      have h1 : k - 1 < l.length := by omega
      simp [List.getD, h1, Nat.min_eq_left (Nat.le_of_lt hk)]
    rw [hlast]
    by_cases hc : e (l.getD (k - 1) dA) a = true
    · rw [if_pos hc, if_pos ⟨by omega, hc⟩]
    · rw [if_neg hc, if_neg (fun h => hc h.2)]
end Gm

/- Text MpL. -/
namespace Gm
open Go Go.MapKept Go.RowKit
open Go.Maps (Keyed)
set_option linter.unusedSimpArgs false
set_option linter.unusedVariables false
section
variable {α : Type} [DecidableEq α]
/-- What stands at a key. -/
def lk (L : List (α × Value)) (a : α) : Option Value := (L.find? fun p => decide (p.1 = a)).map (·.2)
/-- The list behind a store. -/
def upL (L : List (α × Value)) (a : α) (v : Value) : List (α × Value) := if (lk L a).isSome = true then L.map (fun p => if p.1 = a then (a, v) else p) else L ++ [(a, v)]
@[simp] theorem lk_nil (a : α) : lk [] a = none := rfl
theorem lk_cons (p : α × Value) (L : List (α × Value)) (a : α) : lk (p :: L) a = if p.1 = a then some p.2 else lk L a := by
  unfold lk
  by_cases h : p.1 = a
  · rw [List.find?_cons_of_pos (by simpa using h), if_pos h]; rfl
  · rw [List.find?_cons_of_neg (by simpa using h), if_neg h]
theorem lk_append (L K : List (α × Value)) (a : α) : lk (L ++ K) a = (lk L a).or (lk K a) := by
  induction L with
  | nil => simp
  | cons p L ih =>
    rw [List.cons_append, lk_cons, lk_cons, ih]
    by_cases h : p.1 = a <;> simp [h]
theorem lk_mapup (L : List (α × Value)) (a b : α) (v : Value) : lk (L.map (fun p => if p.1 = a then (a, v) else p)) b = if b = a then (lk L a).map (fun _ => v) else lk L b := by
  induction L with
  | nil => simp
  | cons p L ih =>
    rw [List.map_cons, lk_cons, ih, lk_cons, lk_cons]
    by_cases h : p.1 = a
    · rw [if_pos h]
      by_cases h2 : b = a
      · subst h2; simp [h]
      · rw [if_neg (show ¬ (a, v).1 = b from fun e => h2 e.symm), if_neg h2, if_neg h2, if_neg (show ¬ p.1 = b from fun e => h2 (by rw [← e]; exact h))]
    · rw [if_neg h]
      by_cases h2 : b = a
      · subst h2; simp [h]
      · by_cases h3 : p.1 = b
        · simp [h2, h3]
        · simp [h2, h3]
theorem lk_up (L : List (α × Value)) (a b : α) (v : Value) : lk (upL L a v) b = if b = a then some v else lk L b := by
  unfold upL
  by_cases h : (lk L a).isSome = true
  · rw [if_pos h, lk_mapup]
    by_cases h2 : b = a
    · rw [if_pos h2, if_pos h2]
      obtain ⟨x, hx⟩ := Option.isSome_iff_exists.1 h
      rw [hx]; rfl
    · rw [if_neg h2, if_neg h2]
  · rw [if_neg h, lk_append, lk_cons, lk_nil]
    by_cases h2 : b = a
    · subst h2
      have : lk L b = none := by simpa using h
      simp [this]
    · rw [if_neg (fun e => h2 e.symm), if_neg h2]; simp
theorem lk_isSome (L : List (α × Value)) (a : α) : (lk L a).isSome = true ↔ a ∈ L.map (·.1) := by
  induction L with
  | nil => simp
  | cons p L ih =>
    rw [lk_cons, List.map_cons, List.mem_cons]
    by_cases h : p.1 = a
    · simp [h]
    · rw [if_neg h, ih]
      constructor
      · exact .inr
      · rintro (e | e)
        · exact absurd e.symm h
        · exact e
theorem lk_mem {L : List (α × Value)} {a : α} {v : Value} (h : lk L a = some v) : (a, v) ∈ L := by
  induction L with
  | nil => simp at h
  | cons p L ih =>
    rw [lk_cons] at h
    by_cases e : p.1 = a
    · rw [if_pos e] at h; injection h with h; subst h; subst e; simp
    · rw [if_neg e] at h; exact List.mem_cons_of_mem _ (ih h)
theorem lk_of_mem {L : List (α × Value)} {a : α} {v : Value} (hn : (L.map (·.1)).Nodup) (h : (a, v) ∈ L) : lk L a = some v := by
  induction L with
  | nil => simp at h
  | cons p L ih =>
    rw [List.map_cons, List.nodup_cons] at hn
    rw [lk_cons]
    rcases List.mem_cons.1 h with rfl | h
    · simp
    · rw [if_neg (fun e => hn.1 (by rw [e]; exact List.mem_map.2 ⟨_, h, rfl⟩))]
      exact ih hn.2 h
theorem keys_up (L : List (α × Value)) (a : α) (v : Value) : (upL L a v).map (·.1) = if (lk L a).isSome = true then L.map (·.1) else L.map (·.1) ++ [a] := by
  unfold upL
  by_cases h : (lk L a).isSome = true
  · rw [if_pos h, if_pos h, List.map_map]
    refine List.map_congr_left fun p hp => ?_
    by_cases e : p.1 = a
    · simp [e]
    · simp [e]
  · rw [if_neg h, if_neg h]; simp
theorem mem_keys_up (L : List (α × Value)) (a b : α) (v : Value) : b ∈ (upL L a v).map (·.1) ↔ b = a ∨ b ∈ L.map (·.1) := by
  rw [← lk_isSome, lk_up, ← lk_isSome]
  by_cases h : b = a <;> simp [h]
theorem length_up (L : List (α × Value)) (a : α) (v : Value) : (upL L a v).length = if (lk L a).isSome = true then L.length else L.length + 1 := by
  have := congrArg List.length (keys_up L a v)
  rw [List.length_map] at this
  rw [this]
  by_cases h : (lk L a).isSome = true
  · rw [if_pos h, if_pos h, List.length_map]
  · rw [if_neg h, if_neg h]; simp
end

/-- What is needed of keys: they are read as keys of type kt. -/
structure KL {α : Type} (P : Program) (kt : TypeId) (kv : α → Value) (ok : α → Prop) : Prop where
  K : Keyed P kt
  read : ∀ a, ok a → ∃ l, keyOf P kt (kv a) = some l
  inj : ∀ a b, kv a = kv b → a = b

/-- Block b is a map with the entries L. -/
def MapIs {α : Type} (w : World) (kv : α → Value) (ok : α → Prop) (b : Nat) (L : List (α × Value)) : Prop :=
  ∃ es clock, w.heap[b]? = some (.map es clock) ∧ Stamped es clock ∧ (es.toList.map fun e => (e.key, e.val)) = L.map (fun p => (kv p.1, p.2)) ∧ ∀ p ∈ L, ok p.1

section
variable {α : Type} {w w' : World} {kv : α → Value} {ok : α → Prop} {b : Nat} {L : List (α × Value)}
theorem MapIs.lt (h : MapIs w kv ok b L) : b < w.heap.size := by
  obtain ⟨es, clock, hb, _⟩ := h
  exact (Array.getElem?_eq_some_iff.1 hb).1
theorem MapIs.of_block (h : MapIs w kv ok b L) (e : w'.heap[b]? = w.heap[b]?) : MapIs w' kv ok b L := by
  obtain ⟨es, clock, hb, r⟩ := h
  exact ⟨es, clock, e.trans hb, r⟩
theorem MapIs.kept (h : MapIs w kv ok b L) {row : Option Nat} (hg : w.grownBy w' row) (hne : some b ≠ row) : MapIs w' kv ok b L := h.of_block (hg.block b h.lt hne)
theorem MapIs.below {B : Nat} (h : MapIs w kv ok b L) (hb : Below B w w') (hlt : b < B) : MapIs w' kv ok b L := h.of_block (hb.block b hlt)
theorem MapIs.alloc (h : MapIs w kv ok b L) (o : Obj) : MapIs (w.alloc o) kv ok b L := h.of_block (Below.heap_alloc w o b h.lt)
theorem MapIs.drew (h : MapIs w kv ok b L) : MapIs w.drew kv ok b L := h
theorem MapIs.drewN (h : MapIs w kv ok b L) (n : Nat) : MapIs (w.drewN n) kv ok b L := h
theorem MapIs.set_ (h : MapIs w kv ok b L) {p : Addr} (hp : b ≠ p.block) (u : Value) : MapIs (w.setCell p u) kv ok b L := h.of_block (Below.heap_setCell w p u b hp)
theorem MapIs.made (w : World) (kv : α → Value) (ok : α → Prop) : MapIs (w.alloc (.map #[] 0)) kv ok w.heap.size [] :=
  ⟨#[], 0, (MapKept.heap_alloc w _).1, stamped_empty 0, by simp, by simp⟩
theorem MapIs.ok_of (h : MapIs w kv ok b L) {p : α × Value} (hp : p ∈ L) : ok p.1 := by
  obtain ⟨_, _, _, _, _, hk⟩ := h
  exact hk p hp
theorem MapIs.keyvals {es : Array MapEntry} (hE : (es.toList.map fun e => (e.key, e.val)) = L.map (fun p => (kv p.1, p.2))) : es.toList.map (·.key) = L.map (fun p => kv p.1) := by
  have := congrArg (List.map Prod.fst) hE
  simpa [List.map_map, Function.comp_def] using this
theorem MapIs.nodup (h : MapIs w kv ok b L) : (L.map (·.1)).Nodup := by
  obtain ⟨es, clock, hb, hs, hE, hk⟩ := h
  have h2 : (L.map (fun p => kv p.1)).Nodup := by rw [← MapIs.keyvals hE]; exact hs.2.2
  have h3 : ((L.map (·.1)).map kv).Nodup := by rw [List.map_map]; exact h2
  exact (List.pairwise_map.1 h3).imp fun {a b} hne e => hne (by rw [e])
/-- An entry of the block, and its place in the list. -/
theorem entry_at {es : Array MapEntry} (hE : (es.toList.map fun e => (e.key, e.val)) = L.map (fun p => (kv p.1, p.2))) {j : Nat} {e : MapEntry} (hj : es.toList[j]? = some e) : ∃ p, L[j]? = some p ∧ e.key = kv p.1 ∧ e.val = p.2 := by
  have h1 : (L.map (fun p => (kv p.1, p.2)))[j]? = some (e.key, e.val) := by rw [← hE, List.getElem?_map, hj]; rfl
  rw [List.getElem?_map] at h1
  cases hl : L[j]? with
  | none => rw [hl] at h1; cases h1
  | some p =>
    rw [hl] at h1
    injection h1 with h1
    exact ⟨p, rfl, by rw [← (Prod.mk.inj h1).1], by rw [← (Prod.mk.inj h1).2]⟩
end

section
variable {α : Type} [DecidableEq α] {P : Program} {kt : TypeId} {w w' : World} {kv : α → Value} {ok : α → Prop} {b : Nat} {L : List (α × Value)}
theorem map_find (k : KL P kt kv ok) {es : Array MapEntry} {clock : Nat} (hs : Stamped es clock) (hE : (es.toList.map fun e => (e.key, e.val)) = L.map (fun p => (kv p.1, p.2))) (hk : ∀ p ∈ L, ok p.1) (w : World) {a : α} (ha : ok a) :
    (lk L a = none ∧ (Instr.findKey kt (kv a) es.toList).run P w = .ok none w ∧ ∀ e ∈ es.toList, e.key ≠ kv a) ∨
    ∃ j e, lk L a = some e.val ∧ (Instr.findKey kt (kv a) es.toList).run P w = .ok (some (j, e.val)) w ∧ es.toList[j]? = some e ∧ e.key = kv a := by
  obtain ⟨l, hl⟩ := k.read a ha
  have hes : ∀ e ∈ es.toList, ∃ l, keyOf P kt e.key = some l := fun e he => by
    obtain ⟨j, hj⟩ := List.getElem?_of_mem he
    obtain ⟨p, hp, h1, _⟩ := entry_at hE hj
    rw [h1]
    exact k.read _ (hk p (List.mem_of_getElem? hp))
  have hnd : (L.map (·.1)).Nodup := by
    have h2 : (L.map (fun p => kv p.1)).Nodup := by rw [← MapIs.keyvals hE]; exact hs.2.2
    have h3 : ((L.map (·.1)).map kv).Nodup := by rw [List.map_map]; exact h2
    exact (List.pairwise_map.1 h3).imp fun {a b} hne e => hne (by rw [e])
  rcases k.K.find w hl es.toList hes with ⟨h1, h2⟩ | ⟨j, e, h1, h2, h3⟩
  · refine .inl ⟨?_, h1, h2⟩
    cases hlk : lk L a with
    | none => rfl
    | some v =>
      have hm := lk_mem hlk
      have hm2 : (kv a, v) ∈ es.toList.map fun e => (e.key, e.val) := by rw [hE]; exact List.mem_map.2 ⟨_, hm, rfl⟩
      obtain ⟨e, he, hev⟩ := List.mem_map.1 hm2
      exact absurd (Prod.mk.inj hev).1 (h2 e he)
  · refine .inr ⟨j, e, ?_, h1, h2, h3⟩
    obtain ⟨p, hp, h4, h5⟩ := entry_at hE h2
    have e1 : p.1 = a := k.inj _ _ (by rw [← h4, h3])
    exact lk_of_mem hnd (by rw [h5, ← e1]; exact List.mem_of_getElem? hp)
theorem MapIs.run_look (h : MapIs w kv ok b L) (k : KL P kt kv ok) {t e : TypeId} (ht : P.underlying t = some (.map kt e)) {z : Value} (hz : (zeroValue e).run P w = .ok z w) {a : α} (ha : ok a) (ok' : Bool) :
    (Instr.lookup t (.map (some b)) (kv a) ok').run P w = .ok (if ok' = true then .tuple #[(lk L a).getD z, .bool (lk L a).isSome] else (lk L a).getD z) w := by
  obtain ⟨es, clock, hb, hs, hE, hk⟩ := h
  obtain ⟨l, hl⟩ := k.read a ha
  rcases map_find k hs hE hk w ha with ⟨h0, h1, h2⟩ | ⟨j, e0, h0, h1, h2, h3⟩
  · rw [h0]
    cases ok' <;> simp [Instr.lookup, run_underlying ht, MapKept.run_getObj_map hb, k.K.check w _ hl, h1, hz, Result.andThen]
  · rw [h0]
    cases ok' <;> simp [Instr.lookup, run_underlying ht, MapKept.run_getObj_map hb, k.K.check w _ hl, h1, Result.andThen]
theorem MapIs.run_up (h : MapIs w kv ok b L) (k : KL P kt kv ok) {t e : TypeId} (ht : P.underlying t = some (.map kt e)) {a : α} (ha : ok a) (v : Value) :
    ∃ w', (Instr.mapUpdate t (.map (some b)) (kv a) v).run P w = .ok () w' ∧ MapIs w' kv ok b (upL L a v) ∧ w.grownBy w' (some b) ∧ w'.heap.size = w.heap.size := by
  obtain ⟨es, clock, hb, hs, hE, hk⟩ := h
  obtain ⟨l, hl⟩ := k.read a ha
  rcases map_find k hs hE hk w ha with ⟨h0, h1, h2⟩ | ⟨j, e0, h0, h1, h2, h3⟩
  · refine ⟨ChangeMaps.setBlock w b (.map (es.push ⟨kv a, v, clock⟩) (clock + 1)), ?_, ⟨_, _, ChangeMaps.heap_setBlock_same hb _, stamped_push hs h2, ?_, ?_⟩, ⟨rfl, rfl, rfl, by simp [ChangeMaps.setBlock], fun i _ hi => ChangeMaps.heap_setBlock_other hb _ (fun e => hi (by rw [e]))⟩, by simp [ChangeMaps.setBlock]⟩
    · simp [Instr.mapUpdate, run_underlying ht, MapKept.run_getObj_map hb, k.K.check w false hl, h1, MapKept.run_setObj_map _ hb, Result.andThen, ChangeMaps.setBlock]
    · unfold upL
      rw [if_neg (by rw [h0]; simp)]
      simp [hE]
    · unfold upL
      rw [if_neg (by rw [h0]; simp)]
      intro p hp
      rcases List.mem_append.1 hp with hp | hp
      · exact hk p hp
      · rw [List.mem_singleton.1 hp]; exact ha
  · have hj : es[j]? = some e0 := by simpa using h2
    have hjl : j < es.toList.length := (List.getElem?_eq_some_iff.1 h2).1
    have hup : upL L a v = L.map (fun p => if p.1 = a then (a, v) else p) := by unfold upL; rw [if_pos (by rw [h0]; rfl)]
    refine ⟨ChangeMaps.setBlock w b (.map (es.modify j fun e' => { e' with key := kv a, val := v }) clock), ?_, ⟨_, _, ChangeMaps.heap_setBlock_same hb _, stamped_modify hs _ _ (fun _ _ => rfl) (fun e' _ he' => by rw [hj] at he'; cases he'; exact h3.symm), ?_, ?_⟩,
      ⟨rfl, rfl, rfl, by simp [ChangeMaps.setBlock], fun i _ hi => ChangeMaps.heap_setBlock_other hb _ (fun e => hi (by rw [e]))⟩, by simp [ChangeMaps.setBlock]⟩
    · simp [Instr.mapUpdate, run_underlying ht, MapKept.run_getObj_map hb, k.K.check w false hl, h1, hj, h3, k.K.stays w hl, MapKept.run_setObj_map _ hb, Result.andThen, ChangeMaps.setBlock]
    · rw [hup]
      refine List.ext_getElem? fun i => ?_
      rw [List.getElem?_map, List.getElem?_map, List.getElem?_map, Array.toList_modify, ChangeMaps.modify_eq_set _ _ _ _ h2]
      by_cases hij : i = j
      · subst hij
        obtain ⟨p, hp, h4, h5⟩ := entry_at hE h2
        have e1 : p.1 = a := k.inj _ _ (by rw [← h4, h3])
        rw [List.getElem?_set_self hjl, hp]
        simp [e1]
      · rw [List.getElem?_set_ne (fun e => hij e.symm)]
        cases hi : es.toList[i]? with
        | none =>
          have : L[i]? = none := by
            have := congrArg (fun l => l[i]?) hE
            simp only [List.getElem?_map, hi] at this
            cases hl : L[i]? with
            | none => rfl
            | some p => rw [hl] at this; cases this
          rw [this]; rfl
        | some e1 =>
          obtain ⟨p, hp, h4, h5⟩ := entry_at hE hi
          rw [hp]
          have hne : ¬ p.1 = a := fun e => by
            have hk2 : e1.key = e0.key := by rw [h4, h3, e]
            have hil : i < es.toList.length := (List.getElem?_eq_some_iff.1 hi).1
            have hp2 := ((stamped_iff es clock).1 hs).2.2
            have g1 : es.toList[i] = e1 := (List.getElem?_eq_some_iff.1 hi).2
            have g2 : es.toList[j] = e0 := (List.getElem?_eq_some_iff.1 h2).2
            rcases Nat.lt_or_gt_of_ne hij with hlt | hlt
            · exact List.pairwise_iff_getElem.1 hp2 i j hil hjl hlt (by rw [g1, g2]; exact hk2)
            · exact List.pairwise_iff_getElem.1 hp2 j i hjl hil hlt (by rw [g1, g2]; exact hk2.symm)
          simp [hne, h4, h5]
    · rw [hup]
      intro p hp
      obtain ⟨q, hq, rfl⟩ := List.mem_map.1 hp
      by_cases e : q.1 = a
      · rw [if_pos e]; exact ha
      · rw [if_neg e]; exact hk q hq

/-- At the operation: a look-up. -/
theorem wpList_look {ops : Array Oper} {rest : List Oper} {o : Oper} {A : Act} {Q : Exit → Act → World → Prop} (hg : o.guard = none) (m x : Operand) (t : TypeId) (ok' : Bool) (hop : o.op = Op.lookup t m x ok')
    (k : KL P kt kv ok) {e : TypeId} (ht : P.underlying t = some (.map kt e)) {z : Value} (hz : ∀ W, (zeroValue e).run P W = .ok z W) (hm : A.eval m = .map (some b)) (h : MapIs w kv ok b L) (a : α) (hx : A.eval x = kv a) (ha : ok a)
    (hK : wpList P ops Q rest (A.put o.dst (if ok' = true then .tuple #[(lk L a).getD z, .bool (lk L a).isSome] else (lk L a).getD z)) w) :
    wpList P ops Q (o :: rest) A w := by
  refine wpList_plain hg fun K' hK' => ?_
  have hrun := h.run_look k ht (hz w) ha ok'
  unfold Oper.wp
  simp [execOp, hop, hm, hx, hrun, Result.andThen]
  exact hK' _ _ hK
theorem wpList_look_yes {ops : Array Oper} {rest : List Oper} {o : Oper} {A : Act} {Q : Exit → Act → World → Prop} (hg : o.guard = none) (m x : Operand) (t : TypeId) (hop : o.op = Op.lookup t m x true)
    (k : KL P kt kv ok) {e : TypeId} (ht : P.underlying t = some (.map kt e)) {z : Value} (hz : ∀ W, (zeroValue e).run P W = .ok z W) (hm : A.eval m = .map (some b)) (h : MapIs w kv ok b L) (a : α) (hx : A.eval x = kv a) (ha : ok a) (v : Value) (hv : lk L a = some v)
    (hK : wpList P ops Q rest (A.put o.dst (.tuple #[v, .bool true])) w) : wpList P ops Q (o :: rest) A w :=
  wpList_look hg m x t true hop k ht hz hm h a hx ha (by simpa [hv] using hK)
theorem wpList_look_no {ops : Array Oper} {rest : List Oper} {o : Oper} {A : Act} {Q : Exit → Act → World → Prop} (hg : o.guard = none) (m x : Operand) (t : TypeId) (hop : o.op = Op.lookup t m x true)
    (k : KL P kt kv ok) {e : TypeId} (ht : P.underlying t = some (.map kt e)) {z : Value} (hz : ∀ W, (zeroValue e).run P W = .ok z W) (hm : A.eval m = .map (some b)) (h : MapIs w kv ok b L) (a : α) (hx : A.eval x = kv a) (ha : ok a) (hv : lk L a = none)
    (hK : wpList P ops Q rest (A.put o.dst (.tuple #[z, .bool false])) w) : wpList P ops Q (o :: rest) A w :=
  wpList_look hg m x t true hop k ht hz hm h a hx ha (by simpa [hv] using hK)
theorem wpList_look_one {ops : Array Oper} {rest : List Oper} {o : Oper} {A : Act} {Q : Exit → Act → World → Prop} (hg : o.guard = none) (m x : Operand) (t : TypeId) (hop : o.op = Op.lookup t m x false)
    (k : KL P kt kv ok) {e : TypeId} (ht : P.underlying t = some (.map kt e)) {z : Value} (hz : ∀ W, (zeroValue e).run P W = .ok z W) (hm : A.eval m = .map (some b)) (h : MapIs w kv ok b L) (a : α) (hx : A.eval x = kv a) (ha : ok a) (v : Value) (hv : (lk L a).getD z = v)
    (hK : wpList P ops Q rest (A.put o.dst v) w) : wpList P ops Q (o :: rest) A w :=
  wpList_look hg m x t false hop k ht hz hm h a hx ha (by simpa [hv] using hK)
/-- At the operation: a store. -/
theorem wpList_mapup {ops : Array Oper} {rest : List Oper} {o : Oper} {A : Act} {Q : Exit → Act → World → Prop} (hg : o.guard = none) (m x v : Operand) (t : TypeId) (hop : o.op = Op.mapUpdate t m x v)
    (k : KL P kt kv ok) {e : TypeId} (ht : P.underlying t = some (.map kt e)) (hm : A.eval m = .map (some b)) (h : MapIs w kv ok b L) (a : α) (hx : A.eval x = kv a) (ha : ok a) (val : Value) (hv : A.eval v = val)
    (hK : ∀ w', MapIs w' kv ok b (upL L a val) → w.grownBy w' (some b) → w'.heap.size = w.heap.size → wpList P ops Q rest (A.put o.dst undef) w') :
    wpList P ops Q (o :: rest) A w := by
  refine wpList_plain hg fun K' hK' => ?_
  obtain ⟨w', hrun, h1, h2, h3⟩ := h.run_up k ht ha val
  unfold Oper.wp
  simp [execOp, hop, hm, hx, hv, hrun, Result.andThen]
  exact hK' _ _ (hK w' h1 h2 h3)
end

/-! 'm[k] = append(m[k], ..)': the entry is looked up once. -/
/-- The list behind a look-up of an entry that is stored to. -/
def entL {α : Type} [DecidableEq α] (L : List (α × Value)) (a : α) (z : Value) : List (α × Value) := if (lk L a).isSome = true then L else L ++ [(a, z)]
theorem up_entL {α : Type} [DecidableEq α] (L : List (α × Value)) (a : α) (z v : Value) : upL (entL L a z) a v = upL L a v := by
  unfold entL
  by_cases h : (lk L a).isSome = true
  · rw [if_pos h]
  · rw [if_neg h]
    have hl : lk (L ++ [(a, z)]) a = some z := by
      have : lk L a = none := by simpa using h
      rw [lk_append, this, lk_cons]; simp
    unfold upL
    rw [if_neg h, if_pos (by rw [hl]; rfl), List.map_append]
    congr 1
    · have hn : a ∉ L.map (·.1) := fun hm => h ((lk_isSome L a).2 hm)
      have : ∀ p ∈ L, (if p.1 = a then (a, v) else p) = p := fun p hp => if_neg fun e => hn (by rw [← e]; exact List.mem_map.2 ⟨p, hp, rfl⟩)
      rw [List.map_congr_left this]; simp
    · simp
theorem lk_entL {α : Type} [DecidableEq α] (L : List (α × Value)) (a x : α) (z : Value) : lk (entL L a z) x = if x = a then some ((lk L a).getD z) else lk L x := by
  unfold entL
  by_cases h : (lk L a).isSome = true
  · rw [if_pos h]
    by_cases e : x = a
    · subst e
      obtain ⟨y, hy⟩ := Option.isSome_iff_exists.1 h
      rw [if_pos rfl, hy]; rfl
    · rw [if_neg e]
  · have hn : lk L a = none := by simpa using h
    rw [if_neg h, lk_append, lk_cons]
    by_cases e : x = a
    · subst e; rw [hn]; simp
    · rw [if_neg (fun e1 => e e1.symm), if_neg e]; simp
/-- The entry at key has the stamp n. -/
def Stamp (w : World) (b : Nat) (key : Value) (n : Nat) : Prop := ∃ es clock, w.heap[b]? = some (.map es clock) ∧ ∃ e ∈ es.toList, e.key = key ∧ e.born = n
theorem Stamp.of_block {w w' : World} {b n : Nat} {key : Value} (h : Stamp w b key n) (e : w'.heap[b]? = w.heap[b]?) : Stamp w' b key n := by
  obtain ⟨es, clock, hb, r⟩ := h
  exact ⟨es, clock, e.trans hb, r⟩
theorem Stamp.lt {w : World} {b n : Nat} {key : Value} (h : Stamp w b key n) : b < w.heap.size := by
  obtain ⟨es, clock, hb, _⟩ := h
  exact (Array.getElem?_eq_some_iff.1 hb).1
theorem Stamp.kept {w w' : World} {b n : Nat} {key : Value} (h : Stamp w b key n) {row : Option Nat} (hg : w.grownBy w' row) (hne : some b ≠ row) : Stamp w' b key n := h.of_block (hg.block b h.lt hne)
theorem Stamp.alloc {w : World} {b n : Nat} {key : Value} (h : Stamp w b key n) (o : Obj) : Stamp (w.alloc o) b key n := h.of_block (Below.heap_alloc w o b h.lt)
section
variable {α : Type} [DecidableEq α] {P : Program} {kt : TypeId} {w w' : World} {kv : α → Value} {ok : α → Prop} {b : Nat} {L : List (α × Value)}
theorem MapIs.run_entry (h : MapIs w kv ok b L) (k : KL P kt kv ok) {t e : TypeId} (ht : P.underlying t = some (.map kt e)) {z : Value} (hz : ∀ W, (zeroValue e).run P W = .ok z W) {a : α} (ha : ok a) :
    ∃ w' n, (Instr.mapEntry t (.map (some b)) (kv a)).run P w = .ok (.tuple #[(lk L a).getD z, .int .i64 (n : Nat)]) w' ∧ MapIs w' kv ok b (entL L a z) ∧ Stamp w' b (kv a) n ∧ w.grownBy w' (some b) ∧ w'.heap.size = w.heap.size := by
  obtain ⟨es, clock, hb, hs, hE, hk⟩ := h
  obtain ⟨l, hl⟩ := k.read a ha
  rcases map_find k hs hE hk w ha with ⟨h0, h1, h2⟩ | ⟨j, e0, h0, h1, h2, h3⟩
  · refine ⟨ChangeMaps.setBlock w b (.map (es.push ⟨kv a, z, clock⟩) (clock + 1)), clock, ?_, ⟨_, _, ChangeMaps.heap_setBlock_same hb _, stamped_push hs h2, ?_, ?_⟩, ⟨_, _, ChangeMaps.heap_setBlock_same hb _, ⟨kv a, z, clock⟩, by simp, rfl, rfl⟩,
      ⟨rfl, rfl, rfl, by simp [ChangeMaps.setBlock], fun i _ hi => ChangeMaps.heap_setBlock_other hb _ (fun e => hi (by rw [e]))⟩, by simp [ChangeMaps.setBlock]⟩
    · rw [h0]
      simp [Instr.mapEntry, run_underlying ht, MapKept.run_getObj_map hb, k.K.check w false hl, h1, hz, MapKept.run_setObj_map _ hb, Result.andThen, ChangeMaps.setBlock, goInt]
    · unfold entL
      rw [if_neg (by rw [h0]; simp)]
      simp [hE]
    · unfold entL
      rw [if_neg (by rw [h0]; simp)]
      intro p hp
      rcases List.mem_append.1 hp with hp | hp
      · exact hk p hp
      · rw [List.mem_singleton.1 hp]; exact ha
  · have hj : es[j]? = some e0 := by simpa using h2
    have hjl : j < es.toList.length := (List.getElem?_eq_some_iff.1 h2).1
    have hlist : (es.modify j fun e' => { e' with key := kv a }).toList = es.toList := by
      rw [Array.toList_modify, ChangeMaps.modify_eq_set _ _ _ _ h2]
      refine List.ext_getElem? fun i => ?_
      by_cases hij : i = j
      · subst hij
        rw [List.getElem?_set_self hjl, h2, ← h3]
      · rw [List.getElem?_set_ne (fun e => hij e.symm)]
    refine ⟨ChangeMaps.setBlock w b (.map (es.modify j fun e' => { e' with key := kv a }) clock), e0.born, ?_, ⟨_, _, ChangeMaps.heap_setBlock_same hb _, stamped_modify hs _ _ (fun _ _ => rfl) (fun e' _ he' => by rw [hj] at he'; cases he'; exact h3.symm), ?_, ?_⟩,
      ⟨_, _, ChangeMaps.heap_setBlock_same hb _, e0, by rw [hlist]; exact List.mem_of_getElem? h2, h3, rfl⟩,
      ⟨rfl, rfl, rfl, by simp [ChangeMaps.setBlock], fun i _ hi => ChangeMaps.heap_setBlock_other hb _ (fun e => hi (by rw [e]))⟩, by simp [ChangeMaps.setBlock]⟩
    · rw [h0]
      simp [Instr.mapEntry, run_underlying ht, MapKept.run_getObj_map hb, k.K.check w false hl, h1, hj, h3, k.K.stays w hl, MapKept.run_setObj_map _ hb, Result.andThen, ChangeMaps.setBlock, goInt]
    · unfold entL
      rw [if_pos (by rw [h0]; rfl), hlist, hE]
    · unfold entL
      rw [if_pos (by rw [h0]; rfl)]
      exact hk
theorem MapIs.run_estore (h : MapIs w kv ok b L) (k : KL P kt kv ok) {t : TypeId} {a : α} (ha : ok a) {n : Nat} (hst : Stamp w b (kv a) n) (v : Value) :
    ∃ w', (Instr.entryStore t (.map (some b)) (.int .i64 (n : Nat)) v).run P w = .ok () w' ∧ MapIs w' kv ok b (upL L a v) ∧ w.grownBy w' (some b) ∧ w'.heap.size = w.heap.size := by
  obtain ⟨es, clock, hb, hs, hE, hk⟩ := h
  obtain ⟨es', clock', hb', e0, he0, h3, h4⟩ := hst
  rw [hb] at hb'
  obtain ⟨rfl, rfl⟩ : es = es' ∧ clock = clock' := by injection hb' with hb'; injection hb' with h1 h2; exact ⟨h1, h2⟩
  obtain ⟨j, h2⟩ := List.getElem?_of_mem he0
  have hj : es[j]? = some e0 := by simpa using h2
  have hjl : j < es.toList.length := (List.getElem?_eq_some_iff.1 h2).1
  have hjs : j < es.size := by simpa using hjl
  have hje : es[j] = e0 := by have := (Array.getElem?_eq_some_iff.1 hj).2; exact this
  have hidx : es.findIdx? (fun e => (e.born : Int) == (n : Int)) = some j := by
    rw [Array.findIdx?_eq_some_iff_getElem]
    refine ⟨hjs, by rw [hje, h4]; simp, fun i hi => ?_⟩
    have hne : es[i].born ≠ e0.born := fun e => by
      have hn := hs.2.1
      have g1 : (es.toList.map (·.born))[i]'(by simp; omega) = (es.toList.map (·.born))[j]'(by simp; omega) := by simp [e, hje]
      have := (List.getElem_inj hn).1 g1
      omega
    simp only [beq_iff_eq]
    intro e
    exact hne (by omega)
  obtain ⟨p0, hp0, h5, h6⟩ := entry_at hE h2
  have hp0a : p0.1 = a := k.inj _ _ (by rw [← h5, h3])
  have hnd : (L.map (·.1)).Nodup := MapIs.nodup (w := w) (kv := kv) (ok := ok) (b := b) ⟨es, clock, hb, hs, hE, hk⟩
  have hlk : lk L a = some p0.2 := lk_of_mem hnd (by rw [← hp0a]; exact List.mem_of_getElem? hp0)
  have hup : upL L a v = L.map (fun p => if p.1 = a then (a, v) else p) := by unfold upL; rw [if_pos (by rw [hlk]; rfl)]
  refine ⟨ChangeMaps.setBlock w b (.map (es.modify j fun e' => { e' with val := v }) clock), ?_, ⟨_, _, ChangeMaps.heap_setBlock_same hb _, stamped_modify hs _ _ (fun _ _ => rfl) (fun _ _ _ => rfl), ?_, ?_⟩,
    ⟨rfl, rfl, rfl, by simp [ChangeMaps.setBlock], fun i _ hi => ChangeMaps.heap_setBlock_other hb _ (fun e => hi (by rw [e]))⟩, by simp [ChangeMaps.setBlock]⟩
  · simp [Instr.entryStore, MapKept.run_getObj_map hb, hidx, MapKept.run_setObj_map _ hb, Result.andThen, ChangeMaps.setBlock, asInt, asIntOf]
  · rw [hup]
    refine List.ext_getElem? fun i => ?_
    rw [List.getElem?_map, List.getElem?_map, List.getElem?_map, Array.toList_modify, ChangeMaps.modify_eq_set _ _ _ _ h2]
    by_cases hij : i = j
    · subst hij
      rw [List.getElem?_set_self hjl, hp0]
      simp [hp0a, h3]
    · rw [List.getElem?_set_ne (fun e => hij e.symm)]
      cases hi : es.toList[i]? with
      | none =>
        have : L[i]? = none := by
          have := congrArg (fun l => l[i]?) hE
          simp only [List.getElem?_map, hi] at this
          cases hl : L[i]? with
          | none => rfl
          | some p => rw [hl] at this; cases this
        rw [this]; rfl
      | some e1 =>
        obtain ⟨p, hp, h7, h8⟩ := entry_at hE hi
        rw [hp]
        have hne : ¬ p.1 = a := fun e => by
          have hil : i < L.length := (List.getElem?_eq_some_iff.1 hp).1
          have hjl' : j < L.length := (List.getElem?_eq_some_iff.1 hp0).1
          have g1 : L[i] = p := (List.getElem?_eq_some_iff.1 hp).2
          have g2 : L[j] = p0 := (List.getElem?_eq_some_iff.1 hp0).2
          have g3 : (L.map (·.1))[i]'(by simpa using hil) = (L.map (·.1))[j]'(by simpa using hjl') := by simp [g1, g2, e, hp0a]
          exact hij ((List.getElem_inj hnd).1 g3)
        simp [hne, h7, h8]
  · rw [hup]
    intro p hp
    obtain ⟨q, hq, rfl⟩ := List.mem_map.1 hp
    by_cases e : q.1 = a
    · rw [if_pos e]; exact ha
    · rw [if_neg e]; exact hk q hq
theorem wpList_mapentry {ops : Array Oper} {rest : List Oper} {o : Oper} {A : Act} {Q : Exit → Act → World → Prop} (hg : o.guard = none) (m x : Operand) (t : TypeId) (hop : o.op = Op.mapEntry t m x)
    (k : KL P kt kv ok) {e : TypeId} (ht : P.underlying t = some (.map kt e)) {z : Value} (hz : ∀ W, (zeroValue e).run P W = .ok z W) (hm : A.eval m = .map (some b)) (h : MapIs w kv ok b L) (a : α) (hx : A.eval x = kv a) (ha : ok a)
    (hK : ∀ w' n, MapIs w' kv ok b (entL L a z) → Stamp w' b (kv a) n → w.grownBy w' (some b) → w'.heap.size = w.heap.size → wpList P ops Q rest (A.put o.dst (.tuple #[(lk L a).getD z, .int .i64 (n : Nat)])) w') :
    wpList P ops Q (o :: rest) A w := by
  refine wpList_plain hg fun K' hK' => ?_
  obtain ⟨w', n, hrun, h1, h2, h3, h4⟩ := h.run_entry k ht hz ha
  unfold Oper.wp
  simp [execOp, hop, hm, hx, hrun, Result.andThen]
  exact hK' _ _ (hK w' n h1 h2 h3 h4)
theorem wpList_estore {ops : Array Oper} {rest : List Oper} {o : Oper} {A : Act} {Q : Exit → Act → World → Prop} (hg : o.guard = none) (m x v : Operand) (t : TypeId) (hop : o.op = Op.entryStore t m x v)
    (k : KL P kt kv ok) (n : Nat) (hm : A.eval m = .map (some b)) (h : MapIs w kv ok b L) (a : α) (ha : ok a) (hst : Stamp w b (kv a) n) (hx : A.eval x = .int .i64 (n : Nat)) (val : Value) (hv : A.eval v = val)
    (hK : ∀ w', MapIs w' kv ok b (upL L a val) → w.grownBy w' (some b) → w'.heap.size = w.heap.size → wpList P ops Q rest (A.put o.dst undef) w') :
    wpList P ops Q (o :: rest) A w := by
  refine wpList_plain hg fun K' hK' => ?_
  obtain ⟨w', hrun, h1, h2, h3⟩ := h.run_estore k (t := t) ha hst val
  unfold Oper.wp
  simp [execOp, hop, hm, hx, hv, hrun, Result.andThen]
  exact hK' _ _ (hK w' h1 h2 h3)
end

/-! Ranging. -/
/-- 'for k, v := range m' under way: map b with the entries L, iterator r; left: what is still to come. -/
def RangeIs {α : Type} (w : World) (kv : α → Value) (ok : α → Prop) (b r : Nat) (L left : List (α × Value)) : Prop :=
  ∃ es clock since seen c0, w.heap[b]? = some (.map es clock) ∧ Stamped es clock ∧ (es.toList.map fun e => (e.key, e.val)) = L.map (fun p => (kv p.1, p.2)) ∧ (∀ p ∈ L, ok p.1) ∧
    w.heap[r]? = some (.mapIter (some b) since seen c0) ∧ (∀ x ∈ es.toList, x.born < since) ∧ since ≤ c0 ∧ since ≤ clock ∧ ((leftOf es seen).toList.map fun e => (e.key, e.val)) = left.map (fun p => (kv p.1, p.2)) ∧ ∀ p ∈ left, p ∈ L
theorem left_push {es : Array MapEntry} {seen : Array Nat} {e : MapEntry} {s1 s2 : List MapEntry} (hn : (es.toList.map (·.born)).Nodup) (h : (leftOf es seen).toList = s1 ++ e :: s2) : (leftOf es (seen.push e.born)).toList = s1 ++ s2 := by
  have h1 : (leftOf es (seen.push e.born)).toList = (leftOf es seen).toList.filter (fun x => !(x.born == e.born)) := by
    unfold leftOf
    rw [Array.toList_filter, Array.toList_filter, List.filter_filter]
    refine List.filter_congr fun x _ => ?_
    rw [contains_push]
    cases seen.contains x.born <;> cases (x.born == e.born) <;> rfl
  have h2 : ((leftOf es seen).toList.map (·.born)).Nodup := by
    unfold leftOf
    rw [Array.toList_filter]
    exact (List.filter_sublist.map _).nodup hn
  rw [h, List.map_append, List.map_cons, List.nodup_append] at h2
  obtain ⟨_, h4, h5⟩ := h2
  rw [List.nodup_cons] at h4
  rw [h1, h, List.filter_append, List.filter_cons_of_neg (by simp)]
  congr 1
  · refine List.filter_eq_self.2 fun x hx => ?_
    have := h5 x.born (List.mem_map.2 ⟨x, hx, rfl⟩) e.born (by simp)
    simp [this]
  · refine List.filter_eq_self.2 fun x hx => ?_
    have : x.born ≠ e.born := fun e1 => h4.1 (by rw [← e1]; exact List.mem_map.2 ⟨x, hx, rfl⟩)
    simp [this]
section
variable {α : Type} {P : Program} {w w' : World} {kv : α → Value} {ok : α → Prop} {b r : Nat} {L left : List (α × Value)}
theorem RangeIs.map (h : RangeIs w kv ok b r L left) : MapIs w kv ok b L := by
  obtain ⟨es, clock, since, seen, c0, hb, hs, hE, hk, _⟩ := h
  exact ⟨es, clock, hb, hs, hE, hk⟩
theorem RangeIs.ltr (h : RangeIs w kv ok b r L left) : r < w.heap.size := by
  obtain ⟨es, clock, since, seen, c0, hb, hs, hE, hk, hr, _⟩ := h
  exact (Array.getElem?_eq_some_iff.1 hr).1
theorem RangeIs.ne (h : RangeIs w kv ok b r L left) : r ≠ b := by
  obtain ⟨es, clock, since, seen, c0, hb, hs, hE, hk, hr, _⟩ := h
  intro e
  rw [e, hb] at hr
  cases hr
theorem RangeIs.of_block (h : RangeIs w kv ok b r L left) (e : w'.heap[b]? = w.heap[b]?) (e' : w'.heap[r]? = w.heap[r]?) : RangeIs w' kv ok b r L left := by
  obtain ⟨es, clock, since, seen, c0, hb, hs, hE, hk, hr, rest⟩ := h
  exact ⟨es, clock, since, seen, c0, e.trans hb, hs, hE, hk, e'.trans hr, rest⟩
theorem RangeIs.kept (h : RangeIs w kv ok b r L left) {row : Option Nat} (hg : w.grownBy w' row) (hne : some b ≠ row) (hner : some r ≠ row) : RangeIs w' kv ok b r L left :=
  h.of_block (hg.block b h.map.lt hne) (hg.block r h.ltr hner)
theorem RangeIs.below {B : Nat} (h : RangeIs w kv ok b r L left) (hb : Below B w w') (hlt : b < B) (hr : r < B) : RangeIs w' kv ok b r L left := h.of_block (hb.block b hlt) (hb.block r hr)
theorem RangeIs.alloc (h : RangeIs w kv ok b r L left) (o : Obj) : RangeIs (w.alloc o) kv ok b r L left := h.of_block (Below.heap_alloc w o b h.map.lt) (Below.heap_alloc w o r h.ltr)
theorem RangeIs.set_ (h : RangeIs w kv ok b r L left) {p : Addr} (hp : b ≠ p.block) (hp' : r ≠ p.block) (u : Value) : RangeIs (w.setCell p u) kv ok b r L left := h.of_block (Below.heap_setCell w p u b hp) (Below.heap_setCell w p u r hp')
/-- How many are still to come, read off the world. -/
theorem RangeIs.left_eq (h : RangeIs w kv ok b r L left) : w.rangeLeft b r = left.length := by
  obtain ⟨es, clock, since, seen, c0, hb, hs, hE, hk, hr, _, _, _, hl, _⟩ := h
  simp only [World.rangeLeft, hb, hr]
  have := congrArg List.length hl
  simpa using this
theorem MapIs.run_range (h : MapIs w kv ok b L) {t kt e : TypeId} (ht : P.underlying t = some (.map kt e)) :
    (Instr.range t (.map (some b))).run P w = .ok (.pointer (some ⟨w.heap.size, 0, none⟩)) (w.alloc (.mapIter (some b) (match w.heap[b]? with | some (.map _ c) => c | _ => 0) #[] (match w.heap[b]? with | some (.map _ c) => c | _ => 0))) ∧
    RangeIs (w.alloc (.mapIter (some b) (match w.heap[b]? with | some (.map _ c) => c | _ => 0) #[] (match w.heap[b]? with | some (.map _ c) => c | _ => 0))) kv ok b w.heap.size L L := by
  have hlt := h.lt
  obtain ⟨es, clock, hb, hs, hE, hk⟩ := h
  simp only [hb]
  refine ⟨run_range_map w t kt e b es clock ht hb, es, clock, clock, #[], clock, ((MapKept.heap_alloc w _).2 b hlt).trans hb, hs, hE, hk, (MapKept.heap_alloc w _).1, hs.1, Nat.le_refl _, Nat.le_refl _, ?_, fun p hp => hp⟩
  have e : (leftOf es #[]).toList = es.toList := by
    unfold leftOf
    rw [Array.toList_filter]
    exact List.filter_eq_self.2 (by simp)
  rw [e]; exact hE
/-- The step. -/
theorem RangeIs.next (h : RangeIs w kv ok b r L left) (ty : TypeId) :
    (left = [] ∧ (Instr.next (.pointer (some ⟨r, 0, none⟩)) false ty).run P w = .ok (.tuple #[.bool false]) w) ∨
    ∃ l1 a v l2 w', left = l1 ++ (a, v) :: l2 ∧ (a, v) ∈ L ∧ (Instr.next (.pointer (some ⟨r, 0, none⟩)) false ty).run P w = .ok (.tuple #[.bool true, kv a, v]) w' ∧ RangeIs w' kv ok b r L (l1 ++ l2) ∧ w.grownBy w' (some r) ∧ w'.heap.size = w.heap.size ∧
      (Instr.entry (.pointer (some ⟨r, 0, none⟩))).run P w' = .ok (.tuple #[kv a, v]) w' := by
  have hne := h.ne
  obtain ⟨es, clock, since, seen, c0, hb, hs, hE, hk, hr, hold, hsc, hsk, hl, hsub⟩ := h
  rcases run_next_at (P := P) w ty r b since c0 seen es clock hr hb hold hsc with ⟨h0, hrun⟩ | ⟨e, he, w1, hal, hrun⟩
  · refine .inl ⟨?_, hrun⟩
    have := congrArg List.length hl
    simp only [List.length_map, Array.length_toList, h0] at this
    exact List.eq_nil_of_length_eq_zero this.symm
  · have hr1 : w1.heap[r]? = some (.mapIter (some b) since seen c0) := by rcases hal with rfl | rfl <;> exact hr
    have hb1 : w1.heap[b]? = some (.map es clock) := by rcases hal with rfl | rfl <;> exact hb
    have hset := heap_set (o' := .mapIter (some b) since (seen.push e.born) clock) hr1
    have hb' : (ChangeMaps.setBlock w1 r (.mapIter (some b) since (seen.push e.born) clock)).heap[b]? = some (.map es clock) := (hset.2 b (fun e1 => hne e1.symm)).trans hb1
    obtain ⟨hem, hes⟩ := mem_left he
    obtain ⟨s1, s2, hsp⟩ := List.append_of_mem he
    have hborn : (es.toList.map (·.born)).Nodup := hs.2.1
    have hnew := left_push hborn hsp
    rw [hsp, List.map_append, List.map_cons] at hl
    obtain ⟨l1, l3, rfl, h1, h3⟩ := List.map_eq_append_iff.1 hl.symm
    obtain ⟨p, l2, rfl, h4, h5⟩ := List.map_eq_cons_iff.1 h3
    have hp := Prod.mk.inj h4
    have hL : p ∈ L := hsub p (by simp)
    refine .inr ⟨l1, p.1, p.2, l2, _, rfl, hL, ?_, ⟨es, clock, since, seen.push e.born, clock, hb', hs, hE, hk, hset.1, hold, hsk, hsk, ?_, fun q hq => hsub q (by rcases List.mem_append.1 hq with h | h <;> simp [h])⟩, ?_, ?_, ?_⟩
    · rw [hp.1, hp.2]; exact hrun
    · rw [hnew, List.map_append, List.map_append, h1, h5]
    · rcases hal with rfl | rfl <;> exact ⟨rfl, rfl, rfl, by simp [ChangeMaps.setBlock], fun i _ hi => hset.2 i (fun e1 => hi (by rw [e1]))⟩
    · rcases hal with rfl | rfl <;> simp [ChangeMaps.setBlock]
    · rw [hp.1, hp.2]
      exact run_entry_at _ r b since seen es clock e hset.1 hb' hem hborn
theorem wpList_range_is {ops : Array Oper} {rest : List Oper} {o : Oper} {A : Act} {Q : Exit → Act → World → Prop} (hg : o.guard = none) (m : Operand) (t : TypeId) (hop : o.op = Op.range t m) {kt e : TypeId} (ht : P.underlying t = some (.map kt e))
    (hm : A.eval m = .map (some b)) (h : MapIs w kv ok b L)
    (hK : ∀ w', RangeIs w' kv ok b w.heap.size L L → w.grownBy w' none → w'.heap.size = w.heap.size + 1 → wpList P ops Q rest (A.put o.dst (.pointer (some ⟨w.heap.size, 0, none⟩))) w') :
    wpList P ops Q (o :: rest) A w := by
  refine wpList_plain hg fun K' hK' => ?_
  obtain ⟨hrun, h1⟩ := h.run_range ht
  unfold Oper.wp
  simp [execOp, hop, hm, hrun, Result.andThen]
  exact hK' _ _ (hK _ h1 (World.grownBy_alloc w _ none) (by simp))
theorem wpList_next_is {ops : Array Oper} {rest : List Oper} {o : Oper} {A : Act} {Q : Exit → Act → World → Prop} (hg : o.guard = none) (it : Operand) (hop : o.op = Op.next it false)
    (hit : A.eval it = .pointer (some ⟨r, 0, none⟩)) (h : RangeIs w kv ok b r L left)
    (hDone : left = [] → wpList P ops Q rest (A.put o.dst (.tuple #[.bool false])) w)
    (hMore : ∀ l1 a v l2 w', left = l1 ++ (a, v) :: l2 → (a, v) ∈ L → RangeIs w' kv ok b r L (l1 ++ l2) → w.grownBy w' (some r) → w'.heap.size = w.heap.size → (Instr.entry (.pointer (some ⟨r, 0, none⟩))).run P w' = .ok (.tuple #[kv a, v]) w' →
      wpList P ops Q rest (A.put o.dst (.tuple #[.bool true, kv a, v])) w') :
    wpList P ops Q (o :: rest) A w := by
  refine wpList_plain hg fun K' hK' => ?_
  unfold Oper.wp
  rcases h.next (P := P) o.type with ⟨h0, hrun⟩ | ⟨l1, a, v, l2, w', h1, h2, hrun, h3, h4, h5, h6⟩
  · simp [execOp, hop, hit, hrun, Result.andThen]
    exact hK' _ _ (hDone h0)
  · simp [execOp, hop, hit, hrun, Result.andThen]
    exact hK' _ _ (hMore l1 a v l2 w' h1 h2 h3 h4 h5 h6)
end
end Gm

/- Text LbP. -/
namespace Gm
set_option linter.unusedSimpArgs false
set_option linter.unusedVariables false
/-- How many labels in front are less. -/
def posI (x : Int) : List Int → Nat
  | [] => 0
  | y :: l => if y < x then posI x l + 1 else 0
/-- A label among others, in its place, if it is not there. -/
def insI (x : Int) (l : List Int) : List Int := if posI x l < l.length ∧ l.getD (posI x l) 0 = x then l else l.take (posI x l) ++ [x] ++ l.drop (posI x l)
theorem posI_le (x : Int) : ∀ l, posI x l ≤ l.length
  | [] => Nat.le_refl _
  | y :: l => by
    unfold posI
    have := posI_le x l
    rw [List.length_cons]
    split <;> omega
theorem posI_step (x : Int) : ∀ (l : List Int) (j : Nat), j ≤ posI x l → ((j < l.length ∧ l.getD j 0 < x) ↔ j < posI x l)
  | [], j, h => by simp [posI]
  | y :: l, j, h => by
    unfold posI at h ⊢
    by_cases hy : y < x
    · rw [if_pos hy] at h ⊢
      cases j with
      | zero => simp [hy]
      | succ j =>
        have := posI_step x l j (by omega)
        rw [List.length_cons, List.getD_cons_succ]
        omega
    · rw [if_neg hy] at h ⊢
      obtain rfl : j = 0 := by omega
      simp [hy]
theorem posI_less (x : Int) : ∀ (l : List Int), ∀ y ∈ l.take (posI x l), y < x
  | [], y, h => by simp at h
  | z :: l, y, h => by
    unfold posI at h
    by_cases hz : z < x
    · rw [if_pos hz, List.take_succ_cons] at h
      rcases List.mem_cons.1 h with rfl | h
      · exact hz
      · exact posI_less x l y h
    · rw [if_neg hz] at h; simp at h
theorem posI_more {x : Int} : ∀ {l : List Int}, l.Pairwise (· < ·) → ∀ y ∈ l.drop (posI x l), x ≤ y
  | [], _, y, h => by simp at h
  | z :: l, hs, y, h => by
    unfold posI at h
    obtain ⟨h1, h2⟩ := List.pairwise_cons.1 hs
    by_cases hz : z < x
    · rw [if_pos hz, List.drop_succ_cons] at h
      exact posI_more h2 y h
    · rw [if_neg hz, List.drop_zero] at h
      rcases List.mem_cons.1 h with rfl | h
      · omega
      · have := h1 y h; omega
theorem insI_mem {x : Int} {l : List Int} {y : Int} : y ∈ insI x l ↔ y = x ∨ y ∈ l := by
  unfold insI
  by_cases h : posI x l < l.length ∧ l.getD (posI x l) 0 = x
  · rw [if_pos h]
    refine ⟨.inr, ?_⟩
    rintro (rfl | hy)
    · have : l[posI y l]'h.1 ∈ l := List.getElem_mem _
      have e : l.getD (posI y l) 0 = l[posI y l]'h.1 := by simp [List.getD, h.1]
      rw [← e, h.2] at this
      exact this
    · exact hy
  · rw [if_neg h]
    have e : l.take (posI x l) ++ l.drop (posI x l) = l := List.take_append_drop _ _
    constructor
    · intro hy
      simp only [List.mem_append, List.mem_singleton] at hy
      rcases hy with (hy | hy) | hy
      · exact .inr (List.mem_of_mem_take hy)
      · exact .inl hy
      · exact .inr (List.mem_of_mem_drop hy)
    · intro hy
      simp only [List.mem_append, List.mem_singleton]
      rcases hy with hy | hy
      · exact .inl (.inr hy)
      · rw [← e, List.mem_append] at hy
        rcases hy with hy | hy
        · exact .inl (.inl hy)
        · exact .inr hy
theorem insI_sorted {x : Int} {l : List Int} (hs : l.Pairwise (· < ·)) : (insI x l).Pairwise (· < ·) := by
  unfold insI
  by_cases h : posI x l < l.length ∧ l.getD (posI x l) 0 = x
  · rw [if_pos h]; exact hs
  · rw [if_neg h]
    have e : l.take (posI x l) ++ l.drop (posI x l) = l := List.take_append_drop _ _
    have hs' := hs
    rw [← e] at hs'
    obtain ⟨h1, h2, h3⟩ := List.pairwise_append.1 hs'
    have hgt : ∀ y ∈ l.drop (posI x l), x < y := fun y hy => by
      have h4 := posI_more hs y hy
      rcases Int.lt_or_eq_of_le h4 with g | g
      · exact g
      · exfalso
        obtain ⟨i, hi, hg⟩ := List.mem_iff_getElem.1 hy
        have hp : posI x l < l.length := by rw [List.length_drop] at hi; omega
        have hd : l.drop (posI x l) = l[posI x l] :: l.drop (posI x l + 1) := List.drop_eq_getElem_cons hp
        have h5 : x ≤ l[posI x l] := posI_more hs _ (by rw [hd]; exact List.mem_cons_self)
        have h6 : l[posI x l] ≠ x := fun e => h ⟨hp, by simp [List.getD, hp, e]⟩
        rw [hd] at h2 hy
        rcases List.mem_cons.1 hy with e1 | e1
        · omega
        · have := (List.pairwise_cons.1 h2).1 y e1; omega
    refine List.pairwise_append.2 ⟨List.pairwise_append.2 ⟨h1, List.pairwise_singleton _ _, fun a ha b hb => ?_⟩, h2, fun a ha b hb => ?_⟩
    · rw [List.mem_singleton.1 hb]; exact posI_less x l a ha
    · rcases List.mem_append.1 ha with ha | ha
      · exact h3 a ha b hb
      · rw [List.mem_singleton.1 ha]; exact hgt b hb
theorem insI_len (x : Int) (l : List Int) : (insI x l).length ≤ l.length + 1 := by
  unfold insI
  split
  · omega
  · have := posI_le x l
    simp only [List.length_append, List.length_take, List.length_drop, List.length_cons, List.length_nil]
    omega
theorem insI_no {x : Int} {l : List Int} (h : ¬ (posI x l < l.length ∧ l.getD (posI x l) 0 = x)) : insI x l = l.take (posI x l) ++ [x] ++ l.drop (posI x l) := if_neg h
theorem insI_yes {x : Int} {l : List Int} (h : posI x l < l.length ∧ l.getD (posI x l) 0 = x) : insI x l = l := if_pos h
/-- The labels of some arcs. -/
def labsR (l : List Arc) : List Int := l.foldl (fun s a => if a.i = 0 then s else insI a.i s) []
theorem labsR_snoc (l : List Arc) (a : Arc) : labsR (l ++ [a]) = if a.i = 0 then labsR l else insI a.i (labsR l) := by
  unfold labsR
  rw [List.foldl_append]
  rfl
theorem labsR_ind {P : List Arc → List Int → Prop} (h0 : P [] []) (h1 : ∀ l a s, P l s → P (l ++ [a]) (if a.i = 0 then s else insI a.i s)) (l : List Arc) : P l (labsR l) := by
  have h : ∀ (k p : List Arc) (s : List Int), P p s → P (p ++ k) (k.foldl (fun s a => if a.i = 0 then s else insI a.i s) s) := by
    intro k
    induction k with
    | nil => intro p s hp; simpa using hp
    | cons a k ih =>
      intro p s hp
      have := ih (p ++ [a]) _ (h1 p a s hp)
      rw [List.append_assoc] at this
      exact this
  exact h l [] [] h0
theorem labsR_sorted (l : List Arc) : (labsR l).Pairwise (· < ·) :=
  labsR_ind (P := fun _ s => s.Pairwise (· < ·)) .nil (fun l a s h => by
    split
    · exact h
    · exact insI_sorted h) l
theorem labsR_mem (l : List Arc) : ∀ x, x ∈ labsR l ↔ x ≠ 0 ∧ ∃ a ∈ l, a.i = x :=
  labsR_ind (P := fun l s => ∀ x, x ∈ s ↔ x ≠ 0 ∧ ∃ a ∈ l, a.i = x) (fun x => by simp) (fun l a s h x => by
    have e : (∃ b ∈ l ++ [a], b.i = x) ↔ (∃ b ∈ l, b.i = x) ∨ a.i = x := by
      constructor
      · rintro ⟨b, hb, he⟩
        rcases List.mem_append.1 hb with hb | hb
        · exact .inl ⟨b, hb, he⟩
        · rw [List.mem_singleton.1 hb] at he; exact .inr he
      · rintro (⟨b, hb, he⟩ | he)
        · exact ⟨b, List.mem_append.2 (.inl hb), he⟩
        · exact ⟨a, List.mem_append.2 (.inr (List.mem_singleton.2 rfl)), he⟩
    rw [e]
    by_cases h0 : a.i = 0
    · rw [if_pos h0, h x]
      constructor
      · rintro ⟨h1, h2⟩; exact ⟨h1, .inl h2⟩
      · rintro ⟨h1, h2 | h2⟩
        · exact ⟨h1, h2⟩
        · omega
    · rw [if_neg h0, insI_mem, h x]
      constructor
      · rintro (rfl | ⟨h1, h2⟩)
        · exact ⟨h0, .inr rfl⟩
        · exact ⟨h1, .inl h2⟩
      · rintro ⟨h1, h2 | h2⟩
        · exact .inr ⟨h1, h2⟩
        · exact .inl h2.symm) l
theorem labsR_len (l : List Arc) : (labsR l).length ≤ l.length :=
  labsR_ind (P := fun l s => s.length ≤ l.length) (Nat.le_refl _) (fun l a s h => by
    rw [List.length_append, List.length_singleton]
    split
    · omega
    · have := insI_len a.i s; omega) l
/-- The machine that copies the words of these labels. -/
def cpM (ls : List Int) : Mach := ⟨1, ls.map fun l => ⟨0, 0, l, l, 0⟩, [⟨0, 0⟩]⟩
end Gm

/- Text NlL. -/
namespace Gm
open Go Go.RowKit
set_option linter.unusedSimpArgs false
set_option linter.unusedVariables false
/-- A list of lists of numbers, as a value; it lies below block B. -/
def NumsL (w : World) (B : Nat) (v : Value) (L : List (List Int)) : Prop :=
  ∃ A n c, v = .slice A n c ∧ Hid (L.length = n) ∧ n ≤ c ∧ n ≤ big ∧ ∃ vs : Nat → Value, Rd w B 1 A n (fun i _ => vs i) ∧ ∀ i, i < n → Nums w B (vs i) (L.getD i [])
theorem NumsL.below {w w' : World} {B B' : Nat} {v : Value} {L : List (List Int)} (h : NumsL w B v L) (hb : Below B' w w') (hB : B ≤ B') : NumsL w' B v L := by
  obtain ⟨A, n, c, h1, h2, h3, h4, vs, h5, h6⟩ := h
  exact ⟨A, n, c, h1, h2, h3, h4, vs, h5.below hb hB, fun i hi => (h6 i hi).below hb hB⟩
theorem NumsL.mono {w : World} {B B' : Nat} {v : Value} {L : List (List Int)} (h : NumsL w B v L) (hB : B ≤ B') : NumsL w B' v L := by
  obtain ⟨A, n, c, h1, h2, h3, h4, vs, h5, h6⟩ := h
  exact ⟨A, n, c, h1, h2, h3, h4, vs, h5.mono hB, fun i hi => (h6 i hi).mono hB⟩
/-- The rows, as they are read. -/
def RdL (w : World) (B : Nat) (A : Option Addr) (n : Nat) (L : List (List Int)) : Prop := ∃ vs : Nat → Value, Rd w B 1 A n (fun i _ => vs i) ∧ ∀ i, i < n → Nums w B (vs i) (L.getD i [])
theorem RdL.below {w w' : World} {B B' n : Nat} {A : Option Addr} {L : List (List Int)} (h : RdL w B A n L) (hb : Below B' w w') (hB : B ≤ B') : RdL w' B A n L := by
  obtain ⟨vs, h5, h6⟩ := h
  exact ⟨vs, h5.below hb hB, fun i hi => (h6 i hi).below hb hB⟩
theorem RdL.mono {w : World} {B B' n : Nat} {A : Option Addr} {L : List (List Int)} (h : RdL w B A n L) (hB : B ≤ B') : RdL w B' A n L := by
  obtain ⟨vs, h5, h6⟩ := h
  exact ⟨vs, h5.mono hB, fun i hi => (h6 i hi).mono hB⟩
theorem row_at {w : World} {B n : Nat} {A : Option Addr} {L : List (List Int)} (h : RdL w B A n L) {k : Nat} (hk : k < n) :
    ∃ b off A' n' c' r, A = some ⟨b, off, none⟩ ∧ b < B ∧ w.cell? ⟨b, off + k, none⟩ = some (.slice A' n' c') ∧ Hid (L.getD k [] = r) ∧ Hid (r.length = n') ∧ n' ≤ c' ∧ n' ≤ big ∧ Rd w B 1 A' n' (intCell r) := by
  obtain ⟨vs, h1, h2⟩ := h
  obtain ⟨b, off, h3, h4, h5⟩ := h1.at1 hk
  obtain ⟨A', n', c', g1, g2, g3, g4, g5⟩ := h2 k hk
  rw [g1] at h5
  exact ⟨b, off, A', n', c', L.getD k [], h3, h4, h5, hide rfl, g2, g3, g4, g5⟩
theorem nums_own {w : World} {base : Nat} {e : TypeId} {v : Value} {n : Nat} {l : List Int} (h : w.ownsRow base e 1 v n (intRow l)) (hn : n ≤ big) : Nums w w.heap.size v l := by
  obtain ⟨A, c, rfl, hnc, _⟩ := own_value h
  have hl : l.length = n := by have := h.1; rw [intRow_length] at this; omega
  exact ⟨A, n, c, rfl, hide hl, hnc, hn, Rd.of_own h (hl ▸ intRow_at l)⟩
/-- A slice of slices that the call makes by appending rows. -/
structure OwnM (w : World) (base : Nat) (eO eI : TypeId) (sz : Nat) (v : Value) (n : Nat) (vs : Nat → Value) (L : Nat → List Value) (m : Nat → Nat) : Prop where
  out : w.ownsRow base eO 1 v n ((List.range n).map vs)
  own : ∀ i, i < n → w.ownsRow base eI sz (vs i) (m i) (L i)
  dis : ∀ i j, i < n → j < n → i ≠ j → (vs i).ownBlock = none ∨ (vs i).ownBlock ≠ (vs j).ownBlock
section
variable {w w1 : World} {base : Nat} {eO eI : TypeId} {sz n : Nat} {v : Value} {vs : Nat → Value} {L : Nat → List Value} {m : Nat → Nat}
theorem OwnM.nil (w : World) (base : Nat) (eO eI : TypeId) (sz : Nat) (vs : Nat → Value) (L : Nat → List Value) (m : Nat → Nat) : OwnM w base eO eI sz (.slice none 0 0) 0 vs L m :=
  ⟨World.ownsRow_nil _ _ _ _, fun i h => by omega, fun i j h => by omega⟩
theorem OwnM.kept (h : OwnM w base eO eI sz v n vs L m) {row : Option Nat} (hg : w.grownBy w1 row) (h1 : v.ownBlock = none ∨ v.ownBlock ≠ row) (h2 : ∀ i, i < n → (vs i).ownBlock = none ∨ (vs i).ownBlock ≠ row) : OwnM w1 base eO eI sz v n vs L m :=
  ⟨h.out.kept hg h1, fun i hi => (h.own i hi).kept hg (h2 i hi), h.dis⟩
theorem OwnM.below (h : OwnM w base eO eI sz v n vs L m) (hb : Below w.heap.size w w1) : OwnM w1 base eO eI sz v n vs L m :=
  h.kept (row := none) ⟨hb.os, hb.tape, hb.output, hb.size, fun k hk _ => hb.block k hk⟩ (by cases v.ownBlock <;> simp) (fun i _ => by cases (vs i).ownBlock <;> simp)
theorem OwnM.alloc (h : OwnM w base eO eI sz v n vs L m) (o : Obj) : OwnM (w.alloc o) base eO eI sz v n vs L m :=
  ⟨h.out.alloc o, fun i hi => (h.own i hi).alloc o, h.dis⟩
theorem OwnM.drew (h : OwnM w base eO eI sz v n vs L m) : OwnM w.drew base eO eI sz v n vs L m := ⟨h.out, h.own, h.dis⟩
theorem OwnM.drewN (h : OwnM w base eO eI sz v n vs L m) (k : Nat) : OwnM (w.drewN k) base eO eI sz v n vs L m := ⟨h.out, h.own, h.dis⟩
theorem OwnM.far (h : OwnM w base eO eI sz v n vs L m) {p : Addr} (hp : p.block < base) (u : Value) : OwnM (w.setCell p u) base eO eI sz v n vs L m :=
  ⟨ownsRow_setCell_below h.out hp u, fun i hi => ownsRow_setCell_below (h.own i hi) hp u, h.dis⟩
/-- What is owned from a higher block on lies apart. -/
theorem OwnM.apart (h : OwnM w base eO eI sz v n vs L m) {H s2 n2 : Nat} {e2 : TypeId} {v2 : Value} {x2 : List Value} {w2 : World} (ho : w2.ownsRow H e2 s2 v2 n2 x2) (hH : w.heap.size ≤ H) : (v.ownBlock = none ∨ v.ownBlock ≠ v2.ownBlock) ∧ ∀ i, i < n → (vs i).ownBlock = none ∨ (vs i).ownBlock ≠ v2.ownBlock := by
  have key : ∀ u : Value, (∀ k, u.ownBlock = some k → base ≤ k ∧ k < w.heap.size) → u.ownBlock = none ∨ u.ownBlock ≠ v2.ownBlock := fun u hu => by
    cases e : u.ownBlock with
    | none => exact .inl rfl
    | some k =>
      right
      intro e2
      have := (hu k e).2
      have := (ho.lt k e2.symm).1
      omega
  exact ⟨key v h.out.lt, fun i hi => key (vs i) (h.own i hi).lt⟩
theorem OwnM.push (h : OwnM w base eO eI sz v n vs L m) (hg : w.grownBy w1 v.ownBlock) {v' u : Value} {mu : Nat} {xu : List Value} (hout : w1.ownsRow base eO 1 v' (n + 1) ((List.range n).map vs ++ [u])) (hu : w.ownsRow base eI sz u mu xu) (hd : ∀ i, i < n → (vs i).ownBlock = none ∨ (vs i).ownBlock ≠ u.ownBlock) (hne : eO ≠ eI) :
    OwnM w1 base eO eI sz v' (n + 1) (fun i => if i = n then u else vs i) (fun i => if i = n then xu else L i) (fun i => if i = n then mu else m i) := by
  refine ⟨?_, fun i hi => ?_, fun i j hi hj hij => ?_⟩
  · rw [List.range_succ, List.map_append, List.map_cons, List.map_nil, if_pos rfl]
    rw [show (List.range n).map (fun i => if i = n then u else vs i) = (List.range n).map vs from List.map_congr_left fun i hi => by rw [if_neg (by have := List.mem_range.1 hi; omega)]]
    exact hout
  · by_cases e : i = n
    · simp only [if_pos e]
      exact hu.kept hg (own_ne hu h.out (Ne.symm hne))
    · simp only [if_neg e]
      exact (h.own i (by omega)).kept hg (own_ne (h.own i (by omega)) h.out (Ne.symm hne))
  · by_cases e : i = n
    · by_cases e2 : j = n
      · omega
      · simp only [if_pos e, if_neg e2]
        rcases hd j (by omega) with g | g
        · rw [g]
          cases u.ownBlock <;> simp
        · exact .inr (Ne.symm g)
    · by_cases e2 : j = n
      · simp only [if_neg e, if_pos e2]
        exact hd i (by omega)
      · simp only [if_neg e, if_neg e2]
        exact h.dis i j (by omega) (by omega) hij
/-- A store into one cell of one row. -/
theorem OwnM.store (h : OwnM w base eO eI sz v n vs L m) (hne : eO ≠ eI) {i g c : Nat} (hi : i < n) (hv : vs i = .slice (some ⟨g, 0, none⟩) (m i) c) (j : Nat) (u : Value) :
    OwnM (w.setCell ⟨g, j, none⟩ u) base eO eI sz v n vs (fun k => if k = i then (L i).set j u else L k) m := by
  have h1 := h.own i hi
  rw [hv] at h1
  obtain ⟨h2, hg⟩ := h1.stored j u
  have hob : (vs i).ownBlock = some g := by rw [hv]; rfl
  refine ⟨h.out.kept hg ?_, fun k hk => ?_, h.dis⟩
  · rw [← hob]
    exact own_ne h.out (h.own i hi) hne
  · by_cases e : k = i
    · subst e
      simp only [if_pos]
      rw [hv]
      exact h2
    · simp only [if_neg e]
      refine (h.own k hk).kept hg ?_
      rw [← hob]
      exact h.dis k i hk hi e
theorem OwnM.at_ (h : OwnM w base eO eI sz v n vs L m) {i : Nat} (hi : i < n) : ∃ g c, v = .slice (some ⟨g, 0, none⟩) n c ∧ n ≤ c ∧ base ≤ g ∧ g < w.heap.size ∧ w.cell? ⟨g, i, none⟩ = some (vs i) := by
  obtain ⟨g, c, rfl, h1, h2⟩ := h.out.form (by omega)
  obtain ⟨A, c', e, hnc, _⟩ := own_value h.out
  injection e with _ _ e
  refine ⟨g, c, rfl, by omega, h1, h2, ?_⟩
  rw [h.out.cellAt i (by omega)]
  simp [hi]
theorem OwnM.nums {vs : Nat → Value} {r : Nat → List Int} (h : OwnM w base eO eI 1 v n vs (fun i => intRow (r i)) m) (hn : n ≤ big) (hm : ∀ i, i < n → m i ≤ big) : NumsL w w.heap.size v ((List.range n).map r) := by
  obtain ⟨A, c, rfl, hnc, _⟩ := own_value h.out
  refine ⟨A, n, c, rfl, hide (by simp), hnc, hn, vs, Rd.of_own h.out (fun i j hi hj => ?_), fun i hi => ?_⟩
  · obtain rfl : j = 0 := by omega
    simp [hi]
  · have e : ((List.range n).map r).getD i [] = r i := by simp [List.getD, hi]
    rw [e]
    exact nums_own (h.own i hi) (hm i hi)
end
end Gm
namespace Gm
open Go Go.RowKit
theorem OwnM.congr {w : World} {base : Nat} {eO eI : TypeId} {sz n : Nat} {v : Value} {vs : Nat → Value} {L L' : Nat → List Value} {m m' : Nat → Nat} (h : OwnM w base eO eI sz v n vs L m) (e : ∀ i, i < n → L i = L' i) (e' : ∀ i, i < n → m i = m' i) : OwnM w base eO eI sz v n vs L' m' :=
  ⟨h.out, fun i hi => by rw [← e i hi, ← e' i hi]; exact h.own i hi, h.dis⟩
end Gm
namespace Gm
open Go Go.RowKit
/-- A list of truth values, as a value; it lies below block B. -/
def Bools (w : World) (B : Nat) (v : Value) (l : List Bool) : Prop :=
  ∃ A n c, v = .slice A n c ∧ Hid (l.length = n) ∧ n ≤ c ∧ n ≤ big ∧ Rd w B 1 A n (boolCell l)
theorem Bools.below {w w' : World} {B B' : Nat} {v : Value} {l : List Bool} (h : Bools w B v l) (hb : Below B' w w') (hB : B ≤ B') : Bools w' B v l := by
  obtain ⟨A, n, c, h1, h2, h3, h4, h5⟩ := h
  exact ⟨A, n, c, h1, h2, h3, h4, h5.below hb hB⟩
theorem Bools.mono {w : World} {B B' : Nat} {v : Value} {l : List Bool} (h : Bools w B v l) (hB : B ≤ B') : Bools w B' v l := by
  obtain ⟨A, n, c, h1, h2, h3, h4, h5⟩ := h
  exact ⟨A, n, c, h1, h2, h3, h4, h5.mono hB⟩
theorem bool_at {w : World} {B n : Nat} {A : Option Addr} {l : List Bool} (h : Rd w B 1 A n (boolCell l)) {k : Nat} (hk : k < n) :
    ∃ b off x, A = some ⟨b, off, none⟩ ∧ b < B ∧ w.cell? ⟨b, off + k, none⟩ = some (.bool x) ∧ Hid (l.getD k false = x) := by
  obtain ⟨b, off, h1, h2, h3⟩ := h.at1 hk
  exact ⟨b, off, l.getD k false, h1, h2, h3, hide rfl⟩
end Gm

/- Text GrL. -/
namespace Gm
open Go Go.RowKit
set_option linter.unusedSimpArgs false
set_option linter.unusedVariables false
theorem own_bne {w : World} {base sz n O : Nat} {e t : TypeId} {v : Value} {xs : List Value} {cs : Array Value} (h : w.ownsRow base e sz v n xs) (hb : Blk w O t cs) (hne : e ≠ t) : v.ownBlock ≠ some O := by
  rcases h.2 with ⟨rfl, _⟩ | ⟨g1, c1, cur1, rfl, _, hh1, _⟩
  · simp [Value.ownBlock]
  · intro ev
    have : g1 = O := by simpa [Value.ownBlock] using ev
    subst this
    unfold Blk at hb
    rw [hh1] at hb
    injection hb with hb
    injection hb with _ he
    exact hne he
theorem own_blw {w w' : World} {base sz n : Nat} {e : TypeId} {v : Value} {xs : List Value} (h : w.ownsRow base e sz v n xs) (hb : Below w.heap.size w w') : w'.ownsRow base e sz v n xs :=
  h.kept (row := none) ⟨hb.os, hb.tape, hb.output, hb.size, fun k hk _ => hb.block k hk⟩ (by cases v.ownBlock <;> simp)
theorem own_low {w : World} {b1 b2 sz n : Nat} {e : TypeId} {v : Value} {xs : List Value} (h : w.ownsRow b1 e sz v n xs) (hb : b2 ≤ b1) : w.ownsRow b2 e sz v n xs := by
  obtain ⟨h1, h2⟩ := h
  refine ⟨h1, ?_⟩
  rcases h2 with h2 | ⟨g, cap, cur, e1, e2, e3⟩
  · exact .inl h2
  · exact .inr ⟨g, cap, cur, e1, by omega, e3⟩
theorem own_lenI {w : World} {base q : Nat} {e : TypeId} {v : Value} {l : List Int} (h : w.ownsRow base e 1 v q (intRow l)) : l.length = q := by
  have h1 := h.1
  rw [intRow_length] at h1
  omega
theorem own_lenA {w : World} {base q : Nat} {e : TypeId} {v : Value} {L : List Arc} (h : w.ownsRow base e 5 v q (arcRow L)) : L.length = q := by
  have h1 := h.1
  rw [arcRow_length] at h1
  omega
theorem own_lenF {w : World} {base q : Nat} {e : TypeId} {v : Value} {L : List Fnl} (h : w.ownsRow base e 2 v q (finRow L)) : L.length = q := by
  have h1 := h.1
  rw [finRow_length] at h1
  omega
/-- The block O holds a machine with n0 states, q arcs L and r final states F, in rows of its own at or above base. -/
def Mg (tM tA tF : TypeId) (w : World) (O base : Nat) (n0 : Int) (q : Nat) (L : List Arc) (r : Nat) (F : List Fnl) : Prop :=
  ∃ A c AF cf, Blk w O tM #[.int .i64 n0, .slice A q c, .slice AF r cf] ∧ w.ownsRow base tA 5 (.slice A q c) q (arcRow L) ∧ w.ownsRow base tF 2 (.slice AF r cf) r (finRow F)
section
variable {tM tA tF : TypeId} {w w6 : World} {O base q r : Nat} {n0 : Int} {A AF Av : Option Addr} {c cf cv : Nat} {L : List Arc} {F : List Fnl}
theorem Mg.start (h : Blk w O tM #[.int .i64 n0, .slice none 0 0, .slice none 0 0]) (base : Nat) : Mg tM tA tF w O base n0 0 [] 0 [] := ⟨none, 0, none, 0, h, World.ownsRow_nil _ _ _ _, World.ownsRow_nil _ _ _ _⟩
theorem Mg.below {w' : World} (h : Mg tM tA tF w O base n0 q L r F) (hb : Below w.heap.size w w') : Mg tM tA tF w' O base n0 q L r F := by
  obtain ⟨A, c, AF, cf, h1, h2, h3⟩ := h
  exact ⟨A, c, AF, cf, h1.below hb h1.lt, own_blw h2 hb, own_blw h3 hb⟩
theorem Mg.alloc (h : Mg tM tA tF w O base n0 q L r F) (o : Obj) : Mg tM tA tF (w.alloc o) O base n0 q L r F := by
  obtain ⟨A, c, AF, cf, h1, h2, h3⟩ := h
  exact ⟨A, c, AF, cf, h1.alloc o, h2.alloc o, h3.alloc o⟩
theorem Mg.lt (h : Mg tM tA tF w O base n0 q L r F) : O < w.heap.size := by
  obtain ⟨A, c, AF, cf, h1, _⟩ := h
  exact h1.lt
theorem Mg.lens (h : Mg tM tA tF w O base n0 q L r F) : L.length = q ∧ F.length = r := by
  obtain ⟨A, c, AF, cf, _, h2, h3⟩ := h
  exact ⟨own_lenA h2, own_lenF h3⟩
/-- It is kept when another row of the call's own grows, whose type is another one. -/
theorem Mg.own (h : Mg tM tA tF w O base n0 q L r F) {b2 s2 n2 : Nat} {e2 : TypeId} {v2 : Value} {x2 : List Value} (ho : w.ownsRow b2 e2 s2 v2 n2 x2) (hM : e2 ≠ tM) (hA : tA ≠ e2) (hF : tF ≠ e2) (hg : w.grownBy w6 v2.ownBlock) : Mg tM tA tF w6 O base n0 q L r F := by
  obtain ⟨A, c, AF, cf, h1, h2, h3⟩ := h
  exact ⟨A, c, AF, cf, h1.grown hg (Ne.symm (own_bne ho h1 hM)), h2.kept hg (own_ne h2 ho hA), h3.kept hg (own_ne h3 ho hF)⟩
/-- A store into a block below its rows that is not its own. -/
theorem Mg.far (h : Mg tM tA tF w O base n0 q L r F) {p : Addr} (hO : O ≠ p.block) (hp : p.block < base) (u : Value) : Mg tM tA tF (w.setCell p u) O base n0 q L r F := by
  obtain ⟨A, c, AF, cf, h1, h2, h3⟩ := h
  exact ⟨A, c, AF, cf, h1.far hO u, ownsRow_setCell_below h2 hp u, ownsRow_setCell_below h3 hp u⟩
theorem mg_pushA (bO : Blk w O tM #[.int .i64 n0, .slice A q c, .slice AF r cf]) (hA : w.ownsRow base tA 5 (.slice A q c) q (arcRow L))
    (hF : w.ownsRow base tF 2 (.slice AF r cf) r (finRow F)) (h1 : tA ≠ tM) (h2 : tF ≠ tM) (h3 : tF ≠ tA) {x : Arc} (hg : w.grownBy w6 (Value.slice A q c).ownBlock) (hown : w6.ownsRow base tA 5 (.slice Av (q + 1) cv) (q + 1) (arcRow L ++ arcRow [x])) :
    Mg tM tA tF (w6.setCell ⟨O, 1, none⟩ (.slice Av (q + 1) cv)) O base n0 (q + 1) (L ++ [x]) r F := by
  have b6 := bO.grown hg (Ne.symm (own_bne hA bO h1))
  have hF6 := hF.kept hg (own_ne hF hA h3)
  exact ⟨Av, cv, AF, cf, b6.set_ 1 _, ownsRow_setCell_other (by rw [arcRow_append]; exact hown) (own_bne hown b6 h1) _, ownsRow_setCell_other hF6 (own_bne hF6 b6 h2) _⟩
theorem mg_pushF (bO : Blk w O tM #[.int .i64 n0, .slice A q c, .slice AF r cf]) (hA : w.ownsRow base tA 5 (.slice A q c) q (arcRow L))
    (hF : w.ownsRow base tF 2 (.slice AF r cf) r (finRow F)) (h1 : tA ≠ tM) (h2 : tF ≠ tM) (h3 : tA ≠ tF) {x : Fnl} (hg : w.grownBy w6 (Value.slice AF r cf).ownBlock) (hown : w6.ownsRow base tF 2 (.slice Av (r + 1) cv) (r + 1) (finRow F ++ finRow [x])) :
    Mg tM tA tF (w6.setCell ⟨O, 2, none⟩ (.slice Av (r + 1) cv)) O base n0 q L (r + 1) (F ++ [x]) := by
  have b6 := bO.grown hg (Ne.symm (own_bne hF bO h2))
  have hA6 := hA.kept hg (own_ne hA hF h3)
  exact ⟨A, c, Av, cv, b6.set_ 2 _, ownsRow_setCell_other hA6 (own_bne hA6 b6 h1) _, ownsRow_setCell_other (by rw [finRow_append]; exact hown) (own_bne hown b6 h2) _⟩
theorem mg_at (hA : w.ownsRow base tA 5 (.slice A q c) q (arcRow L)) (hF : w.ownsRow base tF 2 (.slice AF r cf) r (finRow F)) (hq : q ≤ big) (hr : r ≤ big) : MachAt w w.heap.size (.agg #[.int .i64 n0, .slice A q c, .slice AF r cf]) ⟨n0, L, F⟩ := by
  obtain ⟨_, _, ev, hqc, _⟩ := own_value hA
  injection ev with _ _ ev
  obtain ⟨_, _, fv, hrc, _⟩ := own_value hF
  injection fv with _ _ fv
  exact ⟨A, AF, q, c, r, cf, rfl, hide (own_lenA hA), hide (own_lenF hF), by omega, by omega, hq, hr, Rd.of_own hA (fun i j hi hj => arcRow_at _ i j (by rw [own_lenA hA]; exact hi) hj), Rd.of_own hF (fun i j hi hj => finRow_at _ i j (by rw [own_lenF hF]; exact hi) hj)⟩
end
end Gm

