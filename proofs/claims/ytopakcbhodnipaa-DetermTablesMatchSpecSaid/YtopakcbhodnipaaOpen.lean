/- A machine that came in, opened. -/
import Derived.Test.YtopakcbhodnipaaMem
import Derived.Lib.SmallJoins
import Derived.Deep.Slices
import Derived.Deep.Fields
import Derived.ChangeSame
import Derived.SizedLaws
import Derived.Carry
import Derived.Test.YtopakcbhodnipaaChecked
namespace Gm
open Go Go.RowKit Go.ChangeShapes Go.WideShapes Go.Deep
section
variable {H : Type} {enc : TypeId × Value → H} {P : Program} {w : World} {base : Nat} {spare : Nat → Bool} {held : Bool}
theorem open_slice_fields {t e : TypeId} {fs : Array Field} {fuel : Nat} {cs : List Value} {x : DataW H × List MemPlace} (ht : P.underlying t = some (.slice e)) (he : P.underlying e = some (.struct fs))
    (hone : oneCellFields P fs = true) (hC : P.cellsOf e = fs.size) (h : DataW.trod enc P w base spare held fuel t cs = some x) :
    (cs = [.slice none 0 0] ∧ x = (.nil, [])) ∨
    ∃ (a : Addr) (len cap : Nat) (el sp : List (DataW H)) (pl : List MemPlace), cs = [.slice (some a) len cap] ∧ len ≤ cap ∧ x = (.slice el sp, pl) ∧ el.length = len ∧
      ∀ i, i < len → ∃ n, ∀ (j : Nat) (f : Field), fs[j]? = some f → ∃ (v : Value) (y : DataW H × List MemPlace), w.cell? (a.add (i * fs.size + j)) = some v ∧ DataW.trod enc P w base spare held n f.type [v] = some y := by
  rcases open_slice ht h with h0 | ⟨a, len, cap, m, n, D, Pl, hcs, hb, hl, hm, hmm, hx, hi⟩
  · exact .inl h0
  · refine .inr ⟨a, len, cap, _, _, _, hcs, hl, hx, by simp, fun i hil => ?_⟩
    obtain ⟨cs', hc, ht'⟩ := hi i (by rw [hmm]; split <;> omega)
    rw [hC] at hc
    obtain ⟨ys, n', hn', hy, hlen, hyl, hf⟩ := DataW.trod_struct he ht'
    obtain ⟨_, hcl, hat⟩ := World.cells?_some hc
    refine ⟨n', fun j f hj => ?_⟩
    obtain ⟨ho, hk⟩ := hone_of hone j f hj
    have hjl : j < fs.size := (Array.getElem?_eq_some_iff.1 hj).1
    have hcell := hat j hjl
    have hv : cs'[j]? = some (cs'[j]'(by omega)) := List.getElem?_eq_getElem (by omega)
    have h1 := hf j f hj
    rw [ho, hk] at h1
    have hone' : (cs'.drop j).take 1 = [cs'[j]'(by omega)] := by
      rw [List.drop_eq_getElem_cons (by omega)]
      rfl
    rw [hone'] at h1
    have hys : ys[j]? = some (ys[j]'(by omega)) := List.getElem?_eq_getElem (by omega)
    refine ⟨_, _, ?_, h1.trans hys⟩
    rw [← Go.Deep.add_add, hcell, hv]
theorem cell_form {w : World} {a : Addr} {v : Value} (h : w.cell? a = some v) : a.spot = none ∧ a.block < w.heap.size := by
  unfold World.cell? at h
  split at h
  · rename_i hb
    refine ⟨?_, (Array.getElem?_eq_some_iff.1 hb).1⟩
    split at h
    · cases h
    · rename_i hs; simpa using hs
  · cases h
/-- The rows of a slice of structs of ints. -/
def cellInt (w : World) (a : Addr) : Int := match w.cell? a with | some (.int _ x) => x | _ => 0
theorem rd_of_fields {a : Addr} {len sz : Nat} {f : Nat → Nat → Value} (hsz : 0 < sz) (h : ∀ i j, i < len → j < sz → w.cell? (a.add (i * sz + j)) = some (f i j)) : Rd w w.heap.size sz (some a) len f := by
  intro hn
  have h0 := h 0 0 hn hsz
  rw [Nat.zero_mul, Nat.zero_add] at h0
  have ha : a.add 0 = a := by unfold Addr.add; rw [if_pos rfl]
  rw [ha] at h0
  obtain ⟨hs, hb⟩ := cell_form h0
  obtain ⟨b, off, spot⟩ := a
  subst hs
  refine ⟨b, off, rfl, hb, fun i j hi hj => ?_⟩
  have := h i j hi hj
  have e : (⟨b, off, none⟩ : Addr).add (i * sz + j) = ⟨b, off + (i * sz + j), none⟩ := by unfold Addr.add; split <;> simp_all
  rw [e] at this
  exact this
theorem sized_field {ts : List TypeId} {ds : List (DataW H)} (h : (DataW.weightsEach P ts ds).all (· ≤ reachBytes) = true) {j : Nat} {t : TypeId} {fs : Array Field} {parts : List (DataW H)} (ht : ts[j]? = some t) (hd : ds[j]? = some (.agg parts)) (hu : P.underlying t = some (.struct fs)) :
    (DataW.weightsEach P (fs.toList.map (·.type)) parts).all (· ≤ reachBytes) = true := by
  refine List.all_eq_true.2 fun n hn => List.all_eq_true.1 h n (DataW.weights_mem_each ht hd n ?_)
  simp only [DataW.weights, hu]
  exact hn
end
end Gm
namespace Go.Proofs.Ytopakcbhodnipaa
open Go.RowKit Go.ChangeShapes Go.WideShapes Go.Deep Gm Go.Joins
section
variable {H : Type} {enc : TypeId × Value → H} {w : World} {base : Nat} {spare : Nat → Bool} {held : Bool}
theorem arcs_open {fuel : Nat} {v : Value} {y : DataW H × List MemPlace} (h : DataW.trod enc Try.prog w base spare held fuel 25 [v] = some y) (hb : ∀ el sp, y.1 = .slice el sp → (el.length + sp.length) * Try.prog.bytesOf 61 ≤ reachBytes) :
    ∃ (A : Option Addr) (n c : Nat) (l : List Arc), v = .slice A n c ∧ l.length = n ∧ n ≤ c ∧ n ≤ big ∧ Rd w w.heap.size 5 A n (arcCell l) := by
  rcases open_slice_fields Try.underlying25 Try.underlying61 (by kernel_rfl) (by kernel_rfl) h with ⟨hv, rfl⟩ | ⟨a, len, cap, el, sp, pl, hv, hlc, rfl, hel, hf⟩
  · obtain rfl := List.head_eq_of_cons_eq hv
    exact ⟨none, 0, 0, [], rfl, rfl, Nat.le_refl _, by simp [big], Rd.zero⟩
  · obtain rfl := List.head_eq_of_cons_eq hv
    have hbb := hb el sp rfl
    have e40 : Try.prog.bytesOf 61 = 40 := by kernel_rfl
    rw [e40] at hbb
    have hcell : ∀ i j, i < len → j < 5 → w.cell? (a.add (i * 5 + j)) = some (.int .i64 (cellInt w (a.add (i * 5 + j)))) := by
      intro i j hi hj
      obtain ⟨n', hn⟩ := hf i hi
      have key : ∀ f : Field, f.type = 3 → (∃ (u : Value) (y' : DataW H × List MemPlace), w.cell? (a.add (i * 5 + j)) = some u ∧ DataW.trod enc Try.prog w base spare held n' f.type [u] = some y') → w.cell? (a.add (i * 5 + j)) = some (.int .i64 (cellInt w (a.add (i * 5 + j)))) := fun f hft hex => by
        obtain ⟨u, y', hc, hy⟩ := hex
        rw [hft] at hy
        obtain ⟨x, hx, _, _⟩ := DataW.trod_int Try.underlying3 hy
        obtain rfl := List.head_eq_of_cons_eq hx
        have hc' : w.cell? (a.add (i * 5 + j)) = some (.int .i64 x) := hc
        unfold cellInt; rw [hc']
      rcases (by omega : j = 0 ∨ j = 1 ∨ j = 2 ∨ j = 3 ∨ j = 4) with rfl | rfl | rfl | rfl | rfl <;> exact key _ rfl (hn _ _ rfl)
    refine ⟨some a, len, cap, (List.range len).map fun i => ⟨cellInt w (a.add (i * 5 + 0)), cellInt w (a.add (i * 5 + 1)), cellInt w (a.add (i * 5 + 2)), cellInt w (a.add (i * 5 + 3)), cellInt w (a.add (i * 5 + 4))⟩, rfl, by simp, hlc, by simp only [big]; simp only [reachBytes] at hbb; omega, rd_of_fields (by decide) fun i j hi hj => ?_⟩
    rw [hcell i j hi hj]
    unfold arcCell
    have hget : ((List.range len).map fun i => (⟨cellInt w (a.add (i * 5 + 0)), cellInt w (a.add (i * 5 + 1)), cellInt w (a.add (i * 5 + 2)), cellInt w (a.add (i * 5 + 3)), cellInt w (a.add (i * 5 + 4))⟩ : Arc)).getD i dA = ⟨cellInt w (a.add (i * 5 + 0)), cellInt w (a.add (i * 5 + 1)), cellInt w (a.add (i * 5 + 2)), cellInt w (a.add (i * 5 + 3)), cellInt w (a.add (i * 5 + 4))⟩ := by
      simp [hi]
    rw [hget]
    rcases (by omega : j = 0 ∨ j = 1 ∨ j = 2 ∨ j = 3 ∨ j = 4) with rfl | rfl | rfl | rfl | rfl <;> rfl
theorem fins_open {fuel : Nat} {v : Value} {y : DataW H × List MemPlace} (h : DataW.trod enc Try.prog w base spare held fuel 26 [v] = some y) (hb : ∀ el sp, y.1 = .slice el sp → (el.length + sp.length) * Try.prog.bytesOf 63 ≤ reachBytes) :
    ∃ (A : Option Addr) (n c : Nat) (l : List Fnl), v = .slice A n c ∧ l.length = n ∧ n ≤ c ∧ n ≤ big ∧ Rd w w.heap.size 2 A n (finCell l) := by
  rcases open_slice_fields Try.underlying26 Try.underlying63 (by kernel_rfl) (by kernel_rfl) h with ⟨hv, rfl⟩ | ⟨a, len, cap, el, sp, pl, hv, hlc, rfl, hel, hf⟩
  · obtain rfl := List.head_eq_of_cons_eq hv
    exact ⟨none, 0, 0, [], rfl, rfl, Nat.le_refl _, by simp [big], Rd.zero⟩
  · obtain rfl := List.head_eq_of_cons_eq hv
    have hbb := hb el sp rfl
    have e40 : Try.prog.bytesOf 63 = 16 := by kernel_rfl
    rw [e40] at hbb
    have hcell : ∀ i j, i < len → j < 2 → w.cell? (a.add (i * 2 + j)) = some (.int .i64 (cellInt w (a.add (i * 2 + j)))) := by
      intro i j hi hj
      obtain ⟨n', hn⟩ := hf i hi
      have key : ∀ f : Field, f.type = 3 → (∃ (u : Value) (y' : DataW H × List MemPlace), w.cell? (a.add (i * 2 + j)) = some u ∧ DataW.trod enc Try.prog w base spare held n' f.type [u] = some y') → w.cell? (a.add (i * 2 + j)) = some (.int .i64 (cellInt w (a.add (i * 2 + j)))) := fun f hft hex => by
        obtain ⟨u, y', hc, hy⟩ := hex
        rw [hft] at hy
        obtain ⟨x, hx, _, _⟩ := DataW.trod_int Try.underlying3 hy
        obtain rfl := List.head_eq_of_cons_eq hx
        have hc' : w.cell? (a.add (i * 2 + j)) = some (.int .i64 x) := hc
        unfold cellInt; rw [hc']
      rcases (by omega : j = 0 ∨ j = 1) with rfl | rfl <;> exact key _ rfl (hn _ _ rfl)
    refine ⟨some a, len, cap, (List.range len).map fun i => ⟨cellInt w (a.add (i * 2 + 0)), cellInt w (a.add (i * 2 + 1))⟩, rfl, by simp, hlc, by simp only [big]; simp only [reachBytes] at hbb; omega, rd_of_fields (by decide) fun i j hi hj => ?_⟩
    rw [hcell i j hi hj]
    unfold finCell
    have hget : ((List.range len).map fun i => (⟨cellInt w (a.add (i * 2 + 0)), cellInt w (a.add (i * 2 + 1))⟩ : Fnl)).getD i dF = ⟨cellInt w (a.add (i * 2 + 0)), cellInt w (a.add (i * 2 + 1))⟩ := by
      simp [hi]
    rw [hget]
    rcases (by omega : j = 0 ∨ j = 1) with rfl | rfl <;> rfl
set_option maxRecDepth 100000 in
theorem mach_open {r : Reach} {b0 : Nat} {v : Value} {d : DataW H} {p : List MemPlace} {ts : List TypeId} {ds : List (DataW H)} {j : Nat} (hv : Value.okWide Try.prog w r b0 28 v) (h : DataW.Trod enc Try.prog w base spare held 28 v d p)
    (hs : (DataW.weightsEach Try.prog ts ds).all (· ≤ reachBytes) = true) (ht : ts[j]? = some 28) (hd : ds[j]? = some d) : ∃ m, MachAt w w.heap.size v m := by
  obtain ⟨v0, v1, v2, y0, y1, y2, n, rfl, rfl, rfl, t0, t1, t2⟩ := open_agg3 Try.underlying28 (by kernel_rfl) (by kernel_rfl) hv h
  obtain ⟨x0, e0, _, _⟩ := DataW.trod_int Try.underlying3 t0
  obtain rfl := List.head_eq_of_cons_eq e0
  have hsf := sized_field hs ht hd Try.underlying28
  obtain ⟨A, n1, c1, l, rfl, h1, h2, h3, h4⟩ := arcs_open t1 (fun el sp e => sized_slice hsf (j := 1) rfl (by rw [← e]; rfl) Try.underlying25)
  obtain ⟨AF, n2, c2, l2, rfl, g1, g2, g3, g4⟩ := fins_open t2 (fun el sp e => sized_slice hsf (j := 2) rfl (by rw [← e]; rfl) Try.underlying26)
  exact ⟨⟨x0, l, l2⟩, A, AF, n1, c1, n2, c2, rfl, hide h1, hide g1, h2, g2, h3, g3, h4, g4⟩
end
end Go.Proofs.Ytopakcbhodnipaa
