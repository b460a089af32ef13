/- Rows with lists of lists of numbers and lists of truth values: the arguments opened. -/
import Derived.Test.YtopakcbhodnipaaRwG
import Derived.Test.YtopakcbhodnipaaNlL
import Derived.Deep.Grids
import Derived.Deep.Matrix
namespace Gm
open Go Go.ChangeShapes Go.WideShapes
theorem weightsAll_mem {H : Type} {P : Program} {e : TypeId} {d : DataW H} {n : Nat} (hn : n ∈ d.weights P e) : ∀ {ds : List (DataW H)}, d ∈ ds → n ∈ DataW.weightsAll P e ds
  | [], h => by cases h
  | x :: r, h => by
    unfold DataW.weightsAll
    rcases List.mem_cons.1 h with rfl | h
    · exact List.mem_append.2 (.inl hn)
    · exact List.mem_append.2 (.inr (weightsAll_mem hn h))
end Gm
namespace Go.Proofs.Ytopakcbhodnipaa
open Go.ChangeShapes Go.WideShapes Go.ChangeAt Go.RowKit Gm
set_option linter.unusedVariables false
set_option linter.unusedSimpArgs false
theorem cells_bool : Try.prog.cellsOf 4 = 1 := by kernel_rfl
theorem bytes_bool : Try.prog.bytesOf 4 = 1 := by kernel_rfl
theorem cells_ints : Try.prog.cellsOf 22 = 1 := by kernel_rfl
theorem bytes_ints : Try.prog.bytesOf 22 = 24 := by kernel_rfl
section
variable {H : Type} {enc : TypeId × Value → H} {w : World} {base : Nat} {held : Bool}
theorem add_plain {b off : Nat} (i : Nat) : (⟨b, off, none⟩ : Addr).add i = ⟨b, off + i, none⟩ := by unfold Addr.add; split <;> simp_all
set_option maxRecDepth 100000 in
theorem bools_open {r : Reach} {b0 : Nat} {v : Value} {d : DataW H} {p : List MemPlace} {ts : List TypeId} {ds : List (DataW H)} {j : Nat} (hv : Value.okWide Try.prog w r b0 24 v) (h : DataW.Trod enc Try.prog w base (fun _ => true) held 24 v d p)
    (hs : (DataW.weightsEach Try.prog ts ds).all (· ≤ reachBytes) = true) (ht : ts[j]? = some 24) (hd : ds[j]? = some d) : ∃ l, Bools w w.heap.size v l := by
  obtain ⟨a0, len, cap, rfl⟩ := okWide_slice Try.underlying24 hv
  obtain ⟨fuel, hf⟩ := h
  rcases Go.Deep.open_bools Try.underlying24 Try.underlying4 cells_bool hf with ⟨hcs, hx⟩ | ⟨a, len', cap', Bf, hcs, _, hl, hm, hx, hcell⟩
  · have e : Value.slice a0 len cap = .slice none 0 0 := by simpa [Value.cells] using hcs
    rw [e]
    exact ⟨[], none, 0, 0, rfl, hide rfl, Nat.le_refl _, by simp [big], Rd.zero⟩
  · have e : Value.slice a0 len cap = .slice (some a) len' cap' := by simpa [Value.cells] using hcs
    rw [e]
    have hdd : d = Go.Deep.boolRow (some a) len' cap' Bf := congrArg Prod.fst hx
    have hsz := sized_slice hs ht (hd.trans (congrArg some hdd)) Try.underlying24
    rw [bytes_bool] at hsz
    have hbig : len' ≤ big := by
      simp only [reachBytes, List.length_map, List.length_range] at hsz
      unfold big; omega
    refine ⟨(List.range len').map Bf, some a, len', cap', rfl, hide (by simp), hl, hbig, fun hn => ?_⟩
    have h0 := hcell 0 (by omega)
    have ha : a.add 0 = a := by unfold Addr.add; rw [if_pos rfl]
    rw [ha] at h0
    obtain ⟨hsp, hb⟩ := cell_plain h0
    obtain ⟨b, off, spot⟩ := a
    simp only at hsp
    subst hsp
    refine ⟨b, off, rfl, hb, fun i jj hi hj => ?_⟩
    obtain rfl : jj = 0 := by omega
    have := hcell i (by omega)
    rw [add_plain] at this
    rw [Nat.mul_one, Nat.add_zero, this]
    simp [boolCell, List.getD, hi]
set_option maxRecDepth 100000 in
theorem grid_open {r : Reach} {b0 : Nat} {v : Value} {d : DataW H} {p : List MemPlace} {ts : List TypeId} {ds : List (DataW H)} {j : Nat} (hv : Value.okWide Try.prog w r b0 23 v) (h : DataW.Trod enc Try.prog w base (fun _ => true) held 23 v d p)
    (hs : (DataW.weightsEach Try.prog ts ds).all (· ≤ reachBytes) = true) (ht : ts[j]? = some 23) (hd : ds[j]? = some d) : ∃ L, NumsL w w.heap.size v L := by
  obtain ⟨a0, len, cap, rfl⟩ := okWide_slice Try.underlying23 hv
  obtain ⟨fuel, hf⟩ := h
  rcases Go.Deep.open_int_rows Try.underlying23 Try.underlying22 Try.underlying3 cells_ints cells_int hf with ⟨hcs, hx⟩ | ⟨a, len', cap', AA, LL, CC, Z, hcs, _, hl, hm, hx, hcell⟩
  · have e : Value.slice a0 len cap = .slice none 0 0 := by simpa [Value.cells] using hcs
    rw [e]
    exact ⟨[], none, 0, 0, rfl, hide rfl, Nat.le_refl _, by simp [big], fun _ => .slice none 0 0, Rd.zero, fun i hi => by omega⟩
  · have e : Value.slice a0 len cap = .slice (some a) len' cap' := by simpa [Value.cells] using hcs
    rw [e]
    have hdd := congrArg Prod.fst hx
    have hsz := sized_slice hs ht (hd.trans (congrArg some hdd)) Try.underlying23
    rw [bytes_ints] at hsz
    have hbig : len' ≤ big := by
      simp only [reachBytes, List.length_map, List.length_range] at hsz
      unfold big; omega
    have hrow : ∀ i, i < len' → LL i ≤ big := fun i hi => by
      obtain ⟨_, hLC, hC9, hZ, _, hno, _⟩ := hcell i (by omega)
      cases hA : AA i with
      | none => have := hno hA; omega
      | some a' =>
        have hmem : Go.Deep.intRow (H := H) .i64 (AA i) (LL i) (Z i) ∈ (List.range len').map fun r => Go.Deep.intRow (H := H) .i64 (AA r) (LL r) (Z r) := List.mem_map.2 ⟨i, List.mem_range.2 hi, rfl⟩
        have hin : CC i * 8 ∈ (Go.Deep.intRow (H := H) .i64 (AA i) (LL i) (Z i)).weights Try.prog 22 := by
          rw [hA]
          show CC i * 8 ∈ DataW.weights Try.prog 22 (.slice (lits .i64 ((Z i).take (LL i))) (lits .i64 ((Z i).drop (LL i))))
          unfold DataW.weights
          rw [Try.underlying22]
          refine List.mem_cons.2 (.inl ?_)
          rw [bytes_int]
          simp only [lits, List.length_map, List.length_take, List.length_drop, hZ]
          congr 1
          omega
        have hin2 : CC i * 8 ∈ d.weights Try.prog 23 := by
          rw [show d = _ from hdd]
          unfold DataW.weights
          rw [Try.underlying23]
          exact List.mem_cons.2 (.inr (List.mem_append.2 (.inl (weightsAll_mem hin hmem))))
        have hle := List.all_eq_true.1 hs _ (DataW.weights_mem_each ht hd _ hin2)
        have hle : CC i * 8 ≤ reachBytes := by simpa using hle
        unfold reachBytes at hle
        unfold big
        omega
    have hcell0 : 0 < len' → ∃ b off, a = ⟨b, off, none⟩ ∧ b < w.heap.size := fun hn => by
      have h0 := (hcell 0 (by omega)).1
      have ha : a.add 0 = a := by unfold Addr.add; rw [if_pos rfl]
      rw [ha] at h0
      obtain ⟨hsp, hb⟩ := cell_plain h0
      obtain ⟨b, off, spot⟩ := a
      simp only at hsp
      subst hsp
      exact ⟨b, off, rfl, hb⟩
    refine ⟨(List.range len').map fun i => (Z i).take (LL i), some a, len', cap', rfl, hide (by simp), hl, hbig, fun i => .slice (AA i) (LL i) (CC i), fun hn => ?_, fun i hi => ?_⟩
    · obtain ⟨b, off, rfl, hb⟩ := hcell0 hn
      refine ⟨b, off, rfl, hb, fun i jj hi hj => ?_⟩
      obtain rfl : jj = 0 := by omega
      have := (hcell i (by omega)).1
      rw [add_plain] at this
      rw [Nat.mul_one, Nat.add_zero, this]
    · obtain ⟨_, hLC, _, hZ, _, _, hin⟩ := hcell i (by omega)
      have e2 : ((List.range len').map fun i => (Z i).take (LL i)).getD i [] = (Z i).take (LL i) := by simp [List.getD, hi]
      rw [e2]
      refine ⟨AA i, LL i, CC i, rfl, hide (by rw [List.length_take]; omega), hLC, hrow i hi, fun hn => ?_⟩
      cases hA : AA i with
      | none =>
        have := (hcell i (by omega)).2.2.2.2.2.1 hA
        omega
      | some a' =>
        obtain ⟨_, hc⟩ := hin a' hA
        have h0 := hc 0 (by omega)
        have ha : a'.add 0 = a' := by unfold Addr.add; rw [if_pos rfl]
        rw [ha] at h0
        obtain ⟨hsp, hb⟩ := cell_plain h0
        obtain ⟨b, off, spot⟩ := a'
        simp only at hsp
        subst hsp
        refine ⟨b, off, rfl, hb, fun x jj hx hj => ?_⟩
        obtain rfl : jj = 0 := by omega
        have := hc x (by omega)
        rw [add_plain] at this
        rw [Nat.mul_one, Nat.add_zero, this]
        have hxz : x < (Z i).length := by omega
        simp [intCell, List.getD, hx, hxz]
end
end Go.Proofs.Ytopakcbhodnipaa
