/- What a tied row with a list of strings needs: the argument opened. -/
import Derived.Test.YtcchpijadlgagaaDoorTxR
import Derived.Test.YtcchpijadlgagaaDoorTkS
import Derived.SliceStrings
namespace Go.Proofs.YtcchpijadlgagaaDoor
open Go.ChangeShapes Go.WideShapes Go.ChangeAt Go.RowKit Gm
set_option linter.unusedVariables false
theorem cells_string : Tryd.prog.cellsOf 9 = 1 := by kernel_rfl
theorem bytes_string : Tryd.prog.bytesOf 9 = 16 := by kernel_rfl
theorem Strs.nil (w : World) (B : Nat) : Strs w B (.slice none 0 0) [] := ⟨none, 0, 0, rfl, hide rfl, Nat.le_refl _, by simp [big], Rd.zero, hide (by simp)⟩
section
variable {H : Type} {enc : TypeId × Value → H} {w : World} {base : Nat} {spare : Nat → Bool} {held : Bool}
theorem strings_open {r : Reach} {b0 : Nat} {v : Value} {d : DataW H} {p : List MemPlace} {ts : List TypeId} {ds : List (DataW H)} {j : Nat} (hv : Value.okWide Tryd.prog w r b0 22 v) (h : DataW.Trod enc Tryd.prog w base spare held 22 v d p)
    (hs : (DataW.weightsEach Tryd.prog ts ds).all (· ≤ reachBytes) = true) (ht : ts[j]? = some 22) (hd : ds[j]? = some d) : ∃ l, Strs w w.heap.size v l := by
  obtain ⟨a0, len, cap, rfl⟩ := okWide_slice Tryd.underlying22 hv
  obtain ⟨fuel, hf⟩ := h
  rcases open_strings Tryd.underlying22 Tryd.underlying9 cells_string hf with ⟨hcs, hx⟩ | ⟨a, len', cap', ss, hcs, _, hl, hm, hz, hx, hcell, hwz⟩
  · have e : Value.slice a0 len cap = .slice none 0 0 := by simpa [Value.cells] using hcs
    rw [e]
    exact ⟨[], Strs.nil _ _⟩
  · have e : Value.slice a0 len cap = .slice (some a) len' cap' := by simpa [Value.cells] using hcs
    rw [e]
    have hlz : len' ≤ ss.length := by rw [hz]; split <;> omega
    have hdd : d = .slice (strs (ss.take len')) (strs (ss.drop len')) := congrArg Prod.fst hx
    have hsz := sized_slice hs ht (hd.trans (congrArg some hdd)) Tryd.underlying22
    rw [bytes_string] at hsz
    have hbig : len' ≤ big := by
      simp only [reachBytes, strs, List.length_map, List.length_take, List.length_drop] at hsz
      unfold big; omega
    refine ⟨(ss.take len').map (·.data.toList), some a, len', cap', rfl, hide (by rw [List.length_map, List.length_take]; omega), hl, hbig, fun hn => ?_, hide ?_⟩
    · have h0 := hcell 0 (by omega)
      have ha : a.add 0 = a := by unfold Addr.add; rw [if_pos rfl]
      rw [ha] at h0
      obtain ⟨hsp, hb⟩ := cell_plain h0
      obtain ⟨b, off, spot⟩ := a
      simp only at hsp
      subst hsp
      refine ⟨b, off, rfl, hb, fun i jj hi hj => ?_⟩
      obtain rfl : jj = 0 := by omega
      have := hcell i (by omega)
      have e2 : (⟨b, off, none⟩ : Addr).add i = ⟨b, off + (i * 1 + 0), none⟩ := by unfold Addr.add; split <;> simp_all
      rw [e2] at this
      rw [this]
      have hi2 : i < ss.length := by omega
      simp [strCell, List.getD, hi, hi2]
    · intro x hx
      obtain ⟨y, hy, rfl⟩ := List.mem_map.1 hx
      have := hwz y (List.mem_of_mem_take hy)
      simpa using this
end
end Go.Proofs.YtcchpijadlgagaaDoor
