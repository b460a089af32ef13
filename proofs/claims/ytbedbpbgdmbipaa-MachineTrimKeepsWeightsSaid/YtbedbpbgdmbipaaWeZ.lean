/- The reference's Weigh at any valid machine. -/
import Derived.Test.YtbedbpbgdmbipaaWtX
namespace Go.Proofs.Ytbedbpbgdmbipaa
open Go.RowKit Gm
set_option linter.unusedSimpArgs false
set_option linter.unusedVariables false
set_option maxRecDepth 100000 in
set_option maxHeartbeats 4000000 in
theorem weigh_zero (v1 v2 : Value) (AM AF : Option Addr) (c cf : Nat) (lu lo : List Int) (w : World) (B : Nat) (hB : B ≤ w.heap.size) (h1 : Nums w B v1 lu) (h2 : Nums w B v2 lo) (hu30 : lu.length ≤ 30) (ho30 : lo.length ≤ 30) :
    Calls Try.prog 13 #[.agg #[.int .i64 0, .slice AM 0 c, .slice AF 0 cf], v1, v2] w fun e w' => e = .returned (.int .i64 (-1)) ∧ Below w.heap.size w w' := by
  obtain ⟨A1, nu, cc1, rfl, HNU, hu1, hu2, _⟩ := h1
  obtain ⟨A2, no, cc2, rfl, HNO, ho1, ho2, _⟩ := h2
  rw [HNU.out] at hu30
  rw [HNO.out] at ho30
  unfold big at hu2 ho2
  have hmk := fun (W : World) => run_make_row' (P := Try.prog) 26 3 (.int .i64 0) 8 Try.underlying26 int_info rfl .i64 .i64 0 (by omega) (by omega) W
  simp only [Int.natCast_zero] at hmk
  go_enter Try.func13, Try.ntmps13
  go_wp2
  clear hmk
  generalize hW : World.alloc _ _ = W0
  have bM : Blk W0 w.heap.size 25 #[.int .i64 0, .slice AM 0 c, .slice AF 0 cf] := by rw [← hW]; exact ((Blk.new w _ _).alloc _)
  have HB0 := hide (show Below w.heap.size w W0 by rw [← hW]; go_grown)
  clear hW
  have k0 : W0.cell? ⟨w.heap.size, 0, none⟩ = some (.int .i64 0) := bM.cell 0
  have k1 : W0.cell? ⟨w.heap.size, 1, none⟩ = some (.slice AM 0 c) := bM.cell 1
  have k2 : W0.cell? ⟨w.heap.size, 2, none⟩ = some (.slice AF 0 cf) := bM.cell 2
  have lM := bM.lt
  go_loopw [39] (fun iv wr => iv = .int .i64 0 ∧ Hid (wr = W0)) (fun _ _ => 0)
  case atStart => exact ⟨rfl, hide rfl⟩
  case round =>
    obtain ⟨rfl, hwr⟩ := hrel
    obtain rfl := hwr.out.symm
    clear hwr
    go_wp2
    go_loopg [11] 1 (fun gk lv wr => ∃ again : Bool, lv = .bool again ∧ Hid (wr = W0) ∧ Hid (again = true → gk = 1))
    case atStart => exact ⟨true, rfl, hide rfl, hide (fun _ => rfl)⟩
    case round =>
      obtain ⟨again, rfl, hwr, HG⟩ := hrel
      obtain rfl := hwr.out.symm
      clear hwr
      cases again
      · go_wp2
        go_loopw [20, 173] (fun lv iv wr => lv = .int .i64 (-1) ∧ iv = .int .i64 0 ∧ Hid (wr = W0)) (fun _ _ _ => 0)
        case atStart => exact ⟨rfl, rfl, hide rfl⟩
        case round =>
          obtain ⟨rfl, rfl, hwr⟩ := hrel
          obtain rfl := hwr.out.symm
          clear hwr
          go_wp2
          go_ret
          exact ⟨rfl, HB0.out⟩
      · have hg := HG.out rfl
        subst hg
        go_wp2
        go_loopw [11, 55] (fun av iv wr => av = .bool false ∧ iv = .int .i64 0 ∧ Hid (wr = W0)) (fun _ _ _ => 0)
        case atStart => exact ⟨rfl, rfl, hide rfl⟩
        case round =>
          obtain ⟨rfl, rfl, hwr⟩ := hrel
          obtain rfl := hwr.out.symm
          clear hwr
          go_wp2
          go_roundg 0
          case measure => omega
          case rel => exact ⟨false, rfl, hide rfl, hide (fun h => by simp at h)⟩
/-- The reference's Weigh, at any valid machine. -/
theorem weigh_any (v v1 v2 : Value) (m : Mach) (lu lo : List Int) (w : World) (B : Nat) (hB : B ≤ w.heap.size) (h : MachAt w B v m) (hV : Valid m) (hu30 : lu.length ≤ 30) (ho30 : lo.length ≤ 30) (h1 : Nums w B v1 lu) (h2 : Nums w B v2 lo) :
    Calls Try.prog 13 #[v, v1, v2] w fun e w' => e = .returned (.int .i64 (wgt m lu lo)) ∧ Below w.heap.size w w' := by
  have hn0 := hV.n0
  have hn4 := hV.n4
  by_cases h0 : m.n = 0
  · rw [wgt_zero hV h0]
    obtain ⟨e1, e2⟩ := zero_none hV h0
    obtain ⟨A, AF, n, c, nf, cf, rfl, HN, HF, _⟩ := h
    have hn := HN.out
    have hf := HF.out
    rw [e1] at hn
    rw [e2] at hf
    simp only [List.length_nil] at hn hf
    subst hn
    subst hf
    rw [h0]
    exact weigh_zero v1 v2 A AF c cf lu lo w B hB h1 h2 hu30 ho30
  · have hS : m.n = ((m.n.toNat : Nat) : Int) := by omega
    exact weigh_good v v1 v2 m m.n.toNat lu lo w B hB h hS (by omega) (by omega) hV.len hV.inRange (fun a ha => by have := okArc_iff (hV.okA ha); omega) (fun x hx => by have := okFin_iff (hV.okF hx); omega) hu30 ho30 h1 h2
end Go.Proofs.Ytbedbpbgdmbipaa
