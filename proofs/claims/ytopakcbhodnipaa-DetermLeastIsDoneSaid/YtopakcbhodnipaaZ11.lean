/- The texts Ex, LtW of this proof. No conditions. -/
import Derived.Test.YtopakcbhodnipaaZ10
import Derived.Test.YtopakcbhodnipaaZ1
import Derived.Test.YtopakcbhodnipaaZ4
/- Text Ex. -/
namespace Gm
open Go Go.RowKit
set_option linter.unusedSimpArgs false
theorem MachNew.of_blk {w : World} {lo gA gF : Nat} {eA eF : TypeId} {m : Mach} (hA : Blk w gA eA (arcRow m.arcs).toArray) (hF : Blk w gF eF (finRow m.fins).toArray) (h1 : lo ≤ gA) (h2 : lo ≤ gF) (ha : m.arcs.length ≤ big) (hf : m.fins.length ≤ big) :
    MachNew lo w (.agg #[.int .i64 m.n, .slice (some ⟨gA, 0, none⟩) m.arcs.length m.arcs.length, .slice (some ⟨gF, 0, none⟩) m.fins.length m.fins.length]) m := fun W hs hag => by
  have bA : Blk W gA eA (arcRow m.arcs).toArray := (hag gA h1 hA.lt).trans hA
  have bF : Blk W gF eF (finRow m.fins).toArray := (hag gF h2 hF.lt).trans hF
  refine ⟨_, _, _, _, _, _, rfl, hide rfl, hide rfl, Nat.le_refl _, Nat.le_refl _, ha, hf, fun _ => ⟨gA, 0, rfl, bA.lt, fun i j hi hj => ?_⟩, fun _ => ⟨gF, 0, rfl, bF.lt, fun i j hi hj => ?_⟩⟩
  · rw [Nat.zero_add, bA.cell]; simpa using arcRow_at m.arcs i j hi hj
  · rw [Nat.zero_add, bF.cell]; simpa using finRow_at m.fins i j hi hj
noncomputable def trimAns (m : Mach) : Mach := if validate m = (0, 0) then trimOf m else emptyM
def smallM : Mach := ⟨2, [⟨0, 1, 97, 98, 2⟩], [⟨1, 1⟩]⟩
def small3 : Mach := ⟨3, [⟨0, 1, 97, 98, 2⟩], [⟨1, 1⟩]⟩
theorem small3_ok : validate small3 = (0, 0) := by decide
theorem small3_trim : trimOf small3 = smallM := by
  have f0 : RS false small3.arcs [0] ((0 : Nat) : Int) := .base (by simp)
  have f1 : RS false small3.arcs [0] ((1 : Nat) : Int) := .step (a := ⟨0, 1, 97, 98, 2⟩) f0 (by simp [small3]) rfl rfl
  have b1 : RS true small3.arcs (finStates small3.fins) ((1 : Nat) : Int) := .base (by simp [small3, finStates])
  have b0 : RS true small3.arcs (finStates small3.fins) ((0 : Nat) : Int) := .step (a := ⟨0, 1, 97, 98, 2⟩) b1 (by simp [small3]) rfl rfl
  have n2 : ∀ s, RS false small3.arcs [0] s → s = 0 ∨ s = 1 := by
    intro s h
    induction h with
    | base h => simp at h; exact .inl h
    | step _ ha _ hv _ =>
      simp [small3] at ha
      subst ha
      right; rw [← hv]; rfl
  have k0 : keepK small3 0 = true := keepK_iff.2 ⟨f0, b0⟩
  have k1 : keepK small3 1 = true := keepK_iff.2 ⟨f1, b1⟩
  have k2 : keepK small3 2 = false := by
    cases e : keepK small3 2
    · rfl
    · have := n2 _ (keepK_iff.1 e).1
      omega
  have c : cntK (keepK small3) 3 = 2 := by simp [cntK, k0, k1, k2]
  have c1 : cntK (keepK small3) 1 = 1 := by simp [cntK, k0]
  have c0 : cntK (keepK small3) 0 = 0 := rfl
  unfold trimOf
  rw [if_neg (by rw [k0]; simp [small3])]
  have e1 : partArcs (keepK small3) small3.arcs = [⟨0, 1, 97, 98, 2⟩] := by simp [partArcs, small3, partArc, k0, k1] <;> simp_all [small3]
  have e2 : partFins (keepK small3) small3.fins = [⟨1, 1⟩] := by simp [partFins, small3, partFin, k1] <;> simp_all [small3]
  unfold partM
  rw [e1, e2, show small3.n.toNat = 3 from rfl, c]; rfl
end Gm
namespace Go.Proofs.Ytopakcbhodnipaa
open Go.RowKit Gm
set_option linter.unusedSimpArgs false
theorem trim_any (v : Value) (m : Mach) (w : World) (B : Nat) (hB : B ≤ w.heap.size) (h : MachAt w B v m) :
    Calls Try.prog 36 #[v] w fun e w' => ∃ v1, e = .returned (.tuple #[v1, .agg #[.int .i64 (validate m).1, .int .i64 (validate m).2]]) ∧ MachNew w.heap.size w' v1 (trimAns m) ∧ Below w.heap.size w w' := by
  by_cases hv : validate m = (0, 0)
  · have e : trimAns m = trimOf m := by unfold trimAns; rw [if_pos hv]
    rw [e, hv]
    by_cases hn : m.n = 0
    · exact trim_zero v m w B hB h hv hn
    · exact trim_good v m w B hB h hv hn
  · have e : trimAns m = emptyM := by unfold trimAns; rw [if_neg hv]
    rw [e]
    exact trim_bad v m w B hB h hv
theorem trim_small3 (v : Value) (w : World) (B : Nat) (hB : B ≤ w.heap.size) (h : MachAt w B v small3) :
    Calls Try.prog 36 #[v] w fun e w' => ∃ v1, e = .returned (.tuple #[v1, .agg #[.int .i64 0, .int .i64 0]]) ∧ MachNew w.heap.size w' v1 smallM ∧ Below w.heap.size w w' := by
  have := trim_any v small3 w B hB h
  have e : trimAns small3 = smallM := by unfold trimAns; rw [if_pos small3_ok, small3_trim]
  rw [e, small3_ok] at this
  exact this
theorem small3_at {w : World} {B : Nat} {A AF : Option Addr} {n c nf cf : Nat} (h : MachAt w B (.agg #[.int .i64 2, .slice A n c, .slice AF nf cf]) smallM) : MachAt w B (.agg #[.int .i64 3, .slice A n c, .slice AF nf cf]) small3 := by
  obtain ⟨A', AF', n', c', nf', cf', e, h2, h3, h4, h5, h6, h7, h8, h9⟩ := h
  injection e with e
  simp at e
  obtain ⟨_, ⟨rfl, rfl, rfl⟩, rfl, rfl, rfl⟩ := e
  exact ⟨A, AF, n, c, nf, cf, rfl, h2, h3, h4, h5, h6, h7, h8, h9⟩
theorem agg_of {lo : Nat} {w : World} {v : Value} {m : Mach} (h : MachNew lo w v m) : ∃ A n c AF nf cf, v = .agg #[.int .i64 m.n, .slice A n c, .slice AF nf cf] := by
  obtain ⟨A', AF', n', c', nf', cf', e, _⟩ := h.at_
  exact ⟨_, _, _, _, _, _, e⟩
end Go.Proofs.Ytopakcbhodnipaa

/- Text LtW. -/
namespace Go.Proofs.Ytopakcbhodnipaa
open Go.RowKit Gm
set_option linter.unusedSimpArgs false
set_option linter.unusedVariables false
set_option maxRecDepth 100000 in
set_option maxHeartbeats 1000000 in
theorem letter_any (w : World) : Calls Try.prog 17 #[] w fun e w' => ∃ v1, e = .returned v1 ∧ MachNew w.heap.size w' v1 letM ∧ Below w.heap.size w w' := by
  go_enter Try.func17, Try.ntmps17
  go_wp2
  exact bodyPost_ret (v := .agg #[.int .i64 2, .slice (some ⟨w.heap.size + 1, 0, none⟩) 1 1, .slice (some ⟨w.heap.size + 1 + 1, 0, none⟩) 1 1]) (by simp [results, Try.results17, go_sem]) rfl
    ⟨_, rfl, MachNew.of_blk (m := letM) (eA := 61) (eF := 63) ((Blk.at_ (by simp)).alloc _) (Blk.at_ (by simp)) (by omega) (by omega) (by decide) (by decide), by go_grown⟩
end Go.Proofs.Ytopakcbhodnipaa

