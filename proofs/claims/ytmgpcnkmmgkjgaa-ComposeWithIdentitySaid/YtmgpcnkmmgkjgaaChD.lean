/- Package compose: what Invert, Input and Output make of an arc and of a machine. -/
import Derived.Test.YtmgpcnkmmgkjgaaReW
import Derived.Test.YtmgpcnkmmgkjgaaRgQ
import Derived.Test.YtmgpcnkmmgkjgaaVal
import Derived.Deep.RegionLaw
namespace Gm
/-- The arc turned around (1), with its input as output (2), with its output as input (3). -/
def chA (k : Nat) (a : Arc) : Arc := match k with
  | 1 => ⟨a.f, a.t, a.o, a.i, a.w⟩
  | 2 => ⟨a.f, a.t, a.i, a.i, a.w⟩
  | _ => ⟨a.f, a.t, a.o, a.o, a.w⟩
/-- The machine with its arcs changed. -/
def chM (k : Nat) (m : Mach) : Mach := ⟨m.n, compact likeA (srtA (m.arcs.map (chA k))), m.fins⟩
def chR (k : Nat) (m : Mach) : Mach := if validate m = (0, 0) then chM k m else ⟨0, [], []⟩
end Gm
namespace Go.Proofs.Ytmgpcnkmmgkjgaa
open Go.RowKit Gm Go.Sort Go.Shelf
set_option linter.unusedSimpArgs false
set_option linter.unusedVariables false
set_option maxRecDepth 100000 in
set_option maxHeartbeats 1000000 in
theorem ch1_any (a : Arc) (w : World) :
    Calls Try.prog 33 #[.agg #[.int .i64 a.f, .int .i64 a.t, .int .i64 a.i, .int .i64 a.o, .int .i64 a.w]] w fun e w' => e = .returned (.agg #[.int .i64 (chA 1 a).f, .int .i64 (chA 1 a).t, .int .i64 (chA 1 a).i, .int .i64 (chA 1 a).o, .int .i64 (chA 1 a).w]) ∧ Below w.heap.size w w' := by
  go_enter Try.func33, Try.ntmps33
  go_wp2
  exact bodyPost_ret (v := .agg #[.int .i64 (chA 1 a).f, .int .i64 (chA 1 a).t, .int .i64 (chA 1 a).i, .int .i64 (chA 1 a).o, .int .i64 (chA 1 a).w]) (by simp [results, Try.results33, go_sem, chA]) rfl ⟨rfl, by go_grown⟩
set_option maxRecDepth 100000 in
set_option maxHeartbeats 1000000 in
theorem ch2_any (a : Arc) (w : World) :
    Calls Try.prog 34 #[.agg #[.int .i64 a.f, .int .i64 a.t, .int .i64 a.i, .int .i64 a.o, .int .i64 a.w]] w fun e w' => e = .returned (.agg #[.int .i64 (chA 2 a).f, .int .i64 (chA 2 a).t, .int .i64 (chA 2 a).i, .int .i64 (chA 2 a).o, .int .i64 (chA 2 a).w]) ∧ Below w.heap.size w w' := by
  go_enter Try.func34, Try.ntmps34
  go_wp2
  exact bodyPost_ret (v := .agg #[.int .i64 (chA 2 a).f, .int .i64 (chA 2 a).t, .int .i64 (chA 2 a).i, .int .i64 (chA 2 a).o, .int .i64 (chA 2 a).w]) (by simp [results, Try.results34, go_sem, chA]) rfl ⟨rfl, by go_grown⟩
set_option maxRecDepth 100000 in
set_option maxHeartbeats 1000000 in
theorem ch3_any (a : Arc) (w : World) :
    Calls Try.prog 35 #[.agg #[.int .i64 a.f, .int .i64 a.t, .int .i64 a.i, .int .i64 a.o, .int .i64 a.w]] w fun e w' => e = .returned (.agg #[.int .i64 (chA 3 a).f, .int .i64 (chA 3 a).t, .int .i64 (chA 3 a).i, .int .i64 (chA 3 a).o, .int .i64 (chA 3 a).w]) ∧ Below w.heap.size w w' := by
  go_enter Try.func35, Try.ntmps35
  go_wp2
  exact bodyPost_ret (v := .agg #[.int .i64 (chA 3 a).f, .int .i64 (chA 3 a).t, .int .i64 (chA 3 a).i, .int .i64 (chA 3 a).o, .int .i64 (chA 3 a).w]) (by simp [results, Try.results35, go_sem, chA]) rfl ⟨rfl, by go_grown⟩
end Go.Proofs.Ytmgpcnkmmgkjgaa
