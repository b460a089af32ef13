/- Couples of states as keys of maps; small facts on the types of package compose. -/
import Derived.Test.YtmgpcnkmmgkjgaaCoZ
import Derived.Test.YtmgpcnkmmgkjgaaProg
import Derived.Test.YtmgpcnkmmgkjgaaNew
import Derived.DeepKeys4
namespace Gm
open Go Go.RowKit
/-- A couple as a value. -/
def cplV (c : Fnl) : Value := .agg #[.int .i64 c.s, .int .i64 c.w]
def okC (c : Fnl) : Prop := 0 ≤ c.s ∧ c.s ≤ 1000 ∧ 0 ≤ c.w ∧ c.w ≤ 1000
theorem cplV_inj (c d : Fnl) (h : cplV c = cplV d) : c = d := by
  unfold cplV at h
  injection h with h
  have h1 := congrArg (fun a : Array Value => a[0]?) h
  have h2 := congrArg (fun a : Array Value => a[1]?) h
  simp at h1 h2
  exact Fnl.ext' h1 h2
end Gm
namespace Go.Proofs.Ytmgpcnkmmgkjgaa
open Go.RowKit Gm
theorem cpl_laid : laidOutB Try.prog = true := by kernel_rfl
theorem cpl_row : (65 : TypeId) < Try.prog.types.size := of_decide_eq_true (by kernel_rfl)
theorem cpl_wide : (match Try.prog.underlying 65 with | some (.array _ _) | some (.struct _) => true | _ => false) = true := by rw [Try.underlying65]
set_option maxRecDepth 100000 in
theorem cpl_law : WideMaps.KeyLaw Try.prog 65 := deep_law_laid cpl_laid (m := 2) (by omega) cpl_row (by kernel_rfl) cpl_wide
theorem cpl_type : Try.prog.keyType 65 = true := by kernel_rfl
theorem cpl_size : Try.prog.cellsOf 65 = 2 := by kernel_rfl
theorem int_size1 : Try.prog.cellsOf 3 = 1 := by kernel_rfl
theorem cpl_read (c : Fnl) (h : okC c) : ∃ l, keyOf Try.prog 65 (cplV c) = some l := by
  unfold okC at h
  have w1 : (Lit.int .i64 c.s).wf = true := by simp [Lit.wf, IntKind.min, IntKind.max, IntKind.signed, IntKind.bits]; omega
  have w2 : (Lit.int .i64 c.w).wf = true := by simp [Lit.wf, IntKind.min, IntKind.max, IntKind.signed, IntKind.bits]; omega
  have hf : (cplV c).formed Try.prog 65 = true := by
    unfold cplV
    simp [Value.formed, Try.underlying65]
    exact cpl_size.symm
  have hN : Try.prog.types.size = (Try.prog.types.size - 1) + 1 := by have h : (65 : Nat) < Try.prog.types.size := cpl_row; omega
  have hi : ∀ (N : Nat) (x : Int), (Lit.int .i64 x).wf = true → Try.prog.keyLits (N + 1) 3 [.int .i64 x] = some [.int .i64 x] := fun N x hx => by
    unfold Program.keyLits
    rw [Try.underlying3]
    simp [hx]
  have hl : Try.prog.keyLits (Try.prog.types.size + 1) 65 [.int .i64 c.s, .int .i64 c.w] = some [.int .i64 c.s, .int .i64 c.w] := by
    unfold Program.keyLits
    rw [Try.underlying65, hN]
    simp [cpl_size, int_size1, hi _ _ w1, hi _ _ w2]
  refine ⟨.string (keyBytes [.int .i64 c.s, .int .i64 c.w]), ?_⟩
  unfold keyOf
  rw [Try.underlying65, cpl_type, hf]
  simp only [Bool.and_self, if_true]
  rw [show (cplV c).cells.toList = [.int .i64 c.s, .int .i64 c.w] from rfl, hl]
  rfl
theorem kl_cpl : KL Try.prog 65 cplV okC := ⟨Maps.Keyed.of_law cpl_law, cpl_read, cplV_inj⟩
theorem zero_steps (W : World) : (zeroValue 66).run Try.prog W = .ok (.slice none 0 0) W := by kernel_rfl
theorem zero_cpls (W : World) : (zeroValue 62).run Try.prog W = .ok (.slice none 0 0) W := by kernel_rfl
theorem zero_int' (W : World) : (zeroValue 3).run Try.prog W = .ok (.int .i64 0) W := by kernel_rfl
end Go.Proofs.Ytmgpcnkmmgkjgaa
