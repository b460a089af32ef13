/- The law DetermStepsMatchSpec, proved: its row: for every input it returns true. -/
import Derived.Test.YtopakcbhodnipaaCb11
import Derived.Test.YtopakcbhodnipaaCb25
import Derived.Test.YtopakcbhodnipaaCb26
import Derived.Test.YtopakcbhodnipaaCb27
import Derived.Test.YtopakcbhodnipaaCb28
import Derived.Test.YtopakcbhodnipaaDb1
import Derived.Test.YtopakcbhodnipaaDb2
import Derived.Test.YtopakcbhodnipaaDb3
import Derived.Test.YtopakcbhodnipaaDb4
import Derived.Test.YtopakcbhodnipaaDb5
import Derived.Test.YtopakcbhodnipaaDb6
import Derived.Test.YtopakcbhodnipaaDb7
import Derived.Test.YtopakcbhodnipaaDb8
import Derived.Test.YtopakcbhodnipaaDb10
namespace Go.Proofs.Ytopakcbhodnipaa
open Go.ChangeShapes Go.WideShapes Go.ChangeAt Go.RowKit Gm
set_option linter.unusedVariables false
set_option linter.unusedSimpArgs false
set_option maxRecDepth 100000 in
theorem dstlaw_lifted (os : Os) (started : os.Started) (H : Type) (enc : TypeId × Value → H) :
    ReturnsInHanded {} Try.checked os 5 .any (Rows.determStepsMatchSpecSpec.pre6 enc Try.prog Try.f5 Rows.determStepsMatchSpecRow.domain false) (Rows.determStepsMatchSpecSpec.post enc Try.prog Try.f5 false true false false) := by
  refine returnsInHanded_of_change_sized (C := Try.checked) own' started (by kernel_rfl) Try.func5
    (ChangeSpec.witness6 (enc := enc) (C := Try.checked) false ⟨#[], #[.agg #[.int .i64 0, .slice none 0 0, .slice none 0 0]], []⟩ 8 (by kernel_rfl) (by kernel_rfl) (by kernel_rfl) (by kernel_rfl)) ?_
  intro W base args ds gs before hval0 hW hcnd hsz _
  have hval : ∀ (j : Nat) t v, Try.f5.params[j]? = some t → args[j]? = some v → Value.okWide Try.prog W .any base t v := hval0
  have hW' := hW
  obtain ⟨p, q, hA0, hV, rfl, hfz, hnd⟩ := hW
  have hA : DataW.TrodAll enc Try.prog W 0 (fun _ => true) true Try.f5.params.toList args.toList ds p := hA0
  rw [Try.params5] at hA hval
  obtain ⟨v0, d0, rfl, rfl, h0⟩ := trodAll_one hA
  obtain ⟨rfl, rfl⟩ := trodVars_none hV
  obtain ⟨m0, hm0⟩ := mach_open (j := 0) (hval 0 _ v0 rfl rfl) h0 hsz rfl rfl
  clear hA0 hval0
  simp only [List.append_nil, List.nil_append] at hW'
  refine (dst_any v0 m0 W hm0).mono fun e W' ⟨he, hb⟩ => ?_
  subst he
  exact ⟨_, rfl, post_of_below (pa := p) (pv := []) hW' (fun _ _ _ => trodAll_mk1 (shut_bool Try.underlying4 _))
    (fun sp hsp => trodAll_mk1  (WideElems.Trod_stays laidOut' (by kernel_rfl) (of_decide_eq_true (by kernel_rfl)) h0 (fun x hx => hb.same (hW'.lt x (by simp [hx]))) (fun x hx => hsp x (by simp [hx]))))
    (fun _ _ => rfl) (by simp) hb (ok_one (by kernel_rfl) rfl (okWide_bool_mk Try.underlying4 _))⟩
set_option maxRecDepth 100000 in
theorem dstlaw_inplace : (Rows.determStepsMatchSpecRow.inPlace == Try.pinned.checked.prog.inPlace 5) = true := by kernel_rfl
set_option maxRecDepth 100000 in
theorem dstlaw_unfollowed : (Rows.determStepsMatchSpecRow.unfollowed == Try.pinned.checked.prog.unfollowed 5) = true := by kernel_rfl
set_option maxRecDepth 100000 in
theorem dstlaw_recurses : (Rows.determStepsMatchSpecRow.recurses == Try.pinned.checked.prog.recurses 5) = true := by kernel_rfl
set_option maxRecDepth 100000 in
theorem dstlaw_facts : joinedFacts Try.pinned.checked.prog 5 Try.f5 Rows.determStepsMatchSpecSpec Rows.determStepsMatchSpecRow = true := by
  unfold joinedFacts
  rw [dstlaw_inplace, dstlaw_unfollowed, dstlaw_recurses, lifts_eqQ, make_eqQ, enter_eqQ]
  kernel_rfl
set_option maxRecDepth 100000 in
theorem dstlaw_holds : Rows.DetermStepsMatchSpecSaid :=
  OpenClaim.holds_of_wide 5 Try.f5 rfl rfl rfl rfl rfl rfl rfl ⟨rfl, rfl, rfl, rfl, rfl⟩ rfl rfl rfl rfl rfl (by kernel_rfl) Try.func5 dstlaw_facts
    (of_decide_eq_true (by kernel_rfl)) (by unfold Func.isWrapper; first | (rw [if_pos (by decide +kernel)]; kernel_rfl) | (rw [if_neg (by decide +kernel)]; exact ⟨rfl, rfl⟩))
    (fun os started H enc _ => dstlaw_lifted os started H enc)
end Go.Proofs.Ytopakcbhodnipaa
