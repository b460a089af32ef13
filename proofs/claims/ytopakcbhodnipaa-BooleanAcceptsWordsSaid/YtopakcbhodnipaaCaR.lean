/- The law BooleanAcceptsWords, proved: its row: for every input it returns true. -/
import Derived.Test.YtopakcbhodnipaaCa3
import Derived.Test.YtopakcbhodnipaaCa34
import Derived.Test.YtopakcbhodnipaaCa26
import Derived.Test.YtopakcbhodnipaaCa25
import Derived.Test.YtopakcbhodnipaaCa24
namespace Go.Proofs.Ytopakcbhodnipaa
open Go.ChangeShapes Go.WideShapes Go.ChangeAt Go.RowKit Gm
set_option linter.unusedVariables false
set_option linter.unusedSimpArgs false
set_option maxRecDepth 100000 in
theorem bwlaw_lifted (os : Os) (started : os.Started) (H : Type) (enc : TypeId × Value → H) :
    ReturnsInHanded {} Try.checked os 12 .any (Rows.booleanAcceptsWordsSpec.pre6 enc Try.prog Try.f12 Rows.booleanAcceptsWordsRow.domain false) (Rows.booleanAcceptsWordsSpec.post enc Try.prog Try.f12 false true false false) := by
  refine returnsInHanded_of_change_sized (C := Try.checked) own' started (by kernel_rfl) Try.func12
    (ChangeSpec.witness6 (enc := enc) (C := Try.checked) false ⟨#[], #[.agg #[.int .i64 0, .slice none 0 0, .slice none 0 0], .agg #[.int .i64 0, .slice none 0 0, .slice none 0 0], .slice none 0 0, .slice none 0 0], []⟩ 8 (by kernel_rfl) (by kernel_rfl) (by kernel_rfl) (by kernel_rfl)) ?_
  intro W base args ds gs before hval0 hW hcnd hsz _
  have hval : ∀ (j : Nat) t v, Try.f12.params[j]? = some t → args[j]? = some v → Value.okWide Try.prog W .any base t v := hval0
  have hW' := hW
  obtain ⟨p, q, hA0, hV, rfl, hfz, hnd⟩ := hW
  have hA : DataW.TrodAll enc Try.prog W 0 (fun _ => true) true Try.f12.params.toList args.toList ds p := hA0
  rw [Try.params12] at hA hval
  obtain ⟨v0, v1, v2, v3, d0, d1, d2, d3, p0, p1, p2, p3, rfl, rfl, rfl, h0, h1, h2, h3⟩ := trodAll_four hA
  obtain ⟨rfl, rfl⟩ := trodVars_none hV
  obtain ⟨m0, hm0⟩ := mach_open (j := 0) (hval 0 _ v0 rfl rfl) h0 hsz rfl rfl
  obtain ⟨m1, hm1⟩ := mach_open (j := 1) (hval 1 _ v1 rfl rfl) h1 hsz rfl rfl
  obtain ⟨l2, hl2⟩ := nums_open (j := 2) (hval 2 _ v2 rfl rfl) h2 hsz rfl rfl
  obtain ⟨l3, hl3⟩ := nums_open (j := 3) (hval 3 _ v3 rfl rfl) h3 hsz rfl rfl
  clear hA0 hval0
  simp only [List.append_nil, List.nil_append] at hW'
  refine (bwlaw_any v0 v1 v2 v3 m0 m1 l2 l3 W hm0 hm1 hl2 hl3).mono fun e W' ⟨he, hb⟩ => ?_
  subst he
  exact ⟨_, rfl, post_of_below (pa := p0 ++ (p1 ++ (p2 ++ (p3)))) (pv := []) hW' (fun _ _ _ => trodAll_mk1 (shut_bool Try.underlying4 _))
    (fun sp hsp => trodAll_mk4 (p := p0) (p' := p1) (p'' := p2) (p3 := p3) (WideElems.Trod_stays laidOut' (by kernel_rfl) (of_decide_eq_true (by kernel_rfl)) h0 (fun x hx => hb.same (hW'.lt x (by simp [hx]))) (fun x hx => hsp x (by simp [hx]))) (WideElems.Trod_stays laidOut' (by kernel_rfl) (of_decide_eq_true (by kernel_rfl)) h1 (fun x hx => hb.same (hW'.lt x (by simp [hx]))) (fun x hx => hsp x (by simp [hx]))) (WideElems.Trod_stays laidOut' (by kernel_rfl) (of_decide_eq_true (by kernel_rfl)) h2 (fun x hx => hb.same (hW'.lt x (by simp [hx]))) (fun x hx => hsp x (by simp [hx]))) (WideElems.Trod_stays laidOut' (by kernel_rfl) (of_decide_eq_true (by kernel_rfl)) h3 (fun x hx => hb.same (hW'.lt x (by simp [hx]))) (fun x hx => hsp x (by simp [hx]))))
    (fun _ _ => rfl) (by simp) hb (ok_one (by kernel_rfl) rfl (okWide_bool_mk Try.underlying4 _))⟩
set_option maxRecDepth 100000 in
theorem bwlaw_inplace : (Rows.booleanAcceptsWordsRow.inPlace == Try.pinned.checked.prog.inPlace 12) = true := by kernel_rfl
set_option maxRecDepth 100000 in
theorem bwlaw_unfollowed : (Rows.booleanAcceptsWordsRow.unfollowed == Try.pinned.checked.prog.unfollowed 12) = true := by kernel_rfl
set_option maxRecDepth 100000 in
theorem bwlaw_recurses : (Rows.booleanAcceptsWordsRow.recurses == Try.pinned.checked.prog.recurses 12) = true := by kernel_rfl
set_option maxRecDepth 100000 in
theorem bwlaw_facts : joinedFacts Try.pinned.checked.prog 12 Try.f12 Rows.booleanAcceptsWordsSpec Rows.booleanAcceptsWordsRow = true := by
  unfold joinedFacts
  rw [bwlaw_inplace, bwlaw_unfollowed, bwlaw_recurses, lifts_eqQ, make_eqQ, enter_eqQ]
  kernel_rfl
set_option maxRecDepth 100000 in
theorem bwlaw_holds : Rows.BooleanAcceptsWordsSaid :=
  OpenClaim.holds_of_wide 12 Try.f12 rfl rfl rfl rfl rfl rfl rfl ⟨rfl, rfl, rfl, rfl, rfl⟩ rfl rfl rfl rfl rfl (by kernel_rfl) Try.func12 bwlaw_facts
    (of_decide_eq_true (by kernel_rfl)) (by unfold Func.isWrapper; first | (rw [if_pos (by decide +kernel)]; kernel_rfl) | (rw [if_neg (by decide +kernel)]; exact ⟨rfl, rfl⟩))
    (fun os started H enc _ => bwlaw_lifted os started H enc)
end Go.Proofs.Ytopakcbhodnipaa
