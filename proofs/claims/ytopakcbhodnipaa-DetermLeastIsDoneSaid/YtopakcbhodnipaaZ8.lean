/- The texts TrimA of this proof. No conditions. -/
import Derived.Test.YtopakcbhodnipaaZ5
import Derived.Test.YtopakcbhodnipaaZ1
import Derived.Test.YtopakcbhodnipaaZ1
import Derived.Test.YtopakcbhodnipaaZ1
/- Text TrimA. -/
namespace Gm
open Go
theorem num_step {K : Nat → Bool} {j : Nat} {x : Int} (h : numK K j = x) : ∀ i, (if i = j then Value.int .i64 x else .int .i64 (if i < j then numK K i else 0)) = .int .i64 (if i < j + 1 then numK K i else 0) := by
  intro i
  by_cases e : i = j
  · subst e; rw [if_pos rfl, if_pos (by omega), h]
  · rw [if_neg e]
    by_cases e2 : i < j
    · rw [if_pos e2, if_pos (by omega)]
    · rw [if_neg e2, if_neg (by omega)]
theorem numK_f {K : Nat → Bool} {j : Nat} (h : K j = false) : numK K j = -1 := by unfold numK; rw [if_neg (by rw [h]; simp)]
theorem numK_t {K : Nat → Bool} {j : Nat} (h : K j = true) : numK K j = (cntK K j : Int) := by unfold numK; rw [if_pos h]
theorem cntK_f {K : Nat → Bool} {j : Nat} (h : K j = false) : cntK K (j + 1) = cntK K j := by simp [cntK, h]
theorem cntK_t {K : Nat → Bool} {j : Nat} (h : K j = true) : cntK K (j + 1) = cntK K j + 1 := by simp [cntK, h]
end Gm
namespace Go.Proofs.Ytopakcbhodnipaa
open Go.RowKit Gm
set_option linter.unusedSimpArgs false
set_option maxRecDepth 100000 in
set_option maxHeartbeats 1000000 in
theorem trim_bad (v : Value) (m : Mach) (w : World) (B : Nat) (hB : B ≤ w.heap.size) (h : MachAt w B v m) (hv : validate m ≠ (0, 0)) :
    Calls Try.prog 36 #[v] w fun e w' => ∃ v1, e = .returned (.tuple #[v1, .agg #[.int .i64 (validate m).1, .int .i64 (validate m).2]]) ∧ MachNew w.heap.size w' v1 emptyM ∧ Below w.heap.size w w' := by
  have h0 := h
  obtain ⟨A, AF, n, c, nf, cf, rfl, HN, HF, hnc, hnfc, hnb, hnfb, hA, hF⟩ := h
  have H0 := hide h0
  clear h0
  have he := fun a b c d W => run_neq_fault a b c d W
  have hf : fEq (validate m).1 (validate m).2 0 0 = false := fEq_false (fun ⟨e1, e2⟩ => hv (Prod.ext e1 e2))
  go_enter Try.func36, Try.ntmps36
  go_wp2_with fail
  refine (validate_any _ m _ B (by simp; omega) ((H0.out.below (B' := w.heap.size) (by go_grown) hB))).mono ?_
  rintro e w1 ⟨rfl, hb1⟩
  have hs1 := hb1.size
  simp at hs1
  have bx := (((Blk.at_ (w := w) (g := w.heap.size) (t := 28) (cs := #[.int .i64 m.n, .slice A n c, .slice AF nf cf]) rfl).alloc (Obj.cells #[.int .i64 0, .slice none 0 0, .slice none 0 0] 28)).alloc (Obj.cells #[.int .i64 0, .int .i64 0] 30)).below hb1 (by simp; omega)
  have br := ((Blk.at_ (w := w.alloc (Obj.cells #[.int .i64 m.n, .slice A n c, .slice AF nf cf] 28)) (g := w.heap.size + 1) (t := 28) (cs := #[.int .i64 0, .slice none 0 0, .slice none 0 0]) (by simp)).alloc (Obj.cells #[.int .i64 0, .int .i64 0] 30)).below hb1 (by simp)
  have bf := (Blk.at_ (w := (w.alloc (Obj.cells #[.int .i64 m.n, .slice A n c, .slice AF nf cf] 28)).alloc (Obj.cells #[.int .i64 0, .slice none 0 0, .slice none 0 0] 28)) (g := w.heap.size + 1 + 1) (t := 30) (cs := #[.int .i64 0, .int .i64 0]) (by simp)).below hb1 (by simp)
  have hbw : Below w.heap.size w w1 := Below.trans (by go_grown) (hb1.mono (by simp; omega))
  clear hb1
  have q0 := br.cell 0
  have q1 := br.cell 1
  have q2 := br.cell 2
  have q3 := bf.cell 0
  have q4 := bf.cell 1
  have qf := br.frozen 0
  have qf1 := br.frozen 1
  have qf2 := br.frozen 2
  have qf3 := bf.frozen 0
  have qf4 := bf.frozen 1
  simp at q0 q1 q2 q3 q4
  have hs2 : w.heap.size + 1 + 1 < w1.heap.size := by omega
  have hs3 : w.heap.size + 1 < w1.heap.size := by omega
  have hs4 : w.heap.size < w1.heap.size := by omega
  go_wp2
  refine wp_mix (fun w' => w'.cell? ⟨w1.heap.size, 0, none⟩ = some (.int .i64 (validate m).1) ∧ w'.cell? ⟨w1.heap.size, 1, none⟩ = some (.int .i64 (validate m).2)) 3 [(0, false), (1, false), (2, true)] (by kernel_rfl) (by kernel_rfl) ?_ ?_
  · go_simp
  simp only [List.drop_succ_cons, List.drop_zero]
  repeat (refine mix_q (v := ?_) (by rfl) (by rfl) ?_ ?_; rotate_left; (focus (intro w' hC; (try dsimp only at hC); go_simp; (first | done | with_reducible rfl))); simp only [Act.put, List.setIfInBounds_toArray, List.set_cons_zero, List.set_cons_succ])
  refine mix_l (by rfl) (by rfl) (fun K hK => ?_)
  go_simp
  refine hK _ _ (by go_simp) ?_
  clear hK K
  refine mix_nil ?_; try simp only [Act.put, List.setIfInBounds_toArray, List.set_cons_zero, List.set_cons_succ]
  go_wp2
  refine NoPanic.normal ?_
  go_wp2
  exact bodyPost_ret (v := .tuple #[.agg #[.int .i64 0, .slice none 0 0, .slice none 0 0], .agg #[.int .i64 (validate m).1, .int .i64 (validate m).2]]) (by simp [results, Try.results36, go_sem, q0, q1, q2, q3, q4, qf, qf1, qf2, qf3, qf4, hs2, hs3, hs4]) rfl ⟨_, rfl, MachNew.empty _ _, by go_grown⟩
theorem validate_ok (v : Value) (m : Mach) (w : World) (B : Nat) (hB : B ≤ w.heap.size) (h : MachAt w B v m) (hv : validate m = (0, 0)) :
    Calls Try.prog 71 #[v] w fun e w' => e = .returned (.agg #[.int .i64 0, .int .i64 0]) ∧ Below w.heap.size w w' := by
  have := validate_any v m w B hB h
  rw [hv] at this
  exact this
theorem arc_info : (Try.prog.info? 61).map (fun i => (i.zero, i.size, i.bytes)) = some (some (.agg #[.int .i64 0, .int .i64 0, .int .i64 0, .int .i64 0, .int .i64 0]), 5, 40) := by kernel_rfl
theorem fin_info : (Try.prog.info? 63).map (fun i => (i.zero, i.size, i.bytes)) = some (some (.agg #[.int .i64 0, .int .i64 0]), 2, 16) := by kernel_rfl
set_option maxRecDepth 100000 in
set_option maxHeartbeats 4000000 in
theorem trim_zero (v : Value) (m : Mach) (w : World) (B : Nat) (hB : B ≤ w.heap.size) (h : MachAt w B v m) (hv : validate m = (0, 0)) (hn0 : m.n = 0) :
    Calls Try.prog 36 #[v] w fun e w' => ∃ v1, e = .returned (.tuple #[v1, .agg #[.int .i64 0, .int .i64 0]]) ∧ MachNew w.heap.size w' v1 (trimOf m) ∧ Below w.heap.size w w' := by
  have h0 := h
  obtain ⟨A, AF, n, c, nf, cf, rfl, HN, HF, hnc, hnfc, hnb, hnfb, hA, hF⟩ := h
  have H0 := hide h0
  have val := valid_of hv
  have hval := val.finLen
  rw [HF.out] at hval
  have hlen := val.len
  rw [HN.out] at hlen
  obtain ⟨S, hS⟩ : ∃ S : Nat, m.n = (S : Int) := ⟨m.n.toNat, by have := val.n0; omega⟩
  have hS4 : S ≤ 400 := by have := val.n4; omega
  have VAL := hide val
  have HV := hide hv
  have HS := hide hS
  clear h0 hnb hnfb val hv
  rw [hS]
  rw [hS] at H0
  clear hS
  obtain ⟨i0, hi0, hz0, hz1, hz2⟩ := info_parts int_info
  have he := fun a b c d W => run_neq_fault a b c d W
  have hf : fEq 0 0 0 0 = true := rfl
  go_enter Try.func36, Try.ntmps36
  go_wp2_with fail
  refine (validate_ok _ m _ B (by simp; omega) ((H0.out.below (B' := w.heap.size) (by go_grown) hB)) HV.out).mono ?_
  rintro e w1 ⟨rfl, hb1⟩
  have hs1 := hb1.size
  simp at hs1
  have bx := (((Blk.at_ (w := w) (g := w.heap.size) (t := 28) (cs := #[.int .i64 (S : Int), .slice A n c, .slice AF nf cf]) rfl).alloc (Obj.cells #[.int .i64 0, .slice none 0 0, .slice none 0 0] 28)).alloc (Obj.cells #[.int .i64 0, .int .i64 0] 30)).below hb1 (by simp; omega)
  have br := ((Blk.at_ (w := w.alloc (Obj.cells #[.int .i64 (S : Int), .slice A n c, .slice AF nf cf] 28)) (g := w.heap.size + 1) (t := 28) (cs := #[.int .i64 0, .slice none 0 0, .slice none 0 0]) (by simp)).alloc (Obj.cells #[.int .i64 0, .int .i64 0] 30)).below hb1 (by simp)
  have bf := (Blk.at_ (w := (w.alloc (Obj.cells #[.int .i64 (S : Int), .slice A n c, .slice AF nf cf] 28)).alloc (Obj.cells #[.int .i64 0, .slice none 0 0, .slice none 0 0] 28)) (g := w.heap.size + 1 + 1) (t := 30) (cs := #[.int .i64 0, .int .i64 0]) (by simp)).below hb1 (by simp)
  have hbw : Below w.heap.size w w1 := Below.trans (by go_grown) (hb1.mono (by simp; omega))
  clear hb1
  have k0 := bx.cell 0
  have k1 := bx.cell 1
  have k2 := bx.cell 2
  have q0 := br.cell 0
  have q1 := br.cell 1
  have q2 := br.cell 2
  have q3 := bf.cell 0
  have q4 := bf.cell 1
  have qf := br.frozen 0
  have qf1 := br.frozen 1
  have qf2 := br.frozen 2
  have qf3 := bf.frozen 0
  have qf4 := bf.frozen 1
  simp at q0 q1 q2 q3 q4 k0 k1 k2
  have hs2 : w.heap.size + 1 + 1 < w1.heap.size := by omega
  have hs3 : w.heap.size + 1 < w1.heap.size := by omega
  have hs4 : w.heap.size < w1.heap.size := by omega
  have hS0 : S = 0 := by have := HS.out; omega
  clear hn0
  have hz : ((S : Int) == 0) = true := by simp [hS0]
  have hres : trimOf m = emptyM := by unfold trimOf; rw [if_pos (.inl (by rw [HS.out, hS0]; rfl))]
  have HRES := hide hres
  clear hS0 hres
  go_wp2
  rw [HRES.out]
  exact bodyPost_ret (v := .tuple #[.agg #[.int .i64 0, .slice none 0 0, .slice none 0 0], .agg #[.int .i64 0, .int .i64 0]]) (by simp [results, Try.results36, go_sem, q0, q1, q2, q3, q4, qf, qf1, qf2, qf3, qf4, hs2, hs3, hs4]) rfl ⟨_, rfl, MachNew.empty _ _, by go_grown⟩
end Go.Proofs.Ytopakcbhodnipaa

