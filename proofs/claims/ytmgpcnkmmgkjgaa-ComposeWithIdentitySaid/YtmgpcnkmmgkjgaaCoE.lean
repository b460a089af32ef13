/- The laws' example of Compose, walked: it returns true. -/
import Derived.Test.YtmgpcnkmmgkjgaaCoC
import Derived.Deep.RegionLaw
namespace Gm
def exA : Mach := ⟨2, [⟨0, 1, 98, 99, 4⟩], [⟨1, 0⟩]⟩
theorem ex_arcs : prodArcs smallM exA = [⟨0, 3, 97, 99, 6⟩] := by decide
theorem ex_fins : prodFins smallM exA = [⟨3, 1⟩] := by decide
theorem ex_trim : trimOf (prodM smallM exA) = ⟨2, [⟨0, 1, 97, 99, 6⟩], [⟨1, 1⟩]⟩ := by
  have hA : (prodM smallM exA).arcs = [⟨0, 3, 97, 99, 6⟩] := ex_arcs
  have hF : (prodM smallM exA).fins = [⟨3, 1⟩] := ex_fins
  have f0 : RS false (prodM smallM exA).arcs [0] ((0 : Nat) : Int) := .base (by simp)
  have f3 : RS false (prodM smallM exA).arcs [0] ((3 : Nat) : Int) := .step (a := ⟨0, 3, 97, 99, 6⟩) f0 (by rw [hA]; simp) rfl rfl
  have b3 : RS true (prodM smallM exA).arcs (finStates (prodM smallM exA).fins) ((3 : Nat) : Int) := .base (by rw [hF]; simp [finStates])
  have b0 : RS true (prodM smallM exA).arcs (finStates (prodM smallM exA).fins) ((0 : Nat) : Int) := .step (a := ⟨0, 3, 97, 99, 6⟩) b3 (by rw [hA]; simp) rfl rfl
  have n2 : ∀ s, RS false (prodM smallM exA).arcs [0] s → s = 0 ∨ s = 3 := by
    intro s h
    rw [hA] at h
    induction h with
    | base h => simp at h; exact .inl h
    | step _ ha _ hv _ =>
      simp at ha
      subst ha
      right; rw [← hv]; rfl
  have k0 : keepK (prodM smallM exA) 0 = true := keepK_iff.2 ⟨f0, b0⟩
  have k3 : keepK (prodM smallM exA) 3 = true := keepK_iff.2 ⟨f3, b3⟩
  have kn : ∀ s, s = 1 ∨ s = 2 → keepK (prodM smallM exA) s = false := fun s hs => by
    cases e : keepK (prodM smallM exA) s
    · rfl
    · have := n2 _ (keepK_iff.1 e).1
      omega
  have k1 := kn 1 (.inl rfl)
  have k2 := kn 2 (.inr rfl)
  have hn : (prodM smallM exA).n = 4 := rfl
  have c4 : cntK (keepK (prodM smallM exA)) 4 = 2 := by simp [cntK, k0, k1, k2, k3]
  have c3 : cntK (keepK (prodM smallM exA)) 3 = 1 := by simp [cntK, k0, k1, k2]
  have c0 : cntK (keepK (prodM smallM exA)) 0 = 0 := rfl
  unfold trimOf
  rw [if_neg (by rw [k0, hn]; simp)]
  unfold partM
  rw [hA, hF, hn]
  have e1 : partArcs (keepK (prodM smallM exA)) [⟨0, 3, 97, 99, 6⟩] = [⟨0, 1, 97, 99, 6⟩] := by
    unfold partArcs partArc
    rw [List.filter_cons_of_pos (by simp [k0, k3])]
    simp [c0, c3]
  have e2 : partFins (keepK (prodM smallM exA)) [⟨3, 1⟩] = [⟨1, 1⟩] := by
    unfold partFins partFin
    rw [List.filter_cons_of_pos (by simp [k3])]
    simp [c3]
  rw [e1, e2]
  show (⟨(cntK (keepK (prodM smallM exA)) 4 : Int), _, _⟩ : Mach) = _
  rw [c4]; rfl
theorem ex_comp : compM smallM exA = ⟨2, [⟨0, 1, 97, 99, 6⟩], [⟨1, 1⟩]⟩ := by
  unfold compM
  rw [ex_trim]
  decide
theorem ex_F : compF smallM exA = (0, 0) := by
  have h1 : twoC smallM exA = (0, 0) := by decide
  have h2 : total smallM exA ≤ 200000 := by
    have h : total smallM exA ≤ totL smallM exA (allC smallM exA) := sum_sub _ (reachL_nodup _ _) fun x hx => mem_allC.2 (mem_reachL.1 hx).1
    have h3 : totL smallM exA (allC smallM exA) = 1 := by decide
    omega
  unfold compF
  rw [if_pos h1, if_neg (by decide), if_neg (by omega), ex_comp]
  unfold szF
  rw [if_neg (by decide), if_neg (by decide)]
theorem ex_R : compR smallM exA = ⟨2, [⟨0, 1, 97, 99, 6⟩], [⟨1, 1⟩]⟩ := by unfold compR; rw [if_pos ex_F, ex_comp]
end Gm
namespace Go.Proofs.Ytmgpcnkmmgkjgaa
open Go.RowKit Gm Go.Sort Go.Shelf
set_option linter.unusedSimpArgs false
set_option linter.unusedVariables false
theorem fcell {w w' : World} (hb : Below w.heap.size w w') (b o : Nat) (h : b < w.heap.size) : w'.cell? ⟨b, o, none⟩ = w.cell? ⟨b, o, none⟩ := by
  unfold World.cell?
  simp only [hb.block b h]
theorem ffroz {w w' : World} (hb : Below w.heap.size w w') (b o : Nat) (h : b < w.heap.size) : w'.frozen? ⟨b, o, none⟩ = w.frozen? ⟨b, o, none⟩ := by
  unfold World.frozen?
  simp only [hb.block b h]
theorem blk_set3 {w : World} {g : Nat} {t : TypeId} {a b c x y z : Value} (h : Blk w g t #[x, y, z]) : Blk (((w.setCell ⟨g, 0, none⟩ a).setCell ⟨g, 1, none⟩ b).setCell ⟨g, 2, none⟩ c) g t #[a, b, c] := ((h.set_ 0 a).set_ 1 b).set_ 2 c
theorem blk_set2 {w : World} {g : Nat} {t : TypeId} {a b x y : Value} (h : Blk w g t #[x, y]) : Blk ((w.setCell ⟨g, 0, none⟩ a).setCell ⟨g, 1, none⟩ b) g t #[a, b] := (h.set_ 0 a).set_ 1 b
theorem blk_id {w : World} {g : Nat} {t : TypeId} {cs : Array Value} (h : Blk w g t cs) : Blk w g t cs := h
theorem mach_id {w : World} {B : Nat} {v : Value} {m : Mach} (h : MachAt w B v m) : MachAt w B v m := h
theorem comp_ex (va vb : Value) (w : World) (B : Nat) (hB : B ≤ w.heap.size) (ha : MachAt w B va smallM) (hb : MachAt w B vb exA) :
    Calls Try.prog 26 #[va, vb] w fun e w' => ∃ A n c AF nf cf, e = .returned (.tuple #[.agg #[.int .i64 2, .slice A n c, .slice AF nf cf], .agg #[.int .i64 0, .int .i64 0]]) ∧ MachNew w.heap.size w' (.agg #[.int .i64 2, .slice A n c, .slice AF nf cf]) ⟨2, [⟨0, 1, 97, 99, 6⟩], [⟨1, 1⟩]⟩ ∧ Below w.heap.size w w' := by
  refine (compose_any va vb smallM exA w B hB ha hb).mono ?_
  rintro e w' ⟨v', rfl, hM, hbw⟩
  rw [ex_R] at hM
  rw [ex_F]
  obtain ⟨A, n, c, AF, nf, cf, rfl⟩ := agg_of hM
  exact ⟨A, n, c, AF, nf, cf, rfl, hM, hbw⟩
set_option maxRecDepth 100000 in
set_option maxHeartbeats 16000000 in
theorem composition_ex (w : World) : Calls Try.prog 25 #[] w fun e w' => e = .returned (.bool true) ∧ Below w.heap.size w w' := by
  have heq := fun a b c d W => run_eql_fault a b c d W
  have hf0 : fEq 0 0 0 0 = true := rfl
  go_enter Try.func25, Try.ntmps25
  go_upto_region 2 with fail
  generalize hW2 : World.alloc _ _ = W2
  obtain ⟨G, hG⟩ : ∃ z, z = w.heap.size := ⟨_, rfl⟩
  have HG1 := hide (show Blk W2 G 45 #[.int .i64 0, .int .i64 1, .int .i64 98, .int .i64 99, .int .i64 4] by rw [← hW2, hG]; exact ((Blk.at_ rfl).alloc _).alloc _)
  have HG2 := hide (show Blk W2 (G + 1) 51 #[.int .i64 1, .int .i64 0] by rw [← hW2, hG]; exact (Blk.at_ (by simp)).alloc _)
  have bO := (show Blk W2 (G + 1 + 1) 25 #[.int .i64 2, .slice (some ⟨G, 0, none⟩) 1 1, .slice (some ⟨G + 1, 0, none⟩) 1 1] by rw [← hW2, hG]; exact Blk.at_ (by simp))
  have HBW := hide (show Below G w W2 by rw [← hW2, hG]; go_grown)
  have hGw : w.heap.size ≤ G := by omega
  have hGw' : G ≤ w.heap.size := by omega
  have hGz : G + 1 + 1 < W2.heap.size := bO.lt
  have HMA := hide (MachNew.of_blk (m := exA) (eA := 45) (eF := 51) (lo := G) HG1.out HG2.out (by omega) (by omega) (by decide) (by decide))
  simp only [← hG]
  have o0 : W2.cell? ⟨G + 1 + 1, 0, none⟩ = some (.int .i64 2) := bO.cell 0
  have o1 : W2.cell? ⟨G + 1 + 1, 1, none⟩ = some (.slice (some ⟨G, 0, none⟩) 1 1) := bO.cell 1
  have o2 : W2.cell? ⟨G + 1 + 1, 2, none⟩ = some (.slice (some ⟨G + 1, 0, none⟩) 1 1) := bO.cell 2
  have hG1 : G + 1 < W2.heap.size := by omega
  have hG2 : G < W2.heap.size := by omega
  clear hW2 hG bO
  go_cut [2, 3] from 9 (fun s2 s3 wx => ∃ P F A n c AF nf cf, s2 = .pointer (some ⟨P, 0, none⟩) ∧ s3 = .pointer (some ⟨F, 0, none⟩) ∧ Hid (Blk wx P 25 #[.int .i64 2, .slice A n c, .slice AF nf cf]) ∧ Hid (Blk wx F 28 #[.int .i64 0, .int .i64 0]) ∧ Hid (MachAt wx wx.heap.size (.agg #[.int .i64 2, .slice A n c, .slice AF nf cf]) ⟨2, [⟨0, 1, 97, 99, 6⟩], [⟨1, 1⟩]⟩) ∧ Hid (Below G w wx))
  case first =>
    go_region_law (first
      | (rw [if_pos (by simp [Region.wanted])]; go_simp; refine (small_any _).mono ?_; rintro e w5 ⟨v5, rfl, hM5, hb5⟩; obtain ⟨A5, n5, c5, AF5, nf5, cf5, rfl⟩ := agg_of hM5; have hc5 := fcell hb5; have hf5 := ffroz hb5; have hl5 := hb5.size; (try simp at hc5 hf5 hl5); have HBW5 := hide (Below.trans (show Below W2.heap.size W2 _ by go_grown) (hb5.mono (by first | omega | (simp <;> omega)))); (try (have q51 : W2.heap.size < w5.heap.size := by omega)); (try (have q52 : W2.heap.size + 1 < w5.heap.size := by omega)); have HM5 := hide hM5; have HB5 := hide hb5; have hg5 : G + 1 + 1 < w5.heap.size := (by omega); have hg5a : G + 1 < w5.heap.size := (by omega); have hg5b : G < w5.heap.size := (by omega); clear hM5 hb5; dsimp only)
      | (rw [if_pos (by simp [Region.wanted])]; go_simp; refine (comp_ex _ _ _ _ (Nat.le_refl _) (by first | exact HM5.out.at_ | exact (HM5.out.alloc _).at_ | exact ((HM5.out.alloc _).alloc _).at_) ((HMA.out.below (B := W2.heap.size) (by have h5 := HBW5.out; first | exact h5 | go_grown) (Nat.le_refl _)).at_)).mono ?_; rintro e w6 ⟨A6, n6, c6, AF6, nf6, cf6, rfl, hM6, hb6⟩; have hc6 := fcell hb6; have hf6 := ffroz hb6; have hl6 := hb6.size; (try simp at hc6 hf6 hl6); (try (have q61 : w5.heap.size < w6.heap.size := by omega)); (try (have q62 : w5.heap.size + 1 < w6.heap.size := by omega)); (try (have q63 : W2.heap.size < w6.heap.size := by omega)); (try (have q64 : W2.heap.size + 1 < w6.heap.size := by omega)); have HM6 := hide hM6; have HB6 := hide hb6; have HBW6 := hide (Below.trans (show Below W2.heap.size W2 _ by (have h5 := HBW5.out; first | exact h5 | go_grown)) (hb6.mono (by first | omega | (simp <;> omega)))); clear hM6 hb6; dsimp only))
    all_goals go_wp2_with fail
    all_goals go_meet
    all_goals refine ⟨_, _, A6, n6, c6, AF6, nf6, cf6, rfl, rfl, hide ?_, hide ?_, hide ?_, hide ?_⟩
    all_goals first
      | ((with_reducible refine blk_id ?_); (repeat (first | ((with_reducible refine Blk.at_ ?_); first | (with_reducible rfl) | (simp; done)) | (with_reducible apply blk_set3) | (with_reducible apply blk_set2) | ((with_reducible refine Blk.far ?_ ?sd _); case sd => (dsimp only; omega)) | ((with_reducible refine Blk.alloc ?_ _)) | ((with_reducible refine Blk.drew ?_)) | ((with_reducible refine Blk.below ?_ HB6.out ?sd); case sd => (first | (simp; done) | omega | (simp; omega))) | ((with_reducible refine Blk.below ?_ HB5.out ?sd); case sd => (first | (simp; done) | omega | (simp; omega))))) <;> rfl; done)
      | ((with_reducible refine mach_id ?_); refine HM6.out _ (by simp [World.setCell] <;> omega) (fun b h1 h2 => ?_); (try simp at h1); (repeat (first | rw [Below.heap_setCell _ _ _ _ (by dsimp only; omega)] | rw [Below.heap_alloc _ _ _ (by first | omega | (simp; omega))])); done)
      | (have h6 : Below G w w6 := HBW.out.trans (HBW6.out.mono (by omega)); go_grown)
  case rest =>
    obtain ⟨P, F, A6, n6, c6, AF6, nf6, cf6, rfl, rfl, HP, HF, HM, HB⟩ := hcut
    clear o0 o1 o2
    obtain ⟨mm, hmm⟩ : ∃ m : Mach, m = ⟨2, [⟨0, 1, 97, 99, 6⟩], [⟨1, 1⟩]⟩ := ⟨_, rfl⟩
    rw [← hmm] at HM
    have HMM := hide hmm
    clear hmm
    have p0 := HP.out.cell 0
    have p1 := HP.out.cell 1
    have p2 := HP.out.cell 2
    have f0 := HF.out.cell 0
    have f1 := HF.out.cell 1
    simp at p0 p1 p2 f0 f1
    have pl := HP.out.lt
    have fl := HF.out.lt
    have plp := Nat.lt_succ_of_lt pl
    go_wp2_with fail
    refine (machines_any _ _ mm mm _ _ (Nat.le_refl _) ((HM.out.below (show Below wc.heap.size wc _ by go_grown) (Nat.le_refl _)).mono (by simp <;> omega)) (by rw [HMM.out]; exact (MachNew.of_blk (m := ⟨2, [⟨0, 1, 97, 99, 6⟩], [⟨1, 1⟩]⟩) (eA := 45) (eF := 51) (lo := wc.heap.size) ((Blk.at_ rfl).alloc _) (Blk.at_ (by simp)) (by omega) (by omega) (by decide) (by decide)).at_)).mono ?_
    rintro e w7 ⟨rfl, hb7⟩
    have hd : decide (mm = mm) = true := decide_eq_true rfl
    rw [hd]
    have HB7 := hide (((HB.out.alloc (by have := HB.out.size; omega) _).alloc (by have := HB.out.size; simp <;> omega) _).trans (hb7.mono (by have := HB.out.size; simp <;> omega)))
    clear hd hb7 p0 p1 p2 f0 f1 pl fl plp
    go_wp2
    exact bodyPost_ret (v := .bool true) (by simp [results, Try.results25, go_sem]) rfl ⟨rfl, HB7.out.mono hGw⟩
end Go.Proofs.Ytmgpcnkmmgkjgaa
