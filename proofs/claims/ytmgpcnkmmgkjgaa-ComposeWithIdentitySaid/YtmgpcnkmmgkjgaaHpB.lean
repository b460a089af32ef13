/- container/heap's up and down over the queue of machine.Weight, walked. -/
import Derived.Test.YtmgpcnkmmgkjgaaHpA
import Derived.Deep.LoopGhost
import Derived.Shelf.Abstract
import Derived.Deep.Cut
import Derived.Deep.CutRange
namespace Go.Proofs.Ytmgpcnkmmgkjgaa
open Go.RowKit Gm
set_option linter.unusedSimpArgs false
set_option linter.unusedVariables false
theorem nilchk_ptr (nm : String) (a : Addr) (w : World) : Sem.run Try.prog (Builtin.ssaWrapNilChk_ #[89] 89 #[.pointer (some a), strVal "", strVal nm]) w = .ok (.pointer (some a)) w := rfl
theorem meth_len (n : Nat) (a : Addr) (w : World) (v : Value) (hc : w.cell? a = some v) : Sem.run Try.prog (method (n + 100) 89 (.pointer (some a)) "Len") w = .ok (67, v) w := by
  have h := (by kernel_rfl : (Array.find? (fun x => x.name == "Len") Try.t89.methods).map (fun m => (m.path, m.func)) = some (#[], some (67, false)))
  obtain ⟨m, hm, he⟩ := Option.map_eq_some_iff.1 h
  simp only [Prod.mk.injEq] at he
  obtain ⟨h1, h2⟩ := he
  have hn := nilchk_ptr (("Len".splitOn ".").getLastD "Len") a w
  unfold method
  simp [go_sem, hm, h1, h2, follow, receiverAt, Place.get]
  simp at hn
  rw [hn]
  simp [hc, go_sem]
theorem meth_less (n : Nat) (a : Addr) (w : World) (v : Value) (hc : w.cell? a = some v) : Sem.run Try.prog (method (n + 100) 89 (.pointer (some a)) "Less") w = .ok (123, v) w := by
  have h := (by kernel_rfl : (Array.find? (fun x => x.name == "Less") Try.t89.methods).map (fun m => (m.path, m.func)) = some (#[], some (123, false)))
  obtain ⟨m, hm, he⟩ := Option.map_eq_some_iff.1 h
  simp only [Prod.mk.injEq] at he
  obtain ⟨h1, h2⟩ := he
  have hn := nilchk_ptr (("Less".splitOn ".").getLastD "Less") a w
  unfold method
  simp [go_sem, hm, h1, h2, follow, receiverAt, Place.get]
  simp at hn
  rw [hn]
  simp [hc, go_sem]
theorem meth_swap (n : Nat) (a : Addr) (w : World) (v : Value) (hc : w.cell? a = some v) : Sem.run Try.prog (method (n + 100) 89 (.pointer (some a)) "Swap") w = .ok (126, v) w := by
  have h := (by kernel_rfl : (Array.find? (fun x => x.name == "Swap") Try.t89.methods).map (fun m => (m.path, m.func)) = some (#[], some (126, false)))
  obtain ⟨m, hm, he⟩ := Option.map_eq_some_iff.1 h
  simp only [Prod.mk.injEq] at he
  obtain ⟨h1, h2⟩ := he
  have hn := nilchk_ptr (("Swap".splitOn ".").getLastD "Swap") a w
  unfold method
  simp [go_sem, hm, h1, h2, follow, receiverAt, Place.get]
  simp at hn
  rw [hn]
  simp [hc, go_sem]
theorem meth_push (n : Nat) (v : Value) (w : World) : Sem.run Try.prog (method (n + 100) 89 v "Push") w = .ok (125, v) w := by kernel_rfl
theorem meth_pop (n : Nat) (v : Value) (w : World) : Sem.run Try.prog (method (n + 100) 89 v "Pop") w = .ok (124, v) w := by kernel_rfl
theorem ent_len : ∀ args w, (callFunc 67 args).run Try.prog w = .ok (.enter 67 args) w := enters_of Try.func67 (by kernel_rfl) rfl
theorem ent_less : ∀ args w, (callFunc 123 args).run Try.prog w = .ok (.enter 123 args) w := enters_of Try.func123 (by kernel_rfl) rfl
theorem ent_swap : ∀ args w, (callFunc 126 args).run Try.prog w = .ok (.enter 126 args) w := enters_of Try.func126 (by kernel_rfl) rfl
theorem ent_push : ∀ args w, (callFunc 125 args).run Try.prog w = .ok (.enter 125 args) w := enters_of Try.func125 (by kernel_rfl) rfl
theorem ent_pop : ∀ args w, (callFunc 124 args).run Try.prog w = .ok (.enter 124 args) w := enters_of Try.func124 (by kernel_rfl) rfl
set_option maxRecDepth 100000 in
set_option maxHeartbeats 4000000 in
theorem hp_up (l : List Pl) (n c g base Q j : Nat) (w : World) (hl : l.length = n) (hnc : n ≤ big) (hj : j < n) (hQ : w.cell? ⟨Q, 0, none⟩ = some (.slice (some ⟨g, 0, none⟩) n c)) (hgQ : g ≠ Q)
    (h : w.ownsRow base 91 4 (.slice (some ⟨g, 0, none⟩) n c) n (plRow l)) (hI : upI l n j) :
    Calls Try.prog 77 #[.iface 89 (.pointer (some ⟨Q, 0, none⟩)), .int .i64 (j : Int)] w fun e w' => e = .returned (.tuple #[]) ∧
      ∃ l', w'.ownsRow base 91 4 (.slice (some ⟨g, 0, none⟩) n c) n (plRow l') ∧ l'.Perm l ∧ hOrd l' n ∧ w.grownBy w' (some g) := by
  unfold big at hnc
  have eL := ent_less
  have eS := ent_swap
  have HI := hide hI
  have HL := hide hl
  have HO := hide h
  clear h hI hl
  go_enter Try.func77, Try.ntmps77
  go_wp2
  go_loopg [1] j (fun gk jv wr => ∃ l' : List Pl, jv = .int .i64 (gk : Int) ∧ gk < n ∧ Hid (l'.length = n) ∧ Hid (wr.ownsRow base 91 4 (.slice (some ⟨g, 0, none⟩) n c) n (plRow l')) ∧ Hid (l'.Perm l) ∧ Hid (upI l' n gk) ∧ Hid (w.grownBy wr (some g)))
  case atStart => exact ⟨l, rfl, hj, HL, HO, hide (List.Perm.refl _), HI, hide (grownBy_refl _ _)⟩
  case round =>
    clear HI HL HO hj
    obtain ⟨l', rfl, hkn, HL, HO, HP, HI, HG⟩ := hrel
    have hQr : wr.cell? ⟨Q, 0, none⟩ = some (.slice (some ⟨g, 0, none⟩) n c) := HG.out.cell hQ (by simpa using Ne.symm hgQ)
    have mL := fun m => meth_less m _ _ _ hQr
    have mS := fun m q => meth_swap m _ (wr.drewN q) _ (by simpa using hQr)
    by_cases hk0 : gk = 0
    · subst hk0
      have HD := hide (up_end HI.out (.inl rfl))
      go_wp2
      go_end0
      exact ⟨rfl, l', HO.out, HP.out, HD.out, HG.out⟩
    · obtain ⟨k, rfl⟩ : ∃ k, gk = k + 1 := ⟨gk - 1, by omega⟩
      have hi : k / 2 < n := by omega
      have hq : (k : Int) / 2 = ((k / 2 : Nat) : Int) := by omega
      have he : (((k / 2 : Nat) : Int) == (k : Int) + 1) = false := by simp; omega
      have hC := fun W (h : W.ownsRow base 91 4 (.slice (some ⟨g, 0, none⟩) n c) n (plRow l')) => pl_less l' n c g base (k + 1) (k / 2) W HL.out (by unfold maxLen; omega) hkn hi h
      have hkk : (k + 1 - 1) / 2 = k / 2 := by rw [Nat.add_sub_cancel]
      by_cases hlt : kw l' (k + 1) < kw l' (k / 2)
      · rw [decide_eq_true hlt] at hC
        have HC := hide hC
        have hS := fun W (h : W.ownsRow base 91 4 (.slice (some ⟨g, 0, none⟩) n c) n (plRow l')) => pl_swap l' n c g base (k / 2) (k + 1) W HL.out (by unfold maxLen; omega) hi hkn h
        have HS := hide hS
        have HI2 := hide (by have := up_step HL.out.symm HI.out (by omega) hkn (by rw [hkk]; exact hlt); rw [hkk] at this; exact this)
        have HP2 := hide ((swp_perm (l := l') (i := k / 2) (j := k + 1) (by rw [HL.out]; exact hi) (by rw [HL.out]; exact hkn)).trans HP.out)
        obtain ⟨i, hie⟩ : ∃ i, i = k / 2 := ⟨_, rfl⟩
        rw [← hie] at hi hq he HC HS HI2 HP2
        have hik : i < k + 1 := by omega
        clear hC hS hlt hkk hie
        go_wp2_with (first
          | (go_at_fn 123; refine (HC.out _ HO.out).mono ?_; rintro e w' ⟨rfl, q, rfl⟩)
          | (go_at_fn 126; refine (HS.out _ (own_drewN' HO.out _)).mono ?_; rintro e w' ⟨rfl, hown2, hgr2⟩))
        go_roundg i
        case measure => omega
        case rel => exact ⟨swp l' i (k + 1), by go_num, by omega, hide (by rw [swp_len]; exact HL.out), hide hown2, HP2, HI2, hide (grownBy_trans (grownBy_drewN HG.out _) hgr2)⟩
      · rw [decide_eq_false hlt] at hC
        have HC := hide hC
        have HD := hide (up_end HI.out (.inr (by rw [hkk]; omega)))
        obtain ⟨i, hie⟩ : ∃ i, i = k / 2 := ⟨_, rfl⟩
        rw [← hie] at hi hq he HC
        clear hC hlt hkk hie
        go_wp2_with (go_at_fn 123; refine (HC.out _ HO.out).mono ?_; rintro e w' ⟨rfl, q, rfl⟩)
        go_end0
        exact ⟨rfl, l', own_drewN' HO.out _, HP.out, HD.out, grownBy_drewN HG.out _⟩
set_option maxRecDepth 100000 in
set_option maxHeartbeats 8000000 in
theorem hp_down (l : List Pl) (n c g base Q m : Nat) (w : World) (hl : l.length = n) (hnc : n ≤ big) (hmn : m ≤ n) (hn0 : 0 < n) (hQ : w.cell? ⟨Q, 0, none⟩ = some (.slice (some ⟨g, 0, none⟩) n c)) (hgQ : g ≠ Q)
    (h : w.ownsRow base 91 4 (.slice (some ⟨g, 0, none⟩) n c) n (plRow l)) (hI : dnI l m 0) :
    Calls Try.prog 76 #[.iface 89 (.pointer (some ⟨Q, 0, none⟩)), .int .i64 0, .int .i64 (m : Int)] w fun e w' => (∃ b, e = .returned (.bool b)) ∧
      ∃ l', w'.ownsRow base 91 4 (.slice (some ⟨g, 0, none⟩) n c) n (plRow l') ∧ l'.Perm l ∧ hOrd l' m ∧ (∀ k, m ≤ k → l'.getD k dP = l.getD k dP) ∧ w.grownBy w' (some g) := by
  unfold big at hnc
  have eL := ent_less
  have eS := ent_swap
  have HI := hide hI
  have HL := hide hl
  have HO := hide h
  clear h hI hl
  go_enter Try.func76, Try.ntmps76
  go_wp2
  go_loopg [7] m (fun gk iv wr => ∃ (i : Nat) (l' : List Pl), i + gk = m ∧ iv = .int .i64 (i : Int) ∧ i < n ∧ Hid (l'.length = n) ∧ Hid (wr.ownsRow base 91 4 (.slice (some ⟨g, 0, none⟩) n c) n (plRow l')) ∧ Hid (l'.Perm l) ∧ Hid (dnI l' m i) ∧ Hid (∀ k, m ≤ k → l'.getD k dP = l.getD k dP) ∧ Hid (w.grownBy wr (some g)))
  case atStart => exact ⟨0, l, by omega, rfl, hn0, HL, HO, hide (List.Perm.refl _), HI, hide (fun _ _ => rfl), hide (grownBy_refl _ _)⟩
  case round =>
    clear HI HL HO
    obtain ⟨i, l', him, rfl, hin, HL, HO, HP, HI, HX, HG⟩ := hrel
    have hQr : wr.cell? ⟨Q, 0, none⟩ = some (.slice (some ⟨g, 0, none⟩) n c) := HG.out.cell hQ (by simpa using Ne.symm hgQ)
    have mL := fun m => meth_less m _ _ _ hQr
    have mL2 := fun m q => meth_less m _ (wr.drewN q) _ (by simpa using hQr)
    have mS := fun m q => meth_swap m _ (wr.drewN q) _ (by simpa using hQr)
    obtain ⟨p, hp⟩ : ∃ p, p = 2 * i + 1 := ⟨_, rfl⟩
    have hpI : 2 * (i : Int) + 1 = (p : Int) := by omega
    have hip : i < p := by omega
    have HPP := hide hp
    by_cases h1 : m ≤ p
    · have t1 : decide ((p : Int) ≥ (m : Int)) = true := by simp; omega
      have t1' : decide ((m : Int) ≤ (p : Int)) = true := by simp; omega
      have HD := hide (dn_end HI.out (fun cc h0 h1 h2 => by omega))
      clear hp
      go_wp2
      go_ret
      exact ⟨⟨_, rfl⟩, l', HO.out, HP.out, HD.out, HX.out, HG.out⟩
    · have t1 : decide ((m : Int) ≤ (p : Int)) = false := by simp; omega
      have t2 : decide ((p : Int) < 0) = false := by simp
      by_cases h2 : p + 1 < m
      · have t3 : decide ((p : Int) + 1 < (m : Int)) = true := by simp; omega
        have hC1 := fun W (h : W.ownsRow base 91 4 (.slice (some ⟨g, 0, none⟩) n c) n (plRow l')) => pl_less l' n c g base (p + 1) p W HL.out (by unfold maxLen; omega) (by omega) (by omega) h
        by_cases hlt : kw l' (p + 1) < kw l' p
        · rw [decide_eq_true hlt] at hC1
          have HC1 := hide hC1
          have HMIN := hide (show ∀ cc, 0 < cc → cc < m → (cc - 1) / 2 = i → kw l' (p + 1) ≤ kw l' cc from fun cc h0 h1 h2 => by
            rcases (show cc = p ∨ cc = p + 1 by omega) with rfl | rfl
            · omega
            · exact Nat.le_refl _)
          clear hC1 hlt hp
          have hJI : p + 1 = 2 * i + 1 ∨ p + 1 = 2 * i + 2 := by rw [HPP.out]; exact .inr rfl
          go_upto_region 3 with fail
          go_upto_region 6 with fail
          go_upto_region 8 with (go_at_fn 123; refine (HC1.out _ HO.out).mono ?_; rintro e w' ⟨rfl, q1, rfl⟩)
          have HOC := hide (own_drewN' HO.out q1)
          have hJm : (p + 1) < m := by omega
          have hC2 := fun W (h : W.ownsRow base 91 4 (.slice (some ⟨g, 0, none⟩) n c) n (plRow l')) => pl_less l' n c g base (p + 1) i W HL.out (by unfold maxLen; omega) (by omega) (by omega) h
          by_cases hlt2 : kw l' (p + 1) < kw l' i
          · rw [decide_eq_true hlt2] at hC2
            have HC2 := hide hC2
            have hS := fun W (h : W.ownsRow base 91 4 (.slice (some ⟨g, 0, none⟩) n c) n (plRow l')) => pl_swap l' n c g base i (p + 1) W HL.out (by unfold maxLen; omega) (by omega) (by omega) h
            have HS := hide hS
            have HI2 := hide (dn_step (by rw [HL.out]; exact hmn) HI.out hJm (hJI) hlt2 HMIN.out)
            have HP2 := hide ((swp_perm (l := l') (i := i) (j := (p + 1)) (by rw [HL.out]; omega) (by rw [HL.out]; omega)).trans HP.out)
            have HX2 := hide (show ∀ k, m ≤ k → (swp l' i (p + 1)).getD k dP = l.getD k dP from fun k hk => (swp_out (by rw [HL.out]; omega) (by rw [HL.out]; omega) (by omega) (by omega)).trans (HX.out k hk))
            clear hC2 hS hlt2 HMIN
            go_wp2_with (first
              | (go_at_fn 123; refine (HC2.out _ HOC.out).mono ?_; rintro e w' ⟨rfl, q2, rfl⟩)
              | (go_at_fn 126; refine (HS.out _ (own_drewN' HO.out _)).mono ?_; rintro e w' ⟨rfl, hown2, hgr2⟩))
            go_roundg (m - (p + 1))
            case measure => omega
            case rel => exact ⟨(p + 1), swp l' i (p + 1), by omega, by go_num, by omega, hide (by rw [swp_len]; exact HL.out), hide hown2, HP2, HI2, HX2, hide (grownBy_trans (grownBy_drewN HG.out _) hgr2)⟩
          · rw [decide_eq_false hlt2] at hC2
            have HC2 := hide hC2
            have HD := hide (dn_end HI.out (fun cc h0 h1 h2 => Nat.le_trans (Nat.le_of_not_lt hlt2) (HMIN.out cc h0 h1 h2)))
            clear hC2 hlt2 HMIN
            go_wp2_with (first
              | (go_at_fn 123; refine (HC2.out _ HOC.out).mono ?_; rintro e w' ⟨rfl, q2, rfl⟩))
            go_ret
            exact ⟨⟨_, rfl⟩, l', own_drewN' HO.out _, HP.out, HD.out, HX.out, grownBy_drewN HG.out _⟩
        · rw [decide_eq_false hlt] at hC1
          have HC1 := hide hC1
          have HMIN := hide (show ∀ cc, 0 < cc → cc < m → (cc - 1) / 2 = i → kw l' p ≤ kw l' cc from fun cc h0 h1 h2 => by
            rcases (show cc = p ∨ cc = p + 1 by omega) with rfl | rfl
            · exact Nat.le_refl _
            · omega)
          clear hC1 hlt hp
          go_upto_region 3 with fail
          go_upto_region 6 with fail
          go_upto_region 8 with (go_at_fn 123; refine (HC1.out _ HO.out).mono ?_; rintro e w' ⟨rfl, q1, rfl⟩)
          have HOC := hide (own_drewN' HO.out q1)
          have hJm : p < m := by omega
          have hC2 := fun W (h : W.ownsRow base 91 4 (.slice (some ⟨g, 0, none⟩) n c) n (plRow l')) => pl_less l' n c g base p i W HL.out (by unfold maxLen; omega) (by omega) (by omega) h
          by_cases hlt2 : kw l' p < kw l' i
          · rw [decide_eq_true hlt2] at hC2
            have HC2 := hide hC2
            have hS := fun W (h : W.ownsRow base 91 4 (.slice (some ⟨g, 0, none⟩) n c) n (plRow l')) => pl_swap l' n c g base i p W HL.out (by unfold maxLen; omega) (by omega) (by omega) h
            have HS := hide hS
            have HI2 := hide (dn_step (by rw [HL.out]; exact hmn) HI.out hJm (.inl HPP.out) hlt2 HMIN.out)
            have HP2 := hide ((swp_perm (l := l') (i := i) (j := p) (by rw [HL.out]; omega) (by rw [HL.out]; omega)).trans HP.out)
            have HX2 := hide (show ∀ k, m ≤ k → (swp l' i p).getD k dP = l.getD k dP from fun k hk => (swp_out (by rw [HL.out]; omega) (by rw [HL.out]; omega) (by omega) (by omega)).trans (HX.out k hk))
            clear hC2 hS hlt2 HMIN
            go_wp2_with (first
              | (go_at_fn 123; refine (HC2.out _ HOC.out).mono ?_; rintro e w' ⟨rfl, q2, rfl⟩)
              | (go_at_fn 126; refine (HS.out _ (own_drewN' HO.out _)).mono ?_; rintro e w' ⟨rfl, hown2, hgr2⟩))
            go_roundg (m - p)
            case measure => omega
            case rel => exact ⟨p, swp l' i p, by omega, by go_num, by omega, hide (by rw [swp_len]; exact HL.out), hide hown2, HP2, HI2, HX2, hide (grownBy_trans (grownBy_drewN HG.out _) hgr2)⟩
          · rw [decide_eq_false hlt2] at hC2
            have HC2 := hide hC2
            have HD := hide (dn_end HI.out (fun cc h0 h1 h2 => Nat.le_trans (Nat.le_of_not_lt hlt2) (HMIN.out cc h0 h1 h2)))
            clear hC2 hlt2 HMIN
            go_wp2_with (first
              | (go_at_fn 123; refine (HC2.out _ HOC.out).mono ?_; rintro e w' ⟨rfl, q2, rfl⟩))
            go_ret
            exact ⟨⟨_, rfl⟩, l', own_drewN' HO.out _, HP.out, HD.out, HX.out, grownBy_drewN HG.out _⟩
      · have t3 : decide ((p : Int) + 1 < (m : Int)) = false := by simp; omega
        have HMIN := hide (show ∀ cc, 0 < cc → cc < m → (cc - 1) / 2 = i → kw l' p ≤ kw l' cc from fun cc h0 h1 h2 => by
          rcases (show cc = p ∨ cc = p + 1 by omega) with rfl | rfl
          · exact Nat.le_refl _
          · omega)
        clear hp
        go_upto_region 3 with fail
        go_upto_region 6 with fail
        go_upto_region 8 with fail
        have HOC := HO
        have hJm : p < m := by omega
        have hC2 := fun W (h : W.ownsRow base 91 4 (.slice (some ⟨g, 0, none⟩) n c) n (plRow l')) => pl_less l' n c g base p i W HL.out (by unfold maxLen; omega) (by omega) (by omega) h
        by_cases hlt2 : kw l' p < kw l' i
        · rw [decide_eq_true hlt2] at hC2
          have HC2 := hide hC2
          have hS := fun W (h : W.ownsRow base 91 4 (.slice (some ⟨g, 0, none⟩) n c) n (plRow l')) => pl_swap l' n c g base i p W HL.out (by unfold maxLen; omega) (by omega) (by omega) h
          have HS := hide hS
          have HI2 := hide (dn_step (by rw [HL.out]; exact hmn) HI.out hJm (.inl HPP.out) hlt2 HMIN.out)
          have HP2 := hide ((swp_perm (l := l') (i := i) (j := p) (by rw [HL.out]; omega) (by rw [HL.out]; omega)).trans HP.out)
          have HX2 := hide (show ∀ k, m ≤ k → (swp l' i p).getD k dP = l.getD k dP from fun k hk => (swp_out (by rw [HL.out]; omega) (by rw [HL.out]; omega) (by omega) (by omega)).trans (HX.out k hk))
          clear hC2 hS hlt2 HMIN
          go_wp2_with (first
            | (go_at_fn 123; refine (HC2.out _ HOC.out).mono ?_; rintro e w' ⟨rfl, q2, rfl⟩)
            | (go_at_fn 126; refine (HS.out _ (own_drewN' HO.out _)).mono ?_; rintro e w' ⟨rfl, hown2, hgr2⟩))
          go_roundg (m - p)
          case measure => omega
          case rel => exact ⟨p, swp l' i p, by omega, by go_num, by omega, hide (by rw [swp_len]; exact HL.out), hide hown2, HP2, HI2, HX2, hide (grownBy_trans (grownBy_drewN HG.out _) hgr2)⟩
        · rw [decide_eq_false hlt2] at hC2
          have HC2 := hide hC2
          have HD := hide (dn_end HI.out (fun cc h0 h1 h2 => Nat.le_trans (Nat.le_of_not_lt hlt2) (HMIN.out cc h0 h1 h2)))
          clear hC2 hlt2 HMIN
          go_wp2_with (first
            | (go_at_fn 123; refine (HC2.out _ HOC.out).mono ?_; rintro e w' ⟨rfl, q2, rfl⟩))
          go_ret
          exact ⟨⟨_, rfl⟩, l', own_drewN' HO.out _, HP.out, HD.out, HX.out, grownBy_drewN HG.out _⟩
end Go.Proofs.Ytmgpcnkmmgkjgaa
