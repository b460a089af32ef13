/- The reference's Rows, walked: the table of a machine, by its labels. -/
import Derived.Test.YtopakcbhodnipaaNlL
import Derived.Test.YtopakcbhodnipaaGrL
import Derived.Test.YtopakcbhodnipaaDqZ
import Derived.Test.YtopakcbhodnipaaReach
import Derived.Maps.AppendAt
import Derived.IntWalk
import Derived.Deep.Cut
import Derived.LoopTactic
namespace Gm
set_option linter.unusedSimpArgs false
set_option linter.unusedVariables false
/-- The row of s, when of the next arc a the first k labels have been looked at. -/
def mixR (A : List Arc) (a : Arc) (ls : List Int) (k s : Nat) : List Int := (ls.take k).map (afterL (A ++ [a]) s) ++ (ls.drop k).map (afterL A s)
theorem mixR_zero (A : List Arc) (a : Arc) (ls : List Int) (s : Nat) : mixR A a ls 0 s = rowL ls A s := by unfold mixR rowL; simp
theorem mixR_all (A : List Arc) (a : Arc) (ls : List Int) (s : Nat) : mixR A a ls ls.length s = rowL ls (A ++ [a]) s := by unfold mixR rowL; simp
theorem mixR_drop {ls : List Int} {k : Nat} {x : Int} (hk : k < ls.length) (hx : ls.getD k 0 = x) : ls.drop k = x :: ls.drop (k + 1) := by
  rw [List.drop_eq_getElem_cons hk]
  congr 1
  rw [← hx]
  simp [List.getD, hk]
theorem mixR_take {ls : List Int} {k : Nat} {x : Int} (hk : k < ls.length) (hx : ls.getD k 0 = x) : ls.take (k + 1) = ls.take k ++ [x] := by
  rw [List.take_add_one]
  congr 1
  rw [← hx]
  simp [List.getD, hk]
theorem mixR_same {A : List Arc} {a : Arc} {ls : List Int} {k s : Nat} {x : Int} (hk : k < ls.length) (hx : ls.getD k 0 = x) (h : ¬ (a.f = (s : Int) ∧ a.i = x)) : mixR A a ls (k + 1) s = mixR A a ls k s := by
  unfold mixR
  rw [mixR_take hk hx, mixR_drop hk hx, List.map_append, List.map_cons, List.map_cons, List.map_nil, afterL_snoc, if_neg h, List.append_assoc]
  rfl
theorem mixR_set {A : List Arc} {a : Arc} {ls : List Int} {k s : Nat} {x : Int} (hk : k < ls.length) (hx : ls.getD k 0 = x) (h : a.f = (s : Int) ∧ a.i = x) : mixR A a ls (k + 1) s = (mixR A a ls k s).set k a.t := by
  unfold mixR
  rw [mixR_take hk hx, mixR_drop hk hx, List.map_append, List.map_cons, List.map_cons, List.map_nil, afterL_snoc, if_pos h, List.append_assoc]
  have hl : ((ls.take k).map (afterL (A ++ [a]) s)).length = k := by rw [List.length_map, List.length_take]; omega
  rw [List.set_append, hl, if_neg (by omega), show k - k = 0 by omega, List.set_cons_zero]
  rfl
theorem intRow_set (l : List Int) (k : Nat) (x : Int) : (intRow l).set k (.int .i64 x) = intRow (l.set k x) := by unfold intRow; rw [List.map_set]
theorem rowL_nil (ls : List Int) (s : Nat) : rowL ls [] s = List.replicate ls.length (-1) := by
  unfold rowL afterL
  induction ls with
  | nil => rfl
  | cons x l ih => rw [List.map_cons, ih, List.length_cons, List.replicate_succ]; rfl
theorem rowL_len (ls : List Int) (A : List Arc) (s : Nat) : (rowL ls A s).length = ls.length := by unfold rowL; rw [List.length_map]
theorem mixR_len (A : List Arc) (a : Arc) (ls : List Int) (k s : Nat) : (mixR A a ls k s).length = ls.length := by
  unfold mixR
  rw [List.length_append, List.length_map, List.length_map, List.length_take, List.length_drop]; omega
end Gm
namespace Go.Proofs.Ytopakcbhodnipaa
open Go.RowKit Gm
set_option linter.unusedSimpArgs false
set_option linter.unusedVariables false
set_option maxRecDepth 100000 in
set_option maxHeartbeats 8000000 in
theorem rows_any (va vl : Value) (a : Mach) (l : List Int) (S : Nat) (w : World) (B : Nat) (hB : B ≤ w.heap.size) (ha : MachAt w B va a) (hl : Nums w B vl l) (hS : a.n = (S : Int)) (hS4 : S ≤ 100000) (hl4 : l.length ≤ 100000) (hrng : inRange a.arcs S) :
    Calls Try.prog 47 #[va, vl] w fun e w' => ∃ v, e = .returned v ∧ NumsL w' w'.heap.size v ((List.range S).map (rowL l a.arcs)) ∧ Below w.heap.size w w' := by
  obtain ⟨A, AF, n, c, nf, cf, rfl, HN, HF, hnc, hnfc, hnb, hnfb, hA, hF⟩ := ha
  obtain ⟨AL, q, cl, rfl, HQ, hqc, hqb, hL⟩ := hl
  obtain ⟨i0, hi0, hz0, hz1, hz2⟩ := info_parts int_info
  obtain ⟨i1, hi1, hy0, hy1, hy2⟩ := info_parts ints_info
  have HRA := hide hA
  have HRL := hide hL
  have HRNG := hide hrng
  rw [HQ.out] at hl4
  rw [hS]
  unfold big at hnb hnfb hqb
  clear hA hF hL hrng hS
  go_enter Try.func47, Try.ntmps47
  go_upto_region 2 with fail
  generalize hW2 : World.alloc _ _ = W2
  obtain ⟨H, hH⟩ : ∃ z, z = w.heap.size + 1 := ⟨_, rfl⟩
  have HX2 := hide (show Blk W2 w.heap.size 28 #[.int .i64 (S : Int), .slice A n c, .slice AF nf cf] by rw [← hW2]; exact Blk.at_ rfl)
  have HBW := hide (show Below w.heap.size w W2 by rw [← hW2]; go_grown)
  have hz2' : H ≤ W2.heap.size := by have := HX2.out.lt; omega
  have HRA2 := hide (HRA.out.below HBW.out hB)
  have HRL2 := hide (HRL.out.below HBW.out hB)
  have hBH : B < H := by omega
  have x0 := HX2.out.cell 0
  simp at x0
  have lX := HX2.out.lt
  have HM0 := hide (OwnM.nil W2 H 22 3 1 (fun _ => .slice none 0 0) (fun _ => intRow (List.replicate q (-1))) (fun _ => q))
  have hwH : w.heap.size < H := by omega
  clear hW2 hH HRA HRL
  go_wp2
  clear x0 lX
  go_loopw [5, 13] (fun ov iv wr => ∃ (k : Nat) (vs : Nat → Value), k ≤ S ∧ iv = .int .i64 k ∧ Hid (OwnM wr H 22 3 1 ov k vs (fun _ => intRow (List.replicate q (-1))) (fun _ => q)) ∧ Hid (Below H W2 wr) ∧ H ≤ wr.heap.size) (fun _ iv _ => S - (intOf iv).toNat)
  case atStart => exact ⟨0, _, by omega, rfl, HM0, hide (Below.refl _ _), hz2'⟩
  case round =>
    clear HM0
    obtain ⟨k, vs, hk, rfl, HM, HBK, hzr⟩ := hrel
    by_cases hkS : k < S
    · have HL0 := hide (World.ownsRow_nil wr wr.heap.size 3 1)
      obtain ⟨W3, hW3⟩ : ∃ z, z = wr := ⟨_, rfl⟩
      rw [← hW3] at HL0 HM HBK hzr ⊢
      clear hW3
      go_upto_region 6 with fail
      go_loopw [6, 17] (fun rv jv wr => ∃ j : Nat, j ≤ q ∧ jv = .int .i64 j ∧ Hid (wr.ownsRow W3.heap.size 3 1 rv j (intRow (List.replicate j (-1)))) ∧ Hid (Below W3.heap.size W3 wr)) (fun _ jv _ => q - (intOf jv).toNat)
      case atStart => exact ⟨0, by omega, rfl, HL0, hide (Below.refl _ _)⟩
      case round =>
        clear HL0
        obtain ⟨j, hj, rfl, HO, HB4⟩ := hrel
        have hz4 := HB4.out.size
        by_cases hjq : j < q
        · obtain ⟨A5, c5, rfl, hjc, _⟩ := own_value HO.out
          go_wp2_with (at_builtin; refine wpList_append_own_at _ rfl (.tmp 19) (.tmp 20) 22 rfl W3.heap.size 3 i0 _ 1 8 Try.underlying22 hi0 hz0 hz1 hz2 rfl (by omega) (.slice A5 j c5) j _ rfl (HO.out.alloc _) ⟨wr.heap.size, 0, none⟩ 1 1 (intRow [-1]) rfl (by rfl) (World.news_of_block (cs := (intRow [-1]).toArray) (t := 3) (fr := (0, 0)) (Blk.at_ rfl)) (intRow_one _) (by simp only [maxLen]; omega) (by omega) (by simp <;> omega) ?_; intro v' w6 hown2 hg2 _ hat2)
          have HBN := hide ((HB4.out.alloc hz4 _).grown hg2 (by simp <;> omega) (fun z hz => (HO.out.lt z hz).1))
          have HON := hide (show w6.ownsRow W3.heap.size 3 1 v' (j + 1) (intRow (List.replicate (j + 1) (-1))) by rw [List.replicate_succ', intRow_append]; exact hown2)
          clear hown2 hg2 hat2
          go_roundw
          case rel => exact ⟨j + 1, by omega, by go_num, HON, HBN⟩
          case measure => simp [intOf]; omega
        · obtain rfl : q = j := by omega
          have HM4 := hide (HM.out.below HB4.out)
          obtain ⟨A5, c5, rfl, hjc, _⟩ := own_value HO.out
          obtain ⟨A6, c6, rfl, hkc, _⟩ := own_value HM4.out.out
          have HAP := hide (HM.out.apart HO.out (Nat.le_refl _))
          go_wp2_with (at_builtin; refine wpList_append_own_at _ rfl (.tmp 23) (.tmp 25) 23 rfl H 22 i1 _ 1 24 Try.underlying23 hi1 hy0 hy1 hy2 rfl (by omega) (.slice A6 k c6) k _ rfl (HM4.out.out.alloc _) ⟨wr.heap.size, 0, none⟩ 1 1 [.slice A5 q c5] rfl (by rfl) (World.news_of_block (cs := #[.slice A5 q c5]) (t := 22) (fr := (0, 0)) (Blk.at_ rfl)) (by simp [Value.oneCell']) (by simp only [maxLen]; omega) (by omega) (by simp <;> omega) ?_; intro v' w6 hown2 hg2 _ hat2)
          have HMN := hide ((HM4.out.alloc _).push hg2 hown2 (own_low (HO.out.alloc _) (by omega)) HAP.out.2 (by decide))
          have HBN := hide (((HBK.out.trans (HB4.out.mono hzr)).alloc (by omega) _).grown hg2 (by simp <;> omega) (fun z hz => (HM4.out.out.lt z hz).1))
          have hs6 := hg2.size
          simp at hs6
          clear hown2 hg2 hat2
          go_roundw
          case rel => exact ⟨k + 1, _, by omega, by go_num, hide (HMN.out.congr (fun i hi => by by_cases e : i = k <;> simp [e]) (fun i hi => by by_cases e : i = k <;> simp [e])), HBN, by omega⟩
          case measure => simp [intOf]; omega
    · obtain rfl : S = k := by omega
      have bX := HX2.out.below HBK.out hwH
      have x1 := bX.cell 1
      simp at x1
      have lX := bX.lt
      have HM1 := hide (show OwnM wr H 22 3 1 u5 S vs (fun s => intRow (rowL l (a.arcs.take 0) s)) (fun _ => q) from HM.out.congr (fun i _ => by rw [List.take_zero, rowL_nil, HQ.out]) (fun _ _ => rfl))
      have HBX := hide bX
      have HB0 := hide (HBW.out.trans (HBK.out.mono (by omega)))
      have HRA3 := hide (HRA2.out.below HBK.out (by omega))
      have HRL3 := hide (HRL2.out.below HBK.out (by omega))
      obtain ⟨W3, hW3⟩ : ∃ z, z = wr := ⟨_, rfl⟩
      rw [← hW3] at HM1 HBX HB0 HRA3 HRL3 hzr x1 lX ⊢
      clear hW3 HM HBK bX HRA2 HRL2
      go_wp2
      clear x1 lX
      go_loopw [31] (fun iv wr => ∃ i : Nat, i ≤ n ∧ iv = .int .i64 i ∧ Hid (OwnM wr H 22 3 1 u5 S vs (fun s => intRow (rowL l (a.arcs.take i) s)) (fun _ => q)) ∧ Hid (Below H W3 wr) ∧ H ≤ wr.heap.size) (fun iv _ => n - (intOf iv).toNat)
      case atStart => exact ⟨0, by omega, rfl, HM1, hide (Below.refl _ _), hzr⟩
      case round =>
        clear HM1 hzr
        obtain ⟨i, hi, rfl, HM, HBK, hzr⟩ := hrel
        by_cases hin : i < n
        · obtain ⟨bb, off, x, rfl, hbB, d0, d1, d2, d3, d4, HX⟩ := arcs_at (HRA3.out.below HBK.out (by omega)) hin
          have hil : i < a.arcs.length := by rw [HN.out]; exact hin
          have HTK := hide (take_push hil HX.out)
          obtain ⟨r0, r1, r2, r3⟩ := HRNG.out x (getD_mem hil HX.out)
          have lb : bb < wr.heap.size := by omega
          clear HX hil
          go_wp2
          generalize hW5 : World.alloc _ _ = W5
          obtain ⟨X9, hX9⟩ : ∃ z, z = wr.heap.size := ⟨_, rfl⟩
          have HXB := hide (show Blk W5 X9 61 #[.int .i64 x.f, .int .i64 x.t, .int .i64 x.i, .int .i64 x.o, .int .i64 x.w] by rw [← hW5]; exact Blk.at_ hX9)
          have HM5 := hide (show OwnM W5 H 22 3 1 u5 S vs (fun s => intRow (mixR (a.arcs.take i) x l 0 s)) (fun _ => q) from (by rw [← hW5]; exact HM.out.alloc _ : OwnM W5 H _ _ 1 u5 S vs (fun s => intRow (rowL l (a.arcs.take i) s)) (fun _ => q)).congr (fun s _ => by rw [mixR_zero]) (fun _ _ => rfl))
          have HB5 := hide (show Below H W3 W5 by rw [← hW5]; exact HBK.out.alloc (by omega) _)
          have hX5 : X9 < W5.heap.size := HXB.out.lt
          have hHX : H ≤ X9 := by omega
          simp only [← hX9]
          clear hW5 hX9 d0 d1 d2 d3 d4 lb HM HBK hzr
          go_loopw [37] (fun kv wr => ∃ k : Nat, k ≤ q ∧ kv = .int .i64 k ∧ Hid (OwnM wr H 22 3 1 u5 S vs (fun s => intRow (mixR (a.arcs.take i) x l k s)) (fun _ => q)) ∧ Hid (Blk wr X9 61 #[.int .i64 x.f, .int .i64 x.t, .int .i64 x.i, .int .i64 x.o, .int .i64 x.w]) ∧ Hid (Below H W3 wr) ∧ X9 < wr.heap.size) (fun kv _ => q - (intOf kv).toNat)
          case atStart => exact ⟨0, by omega, rfl, HM5, HXB, HB5, hX5⟩
          case round =>
            clear HM5 HXB HB5 hX5
            obtain ⟨k, hk, rfl, HM, HXB, HBK, hX5⟩ := hrel
            by_cases hkq : k < q
            · obtain ⟨b2, o2, y, rfl, hb2B, e0, HY⟩ := num_at (HRL3.out.below HBK.out (by omega)) hkq
              have hkl : k < l.length := by rw [HQ.out]; exact hkq
              have x0 := HXB.out.cell 0
              have x1 := HXB.out.cell 1
              have x2 := HXB.out.cell 2
              simp at x0 x1 x2
              have lb2 : b2 < wr.heap.size := by omega
              by_cases hxy : x.i = y
              · have hfS : x.f.toNat < S := by omega
                obtain ⟨G, cG, hGv, hGc, hG1, hG2, cGf⟩ := HM.out.at_ hfS
                obtain ⟨g, cg, hgv, hg1, hg2⟩ := (HM.out.own _ hfS).form (by omega)
                have hrow := HM.out.own _ hfS
                rw [hgv] at hrow cGf
                have fg := hrow.frozenAt k
                obtain ⟨z0, cgk⟩ : ∃ z0, wr.cell? ⟨g, k, none⟩ = some (.int .i64 z0) := by
                  have h1 := hrow.cellAt k (by omega)
                  have h2 : k < (mixR (a.arcs.take i) x l k x.f.toNat).length := by rw [mixR_len, HQ.out]; omega
                  exact ⟨(mixR (a.arcs.take i) x l k x.f.toNat)[k], by rw [h1]; simp [intRow, h2]⟩
                obtain ⟨_, _, hgv2, hgc, _⟩ := own_value hrow
                have hgc : q ≤ cg := by injection hgv2 with _ _ e3; omega
                have hgX : g ≠ X9 := fun e => own_bne hrow HXB.out (by decide) (by rw [← e]; rfl)
                have HMN := hide (HM.out.store (by decide) hfS hgv k (.int .i64 x.t))
                have HEQ := hide (show ∀ s, s < S → (if s = x.f.toNat then (intRow (mixR (a.arcs.take i) x l k x.f.toNat)).set k (.int .i64 x.t) else intRow (mixR (a.arcs.take i) x l k s)) = intRow (mixR (a.arcs.take i) x l (k + 1) s) from fun s hs => by
                  by_cases e : s = x.f.toNat
                  · subst e
                    rw [if_pos rfl, intRow_set, mixR_set hkl HY.out ⟨by omega, hxy⟩]
                  · rw [if_neg e, mixR_same hkl HY.out (fun h => e (by omega))])
                have t3 : (x.i == y) = true := by simp [hxy]
                subst hGv
                clear hxy HY hkl hrow hgv2 hgv
                go_wp2
                go_region
                go_wp2
                go_roundw
                case rel => exact ⟨k + 1, by omega, by go_num, hide (HMN.out.congr HEQ.out (fun _ _ => rfl)).drew, hide (HXB.out.far (p := ⟨g, k, none⟩) (Ne.symm hgX) _).drew, hide (HBK.out.setCell (p := ⟨g, k, none⟩) (by show H ≤ g; omega) _).drew, by simp [World.setCell]; omega⟩
                case measure => simp [intOf]; omega
              · have HEQ := hide (show ∀ s, s < S → intRow (mixR (a.arcs.take i) x l k s) = intRow (mixR (a.arcs.take i) x l (k + 1) s) from fun s hs => by rw [mixR_same hkl HY.out (fun h => hxy h.2)])
                have t3 : (x.i == y) = false := by simp [hxy]
                clear hxy HY hkl
                go_wp2
                go_roundw
                case rel => exact ⟨k + 1, by omega, by go_num, hide (HM.out.congr HEQ.out (fun _ _ => rfl)), HXB, HBK, hX5⟩
                case measure => simp [intOf]; omega
            · obtain rfl : q = k := by omega
              have HMN := hide (show OwnM wr H 22 3 1 u5 S vs (fun s => intRow (rowL l (a.arcs.take (i + 1)) s)) (fun _ => q) from HM.out.congr (fun s _ => by rw [HTK.out, ← mixR_all, HQ.out]) (fun _ _ => rfl))
              go_wp2
              go_roundw
              case rel => exact ⟨i + 1, by omega, by go_num, HMN, HBK, by omega⟩
              case measure => simp [intOf]; omega
        · obtain rfl : n = i := by omega
          have hend : a.arcs.take n = a.arcs := List.take_of_length_le (by rw [HN.out]; exact Nat.le_refl _)
          have HE := hide (show NumsL wr wr.heap.size u5 ((List.range S).map (rowL l a.arcs)) by
            have := HM.out
            rw [hend] at this
            exact this.nums (by unfold big; omega) (fun _ _ => by unfold big; omega))
          have HBE := hide (HB0.out.trans (HBK.out.mono (by omega)))
          clear HM hend
          go_wp2
          exact bodyPost_ret (v := u5) (by simp [results, Try.results47, go_sem]) rfl ⟨u5, rfl, HE.out, HBE.out⟩
end Go.Proofs.Ytopakcbhodnipaa
