/- The texts LbP, CuW, LbW, ChP, CgW, CrW in one. Written by merge.py. -/
import Derived.Test.YtmgpcnkmmgkjgaaPlM
import Derived.Test.YtmgpcnkmmgkjgaaWdW
import Derived.Test.YtmgpcnkmmgkjgaaReach
import Derived.IntWalk
import Derived.Deep.Cut
import Derived.Deep.CutRange
import Derived.Deep.RegionLaw
import Derived.LoopTactic
import Derived.Test.YtmgpcnkmmgkjgaaCoZ
import Derived.Test.YtmgpcnkmmgkjgaaUnP
import Derived.Test.YtmgpcnkmmgkjgaaChD
import Derived.Test.YtmgpcnkmmgkjgaaSdW
namespace Gm
set_option linter.unusedSimpArgs false
set_option linter.unusedVariables false
/-- How many labels in front are less. -/
def posI (x : Int) : List Int → Nat
  | [] => 0
  | y :: l => if y < x then posI x l + 1 else 0
/-- A label among others, in its place, if it is not there. -/
def insI (x : Int) (l : List Int) : List Int := if posI x l < l.length ∧ l.getD (posI x l) 0 = x then l else l.take (posI x l) ++ [x] ++ l.drop (posI x l)
theorem posI_le (x : Int) : ∀ l, posI x l ≤ l.length
  | [] => Nat.le_refl _
  | y :: l => by
    unfold posI
    have := posI_le x l
    rw [List.length_cons]
    split <;> omega
theorem posI_step (x : Int) : ∀ (l : List Int) (j : Nat), j ≤ posI x l → ((j < l.length ∧ l.getD j 0 < x) ↔ j < posI x l)
  | [], j, h => by simp [posI]
  | y :: l, j, h => by
    unfold posI at h ⊢
    by_cases hy : y < x
    · rw [if_pos hy] at h ⊢
      cases j with
      | zero => simp [hy]
      | succ j =>
        have := posI_step x l j (by omega)
        rw [List.length_cons, List.getD_cons_succ]
        omega
    · rw [if_neg hy] at h ⊢
      obtain rfl : j = 0 := by omega
      simp [hy]
theorem posI_less (x : Int) : ∀ (l : List Int), ∀ y ∈ l.take (posI x l), y < x
  | [], y, h => by simp at h
  | z :: l, y, h => by
    unfold posI at h
    by_cases hz : z < x
    · rw [if_pos hz, List.take_succ_cons] at h
      rcases List.mem_cons.1 h with rfl | h
      · exact hz
      · exact posI_less x l y h
    · rw [if_neg hz] at h; simp at h
theorem posI_more {x : Int} : ∀ {l : List Int}, l.Pairwise (· < ·) → ∀ y ∈ l.drop (posI x l), x ≤ y
  | [], _, y, h => by simp at h
  | z :: l, hs, y, h => by
    unfold posI at h
    obtain ⟨h1, h2⟩ := List.pairwise_cons.1 hs
    by_cases hz : z < x
    · rw [if_pos hz, List.drop_succ_cons] at h
      exact posI_more h2 y h
    · rw [if_neg hz, List.drop_zero] at h
      rcases List.mem_cons.1 h with rfl | h
      · omega
      · have := h1 y h; omega
theorem insI_mem {x : Int} {l : List Int} {y : Int} : y ∈ insI x l ↔ y = x ∨ y ∈ l := by
  unfold insI
  by_cases h : posI x l < l.length ∧ l.getD (posI x l) 0 = x
  · rw [if_pos h]
    refine ⟨.inr, ?_⟩
    rintro (rfl | hy)
    · have : l[posI y l]'h.1 ∈ l := List.getElem_mem _
      have e : l.getD (posI y l) 0 = l[posI y l]'h.1 := by simp [List.getD, h.1]
      rw [← e, h.2] at this
      exact this
    · exact hy
  · rw [if_neg h]
    have e : l.take (posI x l) ++ l.drop (posI x l) = l := List.take_append_drop _ _
    constructor
    · intro hy
      simp only [List.mem_append, List.mem_singleton] at hy
      rcases hy with (hy | hy) | hy
      · exact .inr (List.mem_of_mem_take hy)
      · exact .inl hy
      · exact .inr (List.mem_of_mem_drop hy)
    · intro hy
      simp only [List.mem_append, List.mem_singleton]
      rcases hy with hy | hy
      · exact .inl (.inr hy)
      · rw [← e, List.mem_append] at hy
        rcases hy with hy | hy
        · exact .inl (.inl hy)
        · exact .inr hy
theorem insI_sorted {x : Int} {l : List Int} (hs : l.Pairwise (· < ·)) : (insI x l).Pairwise (· < ·) := by
  unfold insI
  by_cases h : posI x l < l.length ∧ l.getD (posI x l) 0 = x
  · rw [if_pos h]; exact hs
  · rw [if_neg h]
    have e : l.take (posI x l) ++ l.drop (posI x l) = l := List.take_append_drop _ _
    have hs' := hs
    rw [← e] at hs'
    obtain ⟨h1, h2, h3⟩ := List.pairwise_append.1 hs'
    have hgt : ∀ y ∈ l.drop (posI x l), x < y := fun y hy => by
      have h4 := posI_more hs y hy
      rcases Int.lt_or_eq_of_le h4 with g | g
      · exact g
      · exfalso
        obtain ⟨i, hi, hg⟩ := List.mem_iff_getElem.1 hy
        have hp : posI x l < l.length := by rw [List.length_drop] at hi; omega
        have hd : l.drop (posI x l) = l[posI x l] :: l.drop (posI x l + 1) := List.drop_eq_getElem_cons hp
        have h5 : x ≤ l[posI x l] := posI_more hs _ (by rw [hd]; exact List.mem_cons_self)
        have h6 : l[posI x l] ≠ x := fun e => h ⟨hp, by simp [List.getD, hp, e]⟩
        rw [hd] at h2 hy
        rcases List.mem_cons.1 hy with e1 | e1
        · omega
        · have := (List.pairwise_cons.1 h2).1 y e1; omega
    refine List.pairwise_append.2 ⟨List.pairwise_append.2 ⟨h1, List.pairwise_singleton _ _, fun a ha b hb => ?_⟩, h2, fun a ha b hb => ?_⟩
    · rw [List.mem_singleton.1 hb]; exact posI_less x l a ha
    · rcases List.mem_append.1 ha with ha | ha
      · exact h3 a ha b hb
      · rw [List.mem_singleton.1 ha]; exact hgt b hb
theorem insI_len (x : Int) (l : List Int) : (insI x l).length ≤ l.length + 1 := by
  unfold insI
  split
  · omega
  · have := posI_le x l
    simp only [List.length_append, List.length_take, List.length_drop, List.length_cons, List.length_nil]
    omega
theorem insI_no {x : Int} {l : List Int} (h : ¬ (posI x l < l.length ∧ l.getD (posI x l) 0 = x)) : insI x l = l.take (posI x l) ++ [x] ++ l.drop (posI x l) := if_neg h
theorem insI_yes {x : Int} {l : List Int} (h : posI x l < l.length ∧ l.getD (posI x l) 0 = x) : insI x l = l := if_pos h
/-- The labels of some arcs. -/
def labsR (l : List Arc) : List Int := l.foldl (fun s a => if a.i = 0 then s else insI a.i s) []
theorem labsR_snoc (l : List Arc) (a : Arc) : labsR (l ++ [a]) = if a.i = 0 then labsR l else insI a.i (labsR l) := by
  unfold labsR
  rw [List.foldl_append]
  rfl
theorem labsR_ind {P : List Arc → List Int → Prop} (h0 : P [] []) (h1 : ∀ l a s, P l s → P (l ++ [a]) (if a.i = 0 then s else insI a.i s)) (l : List Arc) : P l (labsR l) := by
  have h : ∀ (k p : List Arc) (s : List Int), P p s → P (p ++ k) (k.foldl (fun s a => if a.i = 0 then s else insI a.i s) s) := by
    intro k
    induction k with
    | nil => intro p s hp; simpa using hp
    | cons a k ih =>
      intro p s hp
      have := ih (p ++ [a]) _ (h1 p a s hp)
      rw [List.append_assoc] at this
      exact this
  exact h l [] [] h0
theorem labsR_sorted (l : List Arc) : (labsR l).Pairwise (· < ·) :=
  labsR_ind (P := fun _ s => s.Pairwise (· < ·)) .nil (fun l a s h => by
    split
    · exact h
    · exact insI_sorted h) l
theorem labsR_mem (l : List Arc) : ∀ x, x ∈ labsR l ↔ x ≠ 0 ∧ ∃ a ∈ l, a.i = x :=
  labsR_ind (P := fun l s => ∀ x, x ∈ s ↔ x ≠ 0 ∧ ∃ a ∈ l, a.i = x) (fun x => by simp) (fun l a s h x => by
    have e : (∃ b ∈ l ++ [a], b.i = x) ↔ (∃ b ∈ l, b.i = x) ∨ a.i = x := by
      constructor
      · rintro ⟨b, hb, he⟩
        rcases List.mem_append.1 hb with hb | hb
        · exact .inl ⟨b, hb, he⟩
        · rw [List.mem_singleton.1 hb] at he; exact .inr he
      · rintro (⟨b, hb, he⟩ | he)
        · exact ⟨b, List.mem_append.2 (.inl hb), he⟩
        · exact ⟨a, List.mem_append.2 (.inr (List.mem_singleton.2 rfl)), he⟩
    rw [e]
    by_cases h0 : a.i = 0
    · rw [if_pos h0, h x]
      constructor
      · rintro ⟨h1, h2⟩; exact ⟨h1, .inl h2⟩
      · rintro ⟨h1, h2 | h2⟩
        · exact ⟨h1, h2⟩
        · omega
    · rw [if_neg h0, insI_mem, h x]
      constructor
      · rintro (rfl | ⟨h1, h2⟩)
        · exact ⟨h0, .inr rfl⟩
        · exact ⟨h1, .inl h2⟩
      · rintro ⟨h1, h2 | h2⟩
        · exact .inr ⟨h1, h2⟩
        · exact .inl h2.symm) l
theorem labsR_len (l : List Arc) : (labsR l).length ≤ l.length :=
  labsR_ind (P := fun l s => s.length ≤ l.length) (Nat.le_refl _) (fun l a s h => by
    rw [List.length_append, List.length_singleton]
    split
    · omega
    · have := insI_len a.i s; omega) l
/-- The machine that copies the words of these labels. -/
def cpM (ls : List Int) : Mach := ⟨1, ls.map fun l => ⟨0, 0, l, l, 0⟩, [⟨0, 0⟩]⟩
end Gm

namespace Go.Proofs.Ytmgpcnkmmgkjgaa
open Go.RowKit Gm
set_option linter.unusedSimpArgs false
set_option linter.unusedVariables false
theorem rd_take {W : World} {B n k : Nat} {A : Option Addr} {l : List Int} (h : Rd W B 1 A n (intCell l)) (hk : k ≤ n) : Rd W B 1 A k (intCell (l.take k)) := fun h0 => by
  obtain ⟨b, off, e, hb, hc⟩ := h (by omega)
  refine ⟨b, off, e, hb, fun i j hi hj => ?_⟩
  rw [hc i j (by omega) hj]
  unfold intCell
  rw [List.getD_eq_getElem?_getD, List.getD_eq_getElem?_getD, List.getElem?_take_of_lt hi]
theorem rd_drop {W : World} {B n k : Nat} {A : Option Addr} {l : List Int} (h : Rd W B 1 A n (intCell l)) (hk : k ≤ n) (hn : k < n) : Rd W B 1 (A.map (·.add k)) (n - k) (intCell (l.drop k)) := fun h0 => by
  obtain ⟨b, off, rfl, hb, hc⟩ := h (by omega)
  refine ⟨b, off + k, by simp [Addr.add], hb, fun i j hi hj => ?_⟩
  have := hc (k + i) j (by omega) hj
  unfold intCell at this ⊢
  rw [List.getD_eq_getElem?_getD] at this ⊢
  rw [List.getElem?_drop, ← this]
  congr 2
  omega
theorem cut_take {A : Option Addr} {n c k : Nat} (hk : k ≤ n) (hc : n ≤ c) (hb : n ≤ big) : ∃ V, (∀ W : World, (Instr.slice 36 (.slice A n c) none (some (.int .i64 (k : Int))) none).run Try.prog W = .ok V W) ∧ ∀ W B l, Nums W B (.slice A n c) l → Nums W B V (l.take k) := by
  refine ⟨sliced A 0 k c 1, fun W => ?_, fun W B l h => ?_⟩
  · have h1 : (k : Int) ≤ (c : Int) := by omega
    have h0 : (0 : Int) ≤ (k : Int) := by omega
    go_simp
  · obtain ⟨A', n', c', e, h1, h2, h3, h4⟩ := h
    injection e with e1 e2 e3
    subst e1 e2 e3
    have e : sliced A 0 k c 1 = .slice (if c = 0 then A else A.map (·.add 0)) k c := by simp [sliced]
    have eA : (if c = 0 then A else A.map (·.add 0)) = A := by
      split
      · rfl
      · cases A <;> simp [Addr.add]
    rw [e, eA]
    exact ⟨A, k, c, rfl, hide (by rw [List.length_take, h1.out]; omega), by omega, by omega, rd_take h4 hk⟩
theorem cut_drop {A : Option Addr} {n c k : Nat} (hk : k ≤ n) (hc : n ≤ c) (hb : n ≤ big) : ∃ V, (∀ W : World, (Instr.slice 36 (.slice A n c) (some (.int .i64 (k : Int))) none none).run Try.prog W = .ok V W) ∧ ∀ W B l, Nums W B (.slice A n c) l → Nums W B V (l.drop k) := by
  refine ⟨sliced A k n c 1, fun W => ?_, fun W B l h => ?_⟩
  · have h1 : (k : Int) ≤ (n : Int) := by omega
    have h0 : (0 : Int) ≤ (k : Int) := by omega
    go_simp
  · obtain ⟨A', n', c', e, h1, h2, h3, h4⟩ := h
    injection e with e1 e2 e3
    subst e1 e2 e3
    have e : sliced A k n c 1 = .slice (if c = k then A else A.map (·.add k)) (n - k) (c - k) := by simp [sliced]
    rw [e]
    refine ⟨_, n - k, c - k, rfl, hide (by rw [List.length_drop, h1.out]), by omega, by omega, ?_⟩
    by_cases hn : k < n
    · rw [if_neg (by omega)]; exact rd_drop h4 hk hn
    · have : n - k = 0 := by omega
      rw [this]; exact Rd.zero
theorem cut_mid {A : Option Addr} {n c k p : Nat} (hp : p ≤ k) (hk : k ≤ n) (hc : n ≤ c) (hb : n ≤ big) : ∃ V, (∀ W : World, (Instr.slice 36 (.slice A n c) (some (.int .i64 (p : Int))) (some (.int .i64 (k : Int))) none).run Try.prog W = .ok V W) ∧ ∀ W B l, Nums W B (.slice A n c) l → Nums W B V ((l.take k).drop p) := by
  refine ⟨sliced A p k c 1, fun W => ?_, fun W B l h => ?_⟩
  · have h1 : (k : Int) ≤ (c : Int) := by omega
    have h2 : (p : Int) ≤ (k : Int) := by omega
    have h0 : (0 : Int) ≤ (p : Int) := by omega
    go_simp
  · obtain ⟨A', n', c', e, h1, h2, h3, h4⟩ := h
    injection e with e1 e2 e3
    subst e1 e2 e3
    have e : sliced A p k c 1 = .slice (if c = p then A else A.map (·.add p)) (k - p) (c - p) := by simp [sliced]
    rw [e]
    refine ⟨_, k - p, c - p, rfl, hide (by rw [List.length_drop, List.length_take, h1.out]; omega), by omega, by omega, ?_⟩
    by_cases hn : p < k
    · rw [if_neg (by omega)]; exact rd_drop (rd_take h4 hk) hp hn
    · have : k - p = 0 := by omega
      rw [this]; exact Rd.zero
end Go.Proofs.Ytmgpcnkmmgkjgaa

namespace Go.Proofs.Ytmgpcnkmmgkjgaa
open Go.RowKit Gm
set_option linter.unusedSimpArgs false
set_option linter.unusedVariables false
theorem own_belowI {w w' : World} {base sz n : Nat} {e : TypeId} {v : Value} {xs : List Value} (h : w.ownsRow base e sz v n xs) (hb : Below w.heap.size w w') : w'.ownsRow base e sz v n xs :=
  h.kept (row := none) ⟨hb.os, hb.tape, hb.output, hb.size, fun k hk _ => hb.block k hk⟩ (by cases v.ownBlock <;> simp)
theorem step_append_any {P : Program} {ops : Array Oper} {o : Oper} {a : Act} {w : World} {K : Act → World → Prop} {Q : Exit → Act → World → Prop} {EE : Prop} (hg : o.guard = none) (s x : Operand) (t : TypeId)
    (ho : o.op = .call { callee := .builtin .append, args := #[s, x], argTypes := #[t, t] })
    (base : Nat) (e : TypeId) (i : TypeInfo) (z : Value) (size bytes : Nat) (ht : P.underlying t = some (.slice e)) (hi : P.info? e = some i) (hz : i.zero = some z)
    (hsize : i.size = size) (hby : i.bytes = bytes) (hzs : z.cells.size = size) (hsz : 0 < size)
    (v : Value) (n : Nat) (xs : List Value) (hs : a.eval s = v) (hown : w.ownsRow base e size v n xs)
    (B : Nat) (A : Option Addr) (m c : Nat) (news : List Value) (f : Nat → Nat → Value) (hx : a.eval x = .slice A m c) (hr : Rd w B size A m f) (hA : A = none → m = 0) (hl : news.length = m * size) (hnews : ∀ i j, i < m → j < size → news[i * size + j]? = some (f i j)) (h1 : ∀ u ∈ news, u.oneCell' = true)
    (h63 : n + m ≤ maxLen) (hbytes : (n + m) * bytes ≤ 140737488355328) (hbase : base ≤ w.heap.size)
    (h : ∀ v' w', w'.ownsRow base e size v' (n + m) (xs ++ news) → w.grownBy w' v.ownBlock → (v'.ownBlock = v.ownBlock ∨ v'.ownBlock = some w.heap.size) → K (a.put o.dst v') w') :
    if Region.wanted o (yielded ops a.tmps) = true then Oper.wp P o a w K Q else EE := by
  have hw : Region.wanted o (yielded ops a.tmps) = true := by simp [Region.wanted, hg]
  rw [if_pos hw]
  exact wp_append_any w s x t ho base e i z size bytes ht hi hz hsize hby hzs hsz v n xs hs hown B A m c news f hx hr hA hl hnews h1 h63 hbytes hbase h
theorem own_emptyI {w : World} {base g sz : Nat} {e : TypeId} (h : Blk w g e #[]) (hb : base ≤ g) : w.ownsRow base e sz (.slice (some ⟨g, 0, none⟩) 0 0) 0 [] := by
  exact ⟨by simp, .inr ⟨g, 0, #[], rfl, hb, h, Nat.le_refl _, Nat.zero_le _, by simp, by simp⟩⟩
theorem own_monoI {w : World} {b1 b2 sz n : Nat} {e : TypeId} {v : Value} {xs : List Value} (h : w.ownsRow b1 e sz v n xs) (hb : b2 ≤ b1) : w.ownsRow b2 e sz v n xs := by
  obtain ⟨h1, h2⟩ := h
  refine ⟨h1, ?_⟩
  rcases h2 with h2 | ⟨g, cap, cur, e1, e2, e3⟩
  · exact .inl h2
  · exact .inr ⟨g, cap, cur, e1, by omega, e3⟩
theorem rd_single {w : World} {g : Nat} {t : TypeId} {x : Int} (h : Blk w g t #[.int .i64 x]) : Rd w w.heap.size 1 (some ⟨g, 0, none⟩) 1 (intCell [x]) := fun _ => by
  refine ⟨g, 0, rfl, h.lt, fun i j hi hj => ?_⟩
  obtain rfl : i = 0 := by omega
  obtain rfl : j = 0 := by omega
  have := h.cell 0
  simpa [intCell] using this
theorem nums_form {W : World} {B : Nat} {V : Value} {l : List Int} (h : Nums W B V l) : ∃ A c, V = .slice A l.length c ∧ Rd W B 1 A l.length (intCell l) ∧ (A = none → l.length = 0) := by
  obtain ⟨A, n, c, rfl, h1, h2, h3, h4⟩ := h
  have e := h1.out
  subst e
  refine ⟨A, c, rfl, h4, fun hA => ?_⟩
  rcases Nat.eq_zero_or_pos l.length with h0 | h0
  · exact h0
  · obtain ⟨b, off, g, _⟩ := h4 h0
    rw [hA] at g; cases g
set_option maxRecDepth 100000 in
set_option maxHeartbeats 16000000 in
theorem labels_any (va : Value) (a : Mach) (w : World) (B : Nat) (hB : B ≤ w.heap.size) (ha : MachAt w B va a) (hlen : a.arcs.length ≤ 1000000) :
    Calls Try.prog 51 #[va] w fun e w' => ∃ A' c', e = .returned (.slice A' (labsR a.arcs).length c') ∧ w'.ownsRow w.heap.size 3 1 (.slice A' (labsR a.arcs).length c') (labsR a.arcs).length (intRow (labsR a.arcs)) ∧ Below w.heap.size w w' := by
  obtain ⟨A, AF, n, c, nf, cf, rfl, HN, HF, hnc, hnfc, hnb, hnfb, hA, hF⟩ := ha
  rw [HN.out] at hlen
  have HRA := hide hA
  obtain ⟨i0, hi0, hz0, hz1, hz2⟩ := info_parts int_info
  clear hA hF HF
  unfold big at hnb hnfb
  go_enter Try.func51, Try.ntmps51
  go_upto_region 3 with fail
  generalize hW2 : World.alloc _ _ = W2
  have HBW := hide (show Below w.heap.size w W2 by rw [← hW2]; go_grown)
  have hz2' : w.heap.size ≤ W2.heap.size := HBW.out.size
  have HRA2 := hide (HRA.out.below HBW.out hB)
  obtain ⟨H, hH⟩ : ∃ H, H = w.heap.size := ⟨_, rfl⟩
  rw [← hH] at HBW hz2' hB ⊢
  have HHW := hide hH
  clear hW2 hH HRA
  go_loopw [3, 10] (fun lv iv wr => ∃ (k : Nat) (A3 : Option Addr) (q c3 : Nat) (l : List Int), k ≤ n ∧ iv = .int .i64 k ∧ lv = .slice A3 q c3 ∧ Hid (l = labsR (a.arcs.take k)) ∧ Hid (l.length = q) ∧ q ≤ k ∧ Hid (wr.ownsRow H 3 1 (.slice A3 q c3) q (intRow l)) ∧ Hid (Below H W2 wr) ∧ H ≤ wr.heap.size) (fun _ iv _ => n - (intOf iv).toNat)
  case atStart => exact ⟨0, none, 0, 0, [], by omega, rfl, rfl, hide rfl, hide rfl, by omega, hide (World.ownsRow_nil _ _ _ _), hide (Below.refl _ _), hz2'⟩
  case round =>
    obtain ⟨k, A3, q, c3, l, hk, rfl, rfl, HL, HQ, hqk, HOWN, HBK, hzr⟩ := hrel
    by_cases hkn : k < n
    · obtain ⟨bb, off, x, rfl, hbB, d0, d1, d2, d3, d4, HX⟩ := arcs_at (HRA2.out.below HBK.out hB) hkn
      have hkl : k < a.arcs.length := by rw [HN.out]; exact hkn
      have HTK := hide (show labsR (a.arcs.take (k + 1)) = if x.i = 0 then l else insI x.i l by
        rw [HL.out, ← labsR_snoc, List.take_add_one, List.getElem?_eq_getElem hkl, show a.arcs[k] = x by rw [← HX.out]; simp [hkl]]; rfl)
      have lb : bb < wr.heap.size := by omega
      clear HX hkl
      by_cases hx0 : x.i = 0
      · rw [if_pos hx0] at HTK
        go_wp2
        go_roundw
        case rel => exact ⟨k + 1, A3, q, c3, l, by omega, by go_num, rfl, hide HTK.out.symm, HQ, by omega, hide (HOWN.out.alloc _), hide (HBK.out.alloc (by omega) _), by simp; omega⟩
        case measure => simp [intOf]; omega
      · rw [if_neg hx0] at HTK
        have t0 : decide (x.i = 0) = false := decide_eq_false hx0
        go_wp2
        generalize hW5 : World.alloc _ _ = W5
        obtain ⟨X9, hX9⟩ : ∃ z, z = wr.heap.size := ⟨_, rfl⟩
        have HX5 := hide (show Blk W5 X9 45 #[.int .i64 x.f, .int .i64 x.t, .int .i64 x.i, .int .i64 x.o, .int .i64 x.w] by rw [← hW5]; exact Blk.at_ hX9)
        have HOWN5 := hide (show W5.ownsRow H 3 1 (.slice A3 q c3) q (intRow l) by rw [← hW5]; exact HOWN.out.alloc _)
        have HB5 := hide (show Below H W2 W5 by rw [← hW5]; exact HBK.out.alloc (by omega) _)
        have hs5 : X9 < W5.heap.size := HX5.out.lt
        have hHX : H ≤ X9 := by omega
        have HP := hide (posI_le x.i l)
        simp only [← hX9]
        clear hW5 hX9 d0 d1 d2 d3 d4 lb HOWN HBK
        go_loopw [6] (fun jv wi => ∃ j : Nat, j ≤ posI x.i l ∧ jv = .int .i64 j ∧ Hid (Below W5.heap.size W5 wi)) (fun jv _ => posI x.i l - (intOf jv).toNat)
        case atStart => exact ⟨0, by omega, rfl, hide (Below.refl _ _)⟩
        case round =>
          obtain ⟨j, hj, rfl, HB6⟩ := hrel
          have HST := hide (posI_step x.i l j hj)
          have HOWN6 := hide (own_belowI HOWN5.out HB6.out)
          have HRD := hide (Rd.of_own HOWN6.out (HQ.out ▸ intRow_at l))
          have x2 := (HX5.out.below HB6.out hs5).cell 2
          have lX : X9 < wr.heap.size := by have := HB6.out.size; omega
          simp at x2
          obtain ⟨b1, hb1⟩ : ∃ b : Bool, b = decide (j < posI x.i l) := ⟨_, rfl⟩
          have HB1 := hide hb1
          clear hb1
          go_upto_region 7 with fail
          go_cut [29] from 17 to 29 (fun s29 wx => s29 = .bool b1 ∧ Hid (∃ k, wx = wr.drewN k))
          case first =>
            by_cases hjq : j < q
            · obtain ⟨b2, o2, y, rfl, h2, c2, HY⟩ := num_at HRD.out hjq
              have hb : b1 = decide (y < x.i) := by
                have h := HST.out
                rw [HQ.out, HY.out] at h
                rw [HB1.out]
                by_cases g : y < x.i
                · rw [decide_eq_true g, decide_eq_true (h.1 ⟨hjq, g⟩)]
                · rw [decide_eq_false g, decide_eq_false (fun g' => g (h.2 g').2)]
              subst hb
              clear HY HB1
              go_wp2
              go_quiet (fail)
              go_wp2
              go_meet
              exact ⟨rfl, hide ⟨nq, rfl⟩⟩
            · have hb : b1 = false := by
                have h := HST.out
                rw [HQ.out] at h
                rw [HB1.out, decide_eq_false (fun g' => hjq (h.2 g').1)]
              have hjq' : j = q := by have := HP.out; rw [HQ.out] at this; omega
              subst hb
              clear hjq HB1
              subst hjq'
              go_wp2
              go_quiet (fail)
              go_wp2
              go_meet
              exact ⟨rfl, hide ⟨nq, rfl⟩⟩
          case rest =>
            obtain ⟨rfl, HWX⟩ := hcut
            obtain ⟨k1, rfl⟩ := HWX.out
            clear HWX
            by_cases hjp : j < posI x.i l
            · have hb : b1 = true := by rw [HB1.out, decide_eq_true hjp]
              have hjl : j < n := by have := HP.out; rw [HQ.out] at this; omega
              clear HB1
              subst hb
              go_wp2
              go_roundw
              case rel => exact ⟨j + 1, by omega, by go_num, hide (below_drewN HB6.out k1)⟩
              case measure => simp [intOf]; omega
            · have hb : b1 = false := by rw [HB1.out, decide_eq_false hjp]
              have hjp' : posI x.i l = j := by omega
              have hjq := hj
              rw [hjp'] at HP
              have hjq : j ≤ q := by have := HP.out; rw [HQ.out] at this; exact this
              clear HB1 hj hjp HST
              subst hb
              obtain ⟨WR, hWR⟩ : ∃ z, z = wr.drewN k1 := ⟨_, rfl⟩
              have HB7 := hide (show Below W5.heap.size W5 WR by rw [hWR]; exact below_drewN HB6.out k1)
              rw [← hWR]
              clear hWR x2 lX HRD HOWN6 HB6
              have HOWN7 := hide (own_belowI HOWN5.out HB7.out)
              have HRD7 := hide (Rd.of_own HOWN7.out (HQ.out ▸ intRow_at l))
              have x2 := (HX5.out.below HB7.out hs5).cell 2
              have lX : X9 < WR.heap.size := by have := HB7.out.size; omega
              simp at x2
              go_upto_region 9 with fail
              obtain ⟨b2, hb2⟩ : ∃ b : Bool, b = !decide (j < q ∧ l.getD j 0 = x.i) := ⟨_, rfl⟩
              have HB2 := hide hb2
              clear hb2
              go_cut [44] from 32 to 44 (fun s44 wx => s44 = .bool b2 ∧ Hid (∃ k, wx = WR.drewN k))
              case first =>
                by_cases hjq' : j < q
                · obtain ⟨b3, o3, y, rfl, h2, c2, HY⟩ := num_at HRD7.out hjq'
                  have tj : ((j : Int) == (q : Int)) = false := by simp; omega
                  have hb : b2 = (y != x.i) := by
                    rw [HB2.out, HY.out]
                    by_cases g : y = x.i
                    · subst g; simp [hjq']
                    · simp [g]
                  subst hb
                  clear HY HB2
                  go_wp2
                  go_quiet (fail)
                  go_wp2
                  go_meet
                  exact ⟨rfl, hide ⟨nq, rfl⟩⟩
                · have hb : b2 = true := by rw [HB2.out]; simp [hjq']
                  have hjq3 : j = q := by omega
                  subst hb
                  clear hjq' hjq HB2
                  subst hjq3
                  go_wp2
                  go_quiet (fail)
                  go_wp2
                  go_meet
                  exact ⟨rfl, hide ⟨nq, rfl⟩⟩
              case rest =>
                obtain ⟨rfl, HWX⟩ := hcut
                obtain ⟨k2, rfl⟩ := HWX.out
                clear HWX
                obtain ⟨WW, hWW⟩ : ∃ z, z = WR.drewN k2 := ⟨_, rfl⟩
                have HB8 := hide (show Below W5.heap.size W5 WW by rw [hWW]; exact below_drewN HB7.out k2)
                rw [← hWW]
                clear hWW x2 lX HRD7 HOWN7 HB7
                have HOWN8 := hide (own_belowI HOWN5.out HB8.out)
                have HBW8 := hide (HB5.out.trans (HB8.out.mono (by omega)))
                have hz8 : W5.heap.size ≤ WW.heap.size := HB8.out.size
                by_cases hin : j < q ∧ l.getD j 0 = x.i
                · have hb : b2 = false := by rw [HB2.out]; simp only [Bool.not_eq_false', decide_eq_true_eq]; exact hin
                  have HIN := hide (insI_yes (x := x.i) (l := l) ⟨by rw [hjp', HQ.out]; exact hin.1, by rw [hjp']; exact hin.2⟩)
                  rw [HIN.out] at HTK
                  subst hb
                  clear hin HB2 HIN
                  go_wp2
                  go_roundw
                  case rel => exact ⟨k + 1, A3, q, c3, l, by omega, by go_num, rfl, hide HTK.out.symm, HQ, by omega, HOWN8, HBW8, by omega⟩
                  case measure => simp [intOf]; omega
                · have hb : b2 = true := by rw [HB2.out]; simp only [Bool.not_eq_true', decide_eq_false_iff_not]; exact hin
                  have HIN := hide (insI_no (x := x.i) (l := l) (fun h => hin (by rw [hjp', HQ.out] at h; exact h)))
                  rw [HIN.out, hjp'] at HTK
                  subst hb
                  clear hin HB2 HIN
                  obtain ⟨A3', c3', hv3, hqc3, _⟩ := own_value HOWN8.out
                  have hqc3 : q ≤ c3 := by injection hv3 with e1 e2 e3; omega
                  clear hv3
                  have HRD8 := hide (Rd.of_own HOWN8.out (HQ.out ▸ intRow_at l))
                  have x2 := (HX5.out.below HB8.out hs5).cell 2
                  have lX : X9 < WW.heap.size := by omega
                  simp at x2
                  obtain ⟨V1, hV1, hn1⟩ := cut_take (A := A3) (c := c3) (k := j) hjq hqc3 (by unfold big; omega)
                  obtain ⟨V2, hV2, hn2⟩ := cut_drop (A := A3) (c := c3) (k := j) hjq hqc3 (by unfold big; omega)
                  have HNW := hide (show Nums WW WW.heap.size (.slice A3 q c3) l from ⟨_, _, _, rfl, HQ, hqc3, by unfold big; omega, HRD8.out⟩)
                  obtain ⟨A1, c1, rfl, hr1, hA1⟩ := nums_form (hn1 _ _ _ HNW.out)
                  obtain ⟨A2, c2, rfl, hr2, hA2⟩ := nums_form (hn2 _ _ _ HNW.out)
                  have HL1 := hide (show (l.take j).length = j by rw [List.length_take, HQ.out]; omega)
                  have HL2 := hide (show (l.drop j).length = q - j by rw [List.length_drop, HQ.out])
                  rw [HL1.out] at hV1 hr1 hA1
                  rw [HL2.out] at hV2 hr2 hA2
                  have HR1 := hide hr1
                  have HR2 := hide hr2
                  clear hr1 hr2 hn1 hn2 HNW HRD8
                  go_upto_region 10 with fail
                  go_region_law (first
                    | (refine step_append_any rfl (.tmp 53) (.tmp 56) 36 rfl WW.heap.size 3 i0 _ 1 8 Try.underlying36 hi0 hz0 hz1 hz2 rfl (by omega) (.slice A7 (j + 1) c7) (j + 1) (intRow (l.take j) ++ intRow [x.i]) rfl (by exact hown7) WW.heap.size A2 (q - j) c2 (intRow (l.drop j)) (intCell (l.drop j)) rfl (by exact HR2.out.below HB7.out (Nat.le_refl _)) hA2 (by rw [intRow_length, HL2.out, Nat.mul_one]) (fun i j' hi hj => intRow_at _ i j' (by rw [HL2.out]; exact hi) hj) (intRow_one _) (by simp only [maxLen]; omega) (by omega) (by have := HB7.out.size; simp <;> omega) ?_; intro v8 w8 hown8 hg8 _; rw [show j + 1 + (q - j) = q + 1 by omega] at hown8; obtain ⟨A8, c8, rfl, hkc8, _⟩ := own_value hown8; have HB8' := hide (HB7.out.grown hg8 (by have := HB7.out.size; simp <;> omega) (fun q hq => (hown7.lt q hq).1)))
                    | (refine step_append_any rfl (.tmp 49) (.tmp 52) 36 rfl WW.heap.size 3 i0 _ 1 8 Try.underlying36 hi0 hz0 hz1 hz2 rfl (by omega) (.slice A6 j c6) j (intRow (l.take j)) rfl (by exact hown6) _ (some ⟨WW.heap.size + 1, 0, none⟩) 1 1 (intRow [x.i]) (intCell [x.i]) rfl (by exact rd_single (t := 3) (by (repeat (first | ((with_reducible refine Blk.at_ ?_); first | (with_reducible rfl) | (simp; done)) | (with_reducible refine Blk.alloc ?_ _) | (with_reducible refine Blk.drew ?_) | (with_reducible exact HE6.out))))) (by simp) (by simp [intRow]) (intRow_at [x.i]) (intRow_one _) (by simp only [maxLen]; omega) (by omega) (by have := HB6.out.size; simp <;> omega) ?_; intro v7 w7 hown7 hg7 _; obtain ⟨A7, c7, rfl, hkc7, _⟩ := own_value hown7; have HB7 := hide (HB6.out.grown hg7 (by have := HB6.out.size; simp <;> omega) (fun q hq => (hown6.lt q hq).1)))
                    | (refine step_append_any rfl (.tmp 49) (.tmp 52) 36 rfl WW.heap.size 3 i0 _ 1 8 Try.underlying36 hi0 hz0 hz1 hz2 rfl (by omega) (.slice A6 j c6) j (intRow (l.take j)) rfl (by exact hown6) _ (some ⟨WW.heap.size, 0, none⟩) 1 1 (intRow [x.i]) (intCell [x.i]) rfl (by exact rd_single (t := 3) (by (repeat (first | ((with_reducible refine Blk.at_ ?_); first | (with_reducible rfl) | (simp; done)) | (with_reducible refine Blk.alloc ?_ _) | (with_reducible refine Blk.drew ?_) | (with_reducible exact HE6.out))))) (by simp) (by simp [intRow]) (intRow_at [x.i]) (intRow_one _) (by simp only [maxLen]; omega) (by omega) (by have := HB6.out.size; simp <;> omega) ?_; intro v7 w7 hown7 hg7 _; obtain ⟨A7, c7, rfl, hkc7, _⟩ := own_value hown7; have HB7 := hide (HB6.out.grown hg7 (by have := HB6.out.size; simp <;> omega) (fun q hq => (hown6.lt q hq).1)))
                    | (refine step_append_any rfl (.tmp 49) (.tmp 52) 36 rfl WW.heap.size 3 i0 _ 1 8 Try.underlying36 hi0 hz0 hz1 hz2 rfl (by omega) (.slice A6 j c6) j (intRow (l.take j)) rfl (by exact hown6.alloc _) _ (some ⟨w6.heap.size, 0, none⟩) 1 1 (intRow [x.i]) (intCell [x.i]) rfl (by exact rd_single (t := 3) (by (repeat (first | ((with_reducible refine Blk.at_ ?_); first | (with_reducible rfl) | (simp; done)) | (with_reducible refine Blk.alloc ?_ _) | (with_reducible refine Blk.drew ?_) | (with_reducible exact HE6.out))))) (by simp) (by simp [intRow]) (intRow_at [x.i]) (intRow_one _) (by simp only [maxLen]; omega) (by omega) (by have := HB6.out.size; simp <;> omega) ?_; intro v7 w7 hown7 hg7 _; obtain ⟨A7, c7, rfl, hkc7, _⟩ := own_value hown7; have HB7 := hide ((HB6.out.alloc (by have := HB6.out.size; omega) _).grown hg7 (by have := HB6.out.size; simp <;> omega) (fun q hq => (hown6.lt q hq).1)))
                    | (refine step_append_any rfl (.tmp 45) (.tmp 48) 36 rfl WW.heap.size 3 i0 _ 1 8 Try.underlying36 hi0 hz0 hz1 hz2 rfl (by omega) (.slice (some ⟨WW.heap.size, 0, none⟩) 0 0) 0 [] rfl (own_emptyI (by (repeat (first | ((with_reducible refine Blk.at_ ?_); first | (with_reducible rfl) | (simp; done)) | (with_reducible refine Blk.alloc ?_ _) | (with_reducible refine Blk.drew ?_) | (with_reducible exact HE6.out)))) (by simp)) WW.heap.size A1 j c1 (intRow (l.take j)) (intCell (l.take j)) rfl (by exact HR1.out.below (show Below WW.heap.size WW _ by go_grown) (Nat.le_refl _)) hA1 (by rw [intRow_length, HL1.out, Nat.mul_one]) (fun i j' hi hj => intRow_at _ i j' (by rw [HL1.out]; exact hi) hj) (intRow_one _) (by simp only [maxLen]; omega) (by omega) (by simp <;> omega) ?_; intro v6 w6 hown6 hg6 _; simp only [Nat.zero_add, List.nil_append] at hown6; obtain ⟨A6, c6, rfl, hkc6, _⟩ := own_value hown6; have HB6 := hide ((((Below.refl WW.heap.size WW).alloc (Nat.le_refl _) _).alloc (by simp) _).drew.grown hg6 (by simp <;> omega) (fun q hq => by simp [Value.ownBlock] at hq; omega)); have HE6 := hide ((show Blk _ (WW.heap.size + 1) 3 #[.int .i64 x.i] by exact (Blk.at_ (by simp))).grown hg6 (by simp [Value.ownBlock])); have x26 := keep_cell HB6.out x2 lX; have lX6 : X9 < w6.heap.size := Nat.lt_of_lt_of_le lX HB6.out.size)
                    | (refine step_append_any rfl (.tmp 45) (.tmp 48) 36 rfl WW.heap.size 3 i0 _ 1 8 Try.underlying36 hi0 hz0 hz1 hz2 rfl (by omega) (.slice (some ⟨WW.heap.size, 0, none⟩) 0 0) 0 [] rfl (own_emptyI (by (repeat (first | ((with_reducible refine Blk.at_ ?_); first | (with_reducible rfl) | (simp; done)) | (with_reducible refine Blk.alloc ?_ _) | (with_reducible refine Blk.drew ?_) | (with_reducible exact HE6.out)))) (by simp)) WW.heap.size A1 j c1 (intRow (l.take j)) (intCell (l.take j)) rfl (by exact HR1.out.below (show Below WW.heap.size WW _ by go_grown) (Nat.le_refl _)) hA1 (by rw [intRow_length, HL1.out, Nat.mul_one]) (fun i j' hi hj => intRow_at _ i j' (by rw [HL1.out]; exact hi) hj) (intRow_one _) (by simp only [maxLen]; omega) (by omega) (by simp <;> omega) ?_; intro v6 w6 hown6 hg6 _; simp only [Nat.zero_add, List.nil_append] at hown6; obtain ⟨A6, c6, rfl, hkc6, _⟩ := own_value hown6; have HB6 := hide (((Below.refl WW.heap.size WW).alloc (Nat.le_refl _) _).drew.grown hg6 (by simp) (fun q hq => by simp [Value.ownBlock] at hq; omega)); have x26 := keep_cell HB6.out x2 lX; have lX6 : X9 < w6.heap.size := Nat.lt_of_lt_of_le lX HB6.out.size)
                    | (refine step_append_any rfl (.tmp 45) (.tmp 48) 36 rfl WW.heap.size 3 i0 _ 1 8 Try.underlying36 hi0 hz0 hz1 hz2 rfl (by omega) (.slice (some ⟨WW.heap.size + 1, 0, none⟩) 0 0) 0 [] rfl (own_emptyI (by (repeat (first | ((with_reducible refine Blk.at_ ?_); first | (with_reducible rfl) | (simp; done)) | (with_reducible refine Blk.alloc ?_ _) | (with_reducible refine Blk.drew ?_) | (with_reducible exact HE6.out)))) (by simp)) WW.heap.size A1 j c1 (intRow (l.take j)) (intCell (l.take j)) rfl (by exact HR1.out.below (show Below WW.heap.size WW _ by go_grown) (Nat.le_refl _)) hA1 (by rw [intRow_length, HL1.out, Nat.mul_one]) (fun i j' hi hj => intRow_at _ i j' (by rw [HL1.out]; exact hi) hj) (intRow_one _) (by simp only [maxLen]; omega) (by omega) (by simp <;> omega) ?_; intro v6 w6 hown6 hg6 _; simp only [Nat.zero_add, List.nil_append] at hown6; obtain ⟨A6, c6, rfl, hkc6, _⟩ := own_value hown6; have HB6 := hide ((((Below.refl WW.heap.size WW).alloc (Nat.le_refl _) _).alloc (by simp) _).drew.grown hg6 (by simp <;> omega) (fun q hq => by simp [Value.ownBlock] at hq; omega)); have HE6 := hide ((show Blk _ (WW.heap.size) 3 #[.int .i64 x.i] by exact ((Blk.at_ rfl).alloc _)).grown hg6 (by simp [Value.ownBlock])); have x26 := keep_cell HB6.out x2 lX; have lX6 : X9 < w6.heap.size := Nat.lt_of_lt_of_le lX HB6.out.size))
                  all_goals go_wp2
                  all_goals
                    go_roundw
                    · exact ⟨k + 1, A8, q + 1, c8, l.take j ++ [x.i] ++ l.drop j, by omega, by go_num, rfl, hide HTK.out.symm, hide (by simp only [List.length_append, List.length_cons, List.length_nil]; rw [HL1.out, HL2.out]; omega), by omega, hide (own_monoI (show _ from (by rw [intRow_append, intRow_append]; exact hown8)) (show H ≤ WW.heap.size by omega)), hide (HBW8.out.trans (HB8'.out.mono (by omega))), by have := HB8'.out.size; omega⟩
                    · simp [intOf]; omega
    · obtain rfl : n = k := by omega
      have hend : a.arcs.take n = a.arcs := List.take_of_length_le (by rw [HN.out]; exact Nat.le_refl _)
      have HL' := HL.out
      rw [hend] at HL'
      have HE := hide (show (labsR a.arcs).length = q by rw [← HL', HQ.out])
      rw [HL'] at HOWN
      have HBE := hide (HBW.out.trans HBK.out)
      go_wp2
      refine bodyPost_ret (v := .slice A3 q c3) (by simp [results, Try.results51, go_sem]) rfl ⟨A3, c3, ?_⟩
      rw [HE.out, ← HHW.out]
      exact ⟨rfl, HOWN.out, HBE.out⟩
end Go.Proofs.Ytmgpcnkmmgkjgaa

namespace Gm
set_option linter.unusedSimpArgs false
set_option linter.unusedVariables false
theorem chM_red (k : Nat) (m : Mach) : chM k m = ⟨m.n, redA (m.arcs.map (chA k)), m.fins⟩ := rfl
/-- A machine with arcs in order, the lightest of those alike, is valid. -/
theorem valid_red {n : Int} {l : List Arc} {f : List Fnl} (hn : 0 ≤ n ∧ n ≤ 400) (hl : (redA l).length ≤ 2000) (ha : ∀ a ∈ l, okArc n a = true) (hf : ∀ x ∈ f, okFin n x = true) (hfs : f.Pairwise fun x y => x.s < y.s) : Valid ⟨n, redA l, f⟩ := by
  have hnd : (redA l).Nodup := (redA_strict l).imp fun {a b} h e => by subst e; rw [arcLess_irrefl] at h; cases h.1
  have hs : SortedA (redA l) := (redA_strict l).imp fun {a b} h => by
    cases e : arcLess b a
    · rfl
    · have := arcLess_asymm h.1; rw [e] at this; cases this
  have e1 : redA l = srtA (redA l) := srtA_eq hs (List.Perm.refl _)
  have h := valid_srt (l := redA l) hnd hn hl (fun a ha' => ha a (redA_sub ha')) hf hfs
  rw [← e1] at h
  exact h
theorem okArc_ch (k : Nat) {n : Int} {a : Arc} (h : okArc n a = true) : okArc n (chA k a) = true := by
  have := okArc_iff h
  have : okArc n (chA k a) = true := by
    simp only [okArc, Bool.and_eq_true, inR_iff]
    unfold chA
    split <;> (dsimp only; omega)
  exact this
theorem valid_ch (k : Nat) {m : Mach} (h : Valid m) : Valid (chM k m) := by
  rw [chM_red]
  refine valid_red ⟨h.n0, h.n4⟩ ?_ ?_ (fun x hx => h.okF hx) (fins_sorted h)
  · have := redA_len (m.arcs.map (chA k))
    rw [List.length_map] at this
    have := h.len
    omega
  · intro a ha
    obtain ⟨b, hb, rfl⟩ := List.mem_map.1 ha
    exact okArc_ch k (h.okA hb)
theorem pw_ch1 {A : List Arc} {s t : Int} {u v : List Int} {d : Nat} (h : Pw A s t u v d) : Pw (A.map (chA 1)) s t v u d := by
  induction h with
  | nil => exact .nil
  | @snoc t u v d a _ ha hf ih => exact .snoc (a := chA 1 a) ih (List.mem_map.2 ⟨a, ha, rfl⟩) hf
theorem pw_ch2 {A : List Arc} {s t : Int} {u v : List Int} {d : Nat} (h : Pw A s t u v d) : Pw (A.map (chA 2)) s t u u d := by
  induction h with
  | nil => exact .nil
  | @snoc t u v d a _ ha hf ih => exact .snoc (a := chA 2 a) ih (List.mem_map.2 ⟨a, ha, rfl⟩) hf
theorem pw_ch3 {A : List Arc} {s t : Int} {u v : List Int} {d : Nat} (h : Pw A s t u v d) : Pw (A.map (chA 3)) s t v v d := by
  induction h with
  | nil => exact .nil
  | @snoc t u v d a _ ha hf ih => exact .snoc (a := chA 3 a) ih (List.mem_map.2 ⟨a, ha, rfl⟩) hf
theorem chA_twice (a : Arc) : chA 1 (chA 1 a) = a := rfl
theorem pw_ch1' {A : List Arc} {s t : Int} {u v : List Int} {d : Nat} (h : Pw (A.map (chA 1)) s t u v d) : Pw A s t v u d := by
  have := pw_ch1 h
  rw [List.map_map] at this
  have e : (chA 1 ∘ chA 1) = id := funext fun a => chA_twice a
  rw [e, List.map_id] at this
  exact this
theorem acc_chk {m : Mach} (h : Rng m) {k : Nat} {u v u' v' : List Int} (hp : ∀ t d, Pw m.arcs 0 t u v d → Pw (m.arcs.map (chA k)) 0 t u' v' d) : Dom (Acc m u v) (Acc (chM k m) u' v') := by
  have hk : Rng (chM k m) := ⟨fun a ha => by
    obtain ⟨b, hb, rfl⟩ := List.mem_map.1 (redA_sub (show a ∈ redA (m.arcs.map (chA k)) from ha))
    have := h.arc b hb
    unfold chA; split <;> exact this, h.fin, ⟨fun a ha => by
    obtain ⟨b, hb, rfl⟩ := List.mem_map.1 (redA_sub (show a ∈ redA (m.arcs.map (chA k)) from ha))
    have := h.wt.1 b hb
    unfold chA; split <;> exact this, h.wt.2⟩, h.n0⟩
  intro d hd
  obtain ⟨h0, x, hx, e, he, rfl⟩ := h.acc.1 hd
  obtain ⟨e', h1, h2⟩ := pw_red (hp _ _ he)
  exact ⟨e' + x.w.toNat, by omega, hk.acc.2 ⟨h0, x, hx, e', h2, rfl⟩⟩
theorem rng_chk {m : Mach} (h : Rng m) (k : Nat) : Rng (chM k m) := ⟨fun a ha => by
    obtain ⟨b, hb, rfl⟩ := List.mem_map.1 (redA_sub (show a ∈ redA (m.arcs.map (chA k)) from ha))
    have := h.arc b hb
    unfold chA; split <;> exact this, h.fin, ⟨fun a ha => by
    obtain ⟨b, hb, rfl⟩ := List.mem_map.1 (redA_sub (show a ∈ redA (m.arcs.map (chA k)) from ha))
    have := h.wt.1 b hb
    unfold chA; split <;> exact this, h.wt.2⟩, h.n0⟩
theorem acc_ch1' {m : Mach} (h : Rng m) {u v : List Int} {d : Nat} (hd : Acc (chM 1 m) u v d) : Acc m v u d := by
  obtain ⟨h0, x, hx, e, he, rfl⟩ := (rng_chk h 1).acc.1 hd
  exact h.acc.2 ⟨h0, x, hx, e, pw_ch1' (he.mono fun a ha => redA_sub ha), rfl⟩
/-- The inverse weighs the pairs turned around. -/
theorem wgt_ch1 {m : Mach} (h : Rng m) (u v : List Int) : wgt (chM 1 m) v u = wgt m u v :=
  least_dom (fun d hd => ⟨d, Nat.le_refl _, acc_ch1' h hd⟩) (acc_chk h fun _ _ hp => pw_ch1 hp)
theorem wgt_dom {m m' : Mach} {u v u' v' : List Int} (h : Dom (Acc m u v) (Acc m' u' v')) (h0 : 0 ≤ wgt m u v) : 0 ≤ wgt m' u' v' ∧ wgt m' u' v' ≤ wgt m u v := by
  rcases wgt_least m u v with ⟨e, _⟩ | ⟨n, e, hn, _⟩
  · omega
  · obtain ⟨d', h1, h2⟩ := h n hn
    rcases wgt_least m' u' v' with ⟨e', g⟩ | ⟨n', e', hn', g⟩
    · exact absurd h2 (g d')
    · have := g d' h2; omega
theorem wgt_ch2 {m : Mach} (h : Rng m) {u v : List Int} (h0 : 0 ≤ wgt m u v) : 0 ≤ wgt (chM 2 m) u u ∧ wgt (chM 2 m) u u ≤ wgt m u v := wgt_dom (acc_chk h fun _ _ hp => pw_ch2 hp) h0
theorem wgt_ch3 {m : Mach} (h : Rng m) {u v : List Int} (h0 : 0 ≤ wgt m u v) : 0 ≤ wgt (chM 3 m) v v ∧ wgt (chM 3 m) v v ≤ wgt m u v := wgt_dom (acc_chk h fun _ _ hp => pw_ch3 hp) h0
end Gm

namespace Go.Proofs.Ytmgpcnkmmgkjgaa
open Go.RowKit Gm Go.Sort Go.Shelf
set_option linter.unusedSimpArgs false
set_option linter.unusedVariables false
theorem sameA_red : sameA true = likeA := funext fun a => funext fun b => by unfold sameA; rw [if_pos rfl]
theorem own_belowG {w w' : World} {base sz n : Nat} {e : TypeId} {v : Value} {xs : List Value} (h : w.ownsRow base e sz v n xs) (hb : Below w.heap.size w w') : w'.ownsRow base e sz v n xs :=
  h.kept (row := none) ⟨hb.os, hb.tape, hb.output, hb.size, fun k hk _ => hb.block k hk⟩ (by cases v.ownBlock <;> simp)
set_option maxRecDepth 100000 in
set_option maxHeartbeats 16000000 in
theorem rch1_any (va : Value) (a : Mach) (w : World) (B : Nat) (hB : B ≤ w.heap.size) (ha : MachAt w B va a) (hv : Valid a) :
    Calls Try.prog 17 #[va, .int .i64 1] w fun e w' => ∃ v', e = .returned v' ∧ MachAt w' w'.heap.size v' (chM 1 a) ∧ Below w.heap.size w w' := by
  obtain ⟨A, AF, n, c, nf, cf, rfl, HN, HF, hnc, hnfc, hnb, hnfb, hA, hF⟩ := ha
  have hlen := hv.len
  rw [HN.out] at hlen
  have HRA := hide hA
  have HRF := hide hF
  obtain ⟨ia, ha0, ha1, ha2, ha3⟩ := info_parts arc_info
  clear hA hF hv
  go_enter Try.func17, Try.ntmps17
  go_upto_region 2 with fail
  generalize hW2 : World.alloc _ _ = W2
  obtain ⟨O, hO⟩ : ∃ z, z = w.heap.size + 1 + 1 := ⟨_, rfl⟩
  have HX2 := hide (show Blk W2 w.heap.size 25 #[.int .i64 a.n, .slice A n c, .slice AF nf cf] by rw [← hW2]; exact ((Blk.at_ rfl).alloc _).alloc _)
  have HR2 := hide (show Blk W2 (w.heap.size + 1) 25 #[.int .i64 0, .slice none 0 0, .slice none 0 0] by rw [← hW2]; exact (Blk.at_ (by simp)).alloc _)
  have HO2 := hide (show Blk W2 O 25 #[.int .i64 a.n, .slice none 0 0, .slice AF nf cf] by rw [← hW2]; exact Blk.at_ (by simp [hO]))
  have HBW := hide (show Below w.heap.size w W2 by rw [← hW2]; go_grown)
  have hz2 : O + 1 ≤ W2.heap.size := by rw [← hW2, hO]; simp
  have hOw : w.heap.size + 1 < O := by omega
  have HRA2 := hide (HRA.out.below HBW.out hB)
  have HRF2 := hide (HRF.out.below HBW.out hB)
  have x1 := HX2.out.cell 1
  simp at x1
  have lX := HX2.out.lt
  simp only [← hO]
  clear hW2 hO
  go_wp2
  clear x1 lX
  go_loopw [18] (fun iv wr => ∃ (k : Nat) (A5 : Option Addr) (c5 : Nat), k ≤ n ∧ iv = .int .i64 k ∧ Hid (Blk wr O 25 #[.int .i64 a.n, .slice A5 k c5, .slice AF nf cf]) ∧ Hid (wr.ownsRow (O + 1) 45 5 (.slice A5 k c5) k (arcRow ((a.arcs.take k).map (chA 1)))) ∧ Hid (Below O W2 wr) ∧ O + 1 ≤ wr.heap.size) (fun iv _ => n - (intOf iv).toNat)
  case atStart => exact ⟨0, none, 0, by omega, rfl, HO2, hide (World.ownsRow_nil _ _ _ _), hide (Below.refl _ _), hz2⟩
  case round =>
    clear HO2 hz2
    obtain ⟨k, A5, c5, hk, rfl, HO, HOWN, HBK, hz⟩ := hrel
    by_cases hkn : k < n
    · obtain ⟨bb, off, x, rfl, hbB, d0, d1, d2, d3, d4, HX⟩ := arcs_at (HRA2.out.below HBK.out (by omega)) hkn
      have hkl : k < a.arcs.length := by rw [HN.out]; exact hkn
      have HTK := hide (take_push hkl HX.out)
      have lb : bb < wr.heap.size := by omega
      have hneO : (Value.slice A5 k c5).ownBlock ≠ some O := fun e => by have := (HOWN.out.lt O e).1; omega
      have HLOW := hide (show ∀ q, (Value.slice A5 k c5).ownBlock = some q → O ≤ q from fun q hq => by have := (HOWN.out.lt q hq).1; omega)
      clear hkl HX
      go_wp2
      go_quiet (fail)
      go_upto_region 13 with fail
      generalize hW6 : World.setCell _ _ _ = W6
      obtain ⟨X9, hX9⟩ : ∃ z, z = wr.heap.size := ⟨_, rfl⟩
      have hb6 : Below wr.heap.size wr W6 := by rw [← hW6]; exact ((below_drewN ((Below.refl _ _).alloc (Nat.le_refl _) _) nq).setCell (by exact Nat.le_refl _) _).setCell (by exact Nat.le_refl _) _
      have bA6 : Blk W6 X9 45 #[.int .i64 x.f, .int .i64 x.t, .int .i64 x.o, .int .i64 x.i, .int .i64 x.w] := by rw [← hW6, hX9]; exact (by simpa using ((show Blk ((wr.alloc (Obj.cells #[.int .i64 x.f, .int .i64 x.t, .int .i64 x.i, .int .i64 x.o, .int .i64 x.w] 45)).drewN nq) wr.heap.size 45 #[.int .i64 x.f, .int .i64 x.t, .int .i64 x.i, .int .i64 x.o, .int .i64 x.w] from Blk.at_ rfl).set_ 2 (.int .i64 x.o)).set_ 3 (.int .i64 x.i))
      have bO6 := HO.out.below hb6 HO.out.lt
      have HOWN6 := hide (own_belowG HOWN.out hb6)
      have HB6 := hide (HBK.out.trans (hb6.mono (by omega)))
      have hs6 := hb6.size
      have hXO : O < X9 := by omega
      have a0 := bA6.cell 0
      have a1 := bA6.cell 1
      have a2 := bA6.cell 2
      have a3 := bA6.cell 3
      have a4 := bA6.cell 4
      have o1 := bO6.cell 1
      simp at a0 a1 a2 a3 a4 o1
      have lA6 := bA6.lt
      have lO6 := bO6.lt
      have HO6 := hide bO6
      simp only [← hX9]
      clear hW6 hX9 hb6 bA6 bO6 d0 d1 d2 d3 d4 HO HOWN HBK
      go_wp2_with (at_builtin; refine wpList_append_own _ rfl (.tmp 42) (.tmp 44) 22 rfl (O + 1) 45 ia _ 5 40 Try.underlying22 ha0 ha1 ha2 ha3 rfl (by omega) (.slice A5 k c5) k _ rfl (HOWN6.out.alloc _) ⟨W6.heap.size, 0, none⟩ 1 1 (arcRow [chA 1 x]) rfl (by rfl) (World.news_of_block (cs := (arcRow [chA 1 x]).toArray) (t := 45) (fr := (0, 0)) (Blk.at_ rfl)) (arcRow_one _) (by simp only [maxLen]; omega) (by omega) (by simp <;> omega) ?_; intro v' w8 hown2 hg2 _; obtain ⟨Av, cv, rfl, hkcv, _⟩ := own_value hown2; have bO8 := (HO6.out.alloc _).grown hg2 (Ne.symm hneO); have of1' := bO8.frozen 1; have lO8 := bO8.lt; have o1' := bO8.cell 1; simp at o1')
      have hs8 := hg2.size
      simp at hs8
      have HBO8 := hide (bO8.set_ 1 (.slice Av (k + 1) cv))
      have hown3 : w8.ownsRow (O + 1) 45 5 (.slice Av (k + 1) cv) (k + 1) (arcRow ((a.arcs.take (k + 1)).map (chA 1))) := by rw [HTK.out, List.map_append, arcRow_append]; exact hown2
      have HOWN8 := hide (ownsRow_setCell_below hown3 (a := ⟨O, 1, none⟩) (Nat.lt_succ_self O) (.slice Av (k + 1) cv))
      have HG2 := hide hg2
      clear hown2 hown3 hg2 bO8
      go_roundw
      case rel => exact ⟨k + 1, Av, cv, by omega, by go_num, hide (by simpa using HBO8.out), HOWN8, hide (((HB6.out.alloc (by omega) _).grown HG2.out (by simp <;> omega) (fun q hq => HLOW.out q hq)).setCell (by exact Nat.le_refl _) _), by simp [World.setCell]; omega⟩
      case measure => simp [intOf]; omega
    · obtain rfl : n = k := by omega
      have hend : a.arcs.take n = a.arcs := List.take_of_length_le (by rw [HN.out]; exact Nat.le_refl _)
      rw [hend] at HOWN
      have HLQ := hide (show (a.arcs.map (chA 1)).length = n by rw [List.length_map, HN.out])
      have HRD := hide (Rd.of_own HOWN.out (fun i j hi hj => arcRow_at _ i j (by rw [HLQ.out]; exact hi) hj))
      have HSR := hide (fun W (hW : W = wr) => sorted_any A5 n c5 true (a.arcs.map (chA 1)) W wr.heap.size (by rw [hW]; exact Nat.le_refl _) HLQ.out (by omega) (by rw [hW]; exact HRD.out))
      have o1 := HO.out.cell 1
      simp at o1
      have lO := HO.out.lt
      clear hend HOWN HRD
      go_wp2_with fail
      refine (HSR.out _ rfl).mono ?_
      rintro e w9 ⟨A9, c9, rfl, hown9, hb9⟩
      rw [sameA_red] at hown9 ⊢
      obtain ⟨RL, hRL⟩ : ∃ z, z = compact likeA (srtA (a.arcs.map (chA 1))) := ⟨_, rfl⟩
      rw [← hRL] at hown9 ⊢
      obtain ⟨n9, hn9⟩ : ∃ z, z = RL.length := ⟨_, rfl⟩
      rw [← hn9] at hown9 ⊢
      obtain ⟨A9', c9', hv9, hnc9, hcm9⟩ := own_value hown9
      obtain ⟨rfl, rfl⟩ : A9 = A9' ∧ c9 = c9' := by injection hv9 with e1 e2 e3; exact ⟨e1, e3⟩
      clear hv9
      have hl9 : n9 ≤ n := by rw [hn9, hRL, ← HLQ.out]; exact Nat.le_trans (compact_len likeA _) (Nat.le_of_eq (srtA_perm _).length_eq)
      have HRL := hide hRL
      have HN9 := hide hn9
      have bO9 := HO.out.below hb9 lO
      have hb9' : Below O W2 w9 := HBK.out.trans (hb9.mono (by omega))
      have bR := HR2.out.below hb9' (by omega)
      have HBE := hide (HBW.out.trans (hb9'.mono (by omega)))
      have HOW9 := hide (ownsRow_setCell_below (ownsRow_setCell_below (ownsRow_setCell_below (ownsRow_setCell_below hown9 (a := ⟨O, 1, none⟩) (by dsimp only; omega) (.slice A9 n9 c9)) (a := ⟨w.heap.size + 1, 0, none⟩) (by dsimp only; omega) (.int .i64 a.n)) (a := ⟨w.heap.size + 1, 1, none⟩) (by dsimp only; omega) (.slice A9 n9 c9)) (a := ⟨w.heap.size + 1, 2, none⟩) (by dsimp only; omega) (.slice AF nf cf))
      have o0 := bO9.cell 0
      have o1 := bO9.cell 1
      have o2 := bO9.cell 2
      have of1 := bO9.frozen 1
      have lO9 := bO9.lt
      have q0 := bR.cell 0
      have q1 := bR.cell 1
      have q2 := bR.cell 2
      have qf := bR.frozen 0
      have qf1 := bR.frozen 1
      have qf2 := bR.frozen 2
      have lR := bR.lt
      simp at o0 o1 o2 q0 q1 q2
      have hRO : w.heap.size + 1 ≠ O := by omega
      have hOR : O ≠ w.heap.size + 1 := by omega
      have HBE' := hide ((((HBE.out.setCell (p := ⟨O, 1, none⟩) (by dsimp only; omega) (.slice A9 n9 c9)).setCell (p := ⟨w.heap.size + 1, 0, none⟩) (by dsimp only; omega) (.int .i64 a.n)).setCell (p := ⟨w.heap.size + 1, 1, none⟩) (by dsimp only; omega) (.slice A9 n9 c9)).setCell (p := ⟨w.heap.size + 1, 2, none⟩) (by dsimp only; omega) (.slice AF nf cf))
      clear hb9 hb9' bO9 bR hown9 hRL hn9 HBE HSR HO HBK lO
      go_wp21
      refine bodyPost_ret (v := .agg #[.int .i64 a.n, .slice A9 n9 c9, .slice AF nf cf]) (by simp [results, Try.results17, go_sem, lR, q0, q1, q2, qf, qf1, qf2, hRO, hOR]) rfl ⟨_, rfl, ?_, HBE'.out⟩
      have e9 : chM 1 a = ⟨a.n, RL, a.fins⟩ := by unfold chM; rw [HRL.out]
      rw [e9]
      refine ⟨A9, AF, n9, c9, nf, cf, rfl, hide HN9.out.symm, HF, hnc9, hnfc, by unfold big; omega, hnfb, ?_, ?_⟩
      · exact Rd.of_own HOW9.out (fun i j hi hj => arcRow_at _ i j (by show i < RL.length; rw [← HN9.out]; exact hi) hj)
      · exact (HRF.out.below HBE'.out hB).mono (by have := HBE'.out.size; omega)
set_option maxRecDepth 100000 in
set_option maxHeartbeats 16000000 in
theorem rch2_any (va : Value) (a : Mach) (w : World) (B : Nat) (hB : B ≤ w.heap.size) (ha : MachAt w B va a) (hv : Valid a) :
    Calls Try.prog 17 #[va, .int .i64 2] w fun e w' => ∃ v', e = .returned v' ∧ MachAt w' w'.heap.size v' (chM 2 a) ∧ Below w.heap.size w w' := by
  obtain ⟨A, AF, n, c, nf, cf, rfl, HN, HF, hnc, hnfc, hnb, hnfb, hA, hF⟩ := ha
  have hlen := hv.len
  rw [HN.out] at hlen
  have HRA := hide hA
  have HRF := hide hF
  obtain ⟨ia, ha0, ha1, ha2, ha3⟩ := info_parts arc_info
  clear hA hF hv
  go_enter Try.func17, Try.ntmps17
  go_upto_region 2 with fail
  generalize hW2 : World.alloc _ _ = W2
  obtain ⟨O, hO⟩ : ∃ z, z = w.heap.size + 1 + 1 := ⟨_, rfl⟩
  have HX2 := hide (show Blk W2 w.heap.size 25 #[.int .i64 a.n, .slice A n c, .slice AF nf cf] by rw [← hW2]; exact ((Blk.at_ rfl).alloc _).alloc _)
  have HR2 := hide (show Blk W2 (w.heap.size + 1) 25 #[.int .i64 0, .slice none 0 0, .slice none 0 0] by rw [← hW2]; exact (Blk.at_ (by simp)).alloc _)
  have HO2 := hide (show Blk W2 O 25 #[.int .i64 a.n, .slice none 0 0, .slice AF nf cf] by rw [← hW2]; exact Blk.at_ (by simp [hO]))
  have HBW := hide (show Below w.heap.size w W2 by rw [← hW2]; go_grown)
  have hz2 : O + 1 ≤ W2.heap.size := by rw [← hW2, hO]; simp
  have hOw : w.heap.size + 1 < O := by omega
  have HRA2 := hide (HRA.out.below HBW.out hB)
  have HRF2 := hide (HRF.out.below HBW.out hB)
  have x1 := HX2.out.cell 1
  simp at x1
  have lX := HX2.out.lt
  simp only [← hO]
  clear hW2 hO
  go_wp2
  clear x1 lX
  go_loopw [18] (fun iv wr => ∃ (k : Nat) (A5 : Option Addr) (c5 : Nat), k ≤ n ∧ iv = .int .i64 k ∧ Hid (Blk wr O 25 #[.int .i64 a.n, .slice A5 k c5, .slice AF nf cf]) ∧ Hid (wr.ownsRow (O + 1) 45 5 (.slice A5 k c5) k (arcRow ((a.arcs.take k).map (chA 2)))) ∧ Hid (Below O W2 wr) ∧ O + 1 ≤ wr.heap.size) (fun iv _ => n - (intOf iv).toNat)
  case atStart => exact ⟨0, none, 0, by omega, rfl, HO2, hide (World.ownsRow_nil _ _ _ _), hide (Below.refl _ _), hz2⟩
  case round =>
    clear HO2 hz2
    obtain ⟨k, A5, c5, hk, rfl, HO, HOWN, HBK, hz⟩ := hrel
    by_cases hkn : k < n
    · obtain ⟨bb, off, x, rfl, hbB, d0, d1, d2, d3, d4, HX⟩ := arcs_at (HRA2.out.below HBK.out (by omega)) hkn
      have hkl : k < a.arcs.length := by rw [HN.out]; exact hkn
      have HTK := hide (take_push hkl HX.out)
      have lb : bb < wr.heap.size := by omega
      have hneO : (Value.slice A5 k c5).ownBlock ≠ some O := fun e => by have := (HOWN.out.lt O e).1; omega
      have HLOW := hide (show ∀ q, (Value.slice A5 k c5).ownBlock = some q → O ≤ q from fun q hq => by have := (HOWN.out.lt q hq).1; omega)
      clear hkl HX
      go_wp2
      go_quiet (fail)
      go_upto_region 13 with fail
      generalize hW6 : World.setCell _ _ _ = W6
      obtain ⟨X9, hX9⟩ : ∃ z, z = wr.heap.size := ⟨_, rfl⟩
      have hb6 : Below wr.heap.size wr W6 := by rw [← hW6]; exact (below_drewN ((Below.refl _ _).alloc (Nat.le_refl _) _) nq).setCell (by exact Nat.le_refl _) _
      have bA6 : Blk W6 X9 45 #[.int .i64 x.f, .int .i64 x.t, .int .i64 x.i, .int .i64 x.i, .int .i64 x.w] := by rw [← hW6, hX9]; exact (by simpa using (show Blk ((wr.alloc (Obj.cells #[.int .i64 x.f, .int .i64 x.t, .int .i64 x.i, .int .i64 x.o, .int .i64 x.w] 45)).drewN nq) wr.heap.size 45 #[.int .i64 x.f, .int .i64 x.t, .int .i64 x.i, .int .i64 x.o, .int .i64 x.w] from Blk.at_ rfl).set_ 3 (.int .i64 x.i))
      have bO6 := HO.out.below hb6 HO.out.lt
      have HOWN6 := hide (own_belowG HOWN.out hb6)
      have HB6 := hide (HBK.out.trans (hb6.mono (by omega)))
      have hs6 := hb6.size
      have hXO : O < X9 := by omega
      have a0 := bA6.cell 0
      have a1 := bA6.cell 1
      have a2 := bA6.cell 2
      have a3 := bA6.cell 3
      have a4 := bA6.cell 4
      have o1 := bO6.cell 1
      simp at a0 a1 a2 a3 a4 o1
      have lA6 := bA6.lt
      have lO6 := bO6.lt
      have HO6 := hide bO6
      simp only [← hX9]
      clear hW6 hX9 hb6 bA6 bO6 d0 d1 d2 d3 d4 HO HOWN HBK
      go_wp2_with (at_builtin; refine wpList_append_own _ rfl (.tmp 42) (.tmp 44) 22 rfl (O + 1) 45 ia _ 5 40 Try.underlying22 ha0 ha1 ha2 ha3 rfl (by omega) (.slice A5 k c5) k _ rfl (HOWN6.out.alloc _) ⟨W6.heap.size, 0, none⟩ 1 1 (arcRow [chA 2 x]) rfl (by rfl) (World.news_of_block (cs := (arcRow [chA 2 x]).toArray) (t := 45) (fr := (0, 0)) (Blk.at_ rfl)) (arcRow_one _) (by simp only [maxLen]; omega) (by omega) (by simp <;> omega) ?_; intro v' w8 hown2 hg2 _; obtain ⟨Av, cv, rfl, hkcv, _⟩ := own_value hown2; have bO8 := (HO6.out.alloc _).grown hg2 (Ne.symm hneO); have of1' := bO8.frozen 1; have lO8 := bO8.lt; have o1' := bO8.cell 1; simp at o1')
      have hs8 := hg2.size
      simp at hs8
      have HBO8 := hide (bO8.set_ 1 (.slice Av (k + 1) cv))
      have hown3 : w8.ownsRow (O + 1) 45 5 (.slice Av (k + 1) cv) (k + 1) (arcRow ((a.arcs.take (k + 1)).map (chA 2))) := by rw [HTK.out, List.map_append, arcRow_append]; exact hown2
      have HOWN8 := hide (ownsRow_setCell_below hown3 (a := ⟨O, 1, none⟩) (Nat.lt_succ_self O) (.slice Av (k + 1) cv))
      have HG2 := hide hg2
      clear hown2 hown3 hg2 bO8
      go_roundw
      case rel => exact ⟨k + 1, Av, cv, by omega, by go_num, hide (by simpa using HBO8.out), HOWN8, hide (((HB6.out.alloc (by omega) _).grown HG2.out (by simp <;> omega) (fun q hq => HLOW.out q hq)).setCell (by exact Nat.le_refl _) _), by simp [World.setCell]; omega⟩
      case measure => simp [intOf]; omega
    · obtain rfl : n = k := by omega
      have hend : a.arcs.take n = a.arcs := List.take_of_length_le (by rw [HN.out]; exact Nat.le_refl _)
      rw [hend] at HOWN
      have HLQ := hide (show (a.arcs.map (chA 2)).length = n by rw [List.length_map, HN.out])
      have HRD := hide (Rd.of_own HOWN.out (fun i j hi hj => arcRow_at _ i j (by rw [HLQ.out]; exact hi) hj))
      have HSR := hide (fun W (hW : W = wr) => sorted_any A5 n c5 true (a.arcs.map (chA 2)) W wr.heap.size (by rw [hW]; exact Nat.le_refl _) HLQ.out (by omega) (by rw [hW]; exact HRD.out))
      have o1 := HO.out.cell 1
      simp at o1
      have lO := HO.out.lt
      clear hend HOWN HRD
      go_wp2_with fail
      refine (HSR.out _ rfl).mono ?_
      rintro e w9 ⟨A9, c9, rfl, hown9, hb9⟩
      rw [sameA_red] at hown9 ⊢
      obtain ⟨RL, hRL⟩ : ∃ z, z = compact likeA (srtA (a.arcs.map (chA 2))) := ⟨_, rfl⟩
      rw [← hRL] at hown9 ⊢
      obtain ⟨n9, hn9⟩ : ∃ z, z = RL.length := ⟨_, rfl⟩
      rw [← hn9] at hown9 ⊢
      obtain ⟨A9', c9', hv9, hnc9, hcm9⟩ := own_value hown9
      obtain ⟨rfl, rfl⟩ : A9 = A9' ∧ c9 = c9' := by injection hv9 with e1 e2 e3; exact ⟨e1, e3⟩
      clear hv9
      have hl9 : n9 ≤ n := by rw [hn9, hRL, ← HLQ.out]; exact Nat.le_trans (compact_len likeA _) (Nat.le_of_eq (srtA_perm _).length_eq)
      have HRL := hide hRL
      have HN9 := hide hn9
      have bO9 := HO.out.below hb9 lO
      have hb9' : Below O W2 w9 := HBK.out.trans (hb9.mono (by omega))
      have bR := HR2.out.below hb9' (by omega)
      have HBE := hide (HBW.out.trans (hb9'.mono (by omega)))
      have HOW9 := hide (ownsRow_setCell_below (ownsRow_setCell_below (ownsRow_setCell_below (ownsRow_setCell_below hown9 (a := ⟨O, 1, none⟩) (by dsimp only; omega) (.slice A9 n9 c9)) (a := ⟨w.heap.size + 1, 0, none⟩) (by dsimp only; omega) (.int .i64 a.n)) (a := ⟨w.heap.size + 1, 1, none⟩) (by dsimp only; omega) (.slice A9 n9 c9)) (a := ⟨w.heap.size + 1, 2, none⟩) (by dsimp only; omega) (.slice AF nf cf))
      have o0 := bO9.cell 0
      have o1 := bO9.cell 1
      have o2 := bO9.cell 2
      have of1 := bO9.frozen 1
      have lO9 := bO9.lt
      have q0 := bR.cell 0
      have q1 := bR.cell 1
      have q2 := bR.cell 2
      have qf := bR.frozen 0
      have qf1 := bR.frozen 1
      have qf2 := bR.frozen 2
      have lR := bR.lt
      simp at o0 o1 o2 q0 q1 q2
      have hRO : w.heap.size + 1 ≠ O := by omega
      have hOR : O ≠ w.heap.size + 1 := by omega
      have HBE' := hide ((((HBE.out.setCell (p := ⟨O, 1, none⟩) (by dsimp only; omega) (.slice A9 n9 c9)).setCell (p := ⟨w.heap.size + 1, 0, none⟩) (by dsimp only; omega) (.int .i64 a.n)).setCell (p := ⟨w.heap.size + 1, 1, none⟩) (by dsimp only; omega) (.slice A9 n9 c9)).setCell (p := ⟨w.heap.size + 1, 2, none⟩) (by dsimp only; omega) (.slice AF nf cf))
      clear hb9 hb9' bO9 bR hown9 hRL hn9 HBE HSR HO HBK lO
      go_wp21
      refine bodyPost_ret (v := .agg #[.int .i64 a.n, .slice A9 n9 c9, .slice AF nf cf]) (by simp [results, Try.results17, go_sem, lR, q0, q1, q2, qf, qf1, qf2, hRO, hOR]) rfl ⟨_, rfl, ?_, HBE'.out⟩
      have e9 : chM 2 a = ⟨a.n, RL, a.fins⟩ := by unfold chM; rw [HRL.out]
      rw [e9]
      refine ⟨A9, AF, n9, c9, nf, cf, rfl, hide HN9.out.symm, HF, hnc9, hnfc, by unfold big; omega, hnfb, ?_, ?_⟩
      · exact Rd.of_own HOW9.out (fun i j hi hj => arcRow_at _ i j (by show i < RL.length; rw [← HN9.out]; exact hi) hj)
      · exact (HRF.out.below HBE'.out hB).mono (by have := HBE'.out.size; omega)
set_option maxRecDepth 100000 in
set_option maxHeartbeats 16000000 in
theorem rch3_any (va : Value) (a : Mach) (w : World) (B : Nat) (hB : B ≤ w.heap.size) (ha : MachAt w B va a) (hv : Valid a) :
    Calls Try.prog 17 #[va, .int .i64 3] w fun e w' => ∃ v', e = .returned v' ∧ MachAt w' w'.heap.size v' (chM 3 a) ∧ Below w.heap.size w w' := by
  obtain ⟨A, AF, n, c, nf, cf, rfl, HN, HF, hnc, hnfc, hnb, hnfb, hA, hF⟩ := ha
  have hlen := hv.len
  rw [HN.out] at hlen
  have HRA := hide hA
  have HRF := hide hF
  obtain ⟨ia, ha0, ha1, ha2, ha3⟩ := info_parts arc_info
  clear hA hF hv
  go_enter Try.func17, Try.ntmps17
  go_upto_region 2 with fail
  generalize hW2 : World.alloc _ _ = W2
  obtain ⟨O, hO⟩ : ∃ z, z = w.heap.size + 1 + 1 := ⟨_, rfl⟩
  have HX2 := hide (show Blk W2 w.heap.size 25 #[.int .i64 a.n, .slice A n c, .slice AF nf cf] by rw [← hW2]; exact ((Blk.at_ rfl).alloc _).alloc _)
  have HR2 := hide (show Blk W2 (w.heap.size + 1) 25 #[.int .i64 0, .slice none 0 0, .slice none 0 0] by rw [← hW2]; exact (Blk.at_ (by simp)).alloc _)
  have HO2 := hide (show Blk W2 O 25 #[.int .i64 a.n, .slice none 0 0, .slice AF nf cf] by rw [← hW2]; exact Blk.at_ (by simp [hO]))
  have HBW := hide (show Below w.heap.size w W2 by rw [← hW2]; go_grown)
  have hz2 : O + 1 ≤ W2.heap.size := by rw [← hW2, hO]; simp
  have hOw : w.heap.size + 1 < O := by omega
  have HRA2 := hide (HRA.out.below HBW.out hB)
  have HRF2 := hide (HRF.out.below HBW.out hB)
  have x1 := HX2.out.cell 1
  simp at x1
  have lX := HX2.out.lt
  simp only [← hO]
  clear hW2 hO
  go_wp2
  clear x1 lX
  go_loopw [18] (fun iv wr => ∃ (k : Nat) (A5 : Option Addr) (c5 : Nat), k ≤ n ∧ iv = .int .i64 k ∧ Hid (Blk wr O 25 #[.int .i64 a.n, .slice A5 k c5, .slice AF nf cf]) ∧ Hid (wr.ownsRow (O + 1) 45 5 (.slice A5 k c5) k (arcRow ((a.arcs.take k).map (chA 3)))) ∧ Hid (Below O W2 wr) ∧ O + 1 ≤ wr.heap.size) (fun iv _ => n - (intOf iv).toNat)
  case atStart => exact ⟨0, none, 0, by omega, rfl, HO2, hide (World.ownsRow_nil _ _ _ _), hide (Below.refl _ _), hz2⟩
  case round =>
    clear HO2 hz2
    obtain ⟨k, A5, c5, hk, rfl, HO, HOWN, HBK, hz⟩ := hrel
    by_cases hkn : k < n
    · obtain ⟨bb, off, x, rfl, hbB, d0, d1, d2, d3, d4, HX⟩ := arcs_at (HRA2.out.below HBK.out (by omega)) hkn
      have hkl : k < a.arcs.length := by rw [HN.out]; exact hkn
      have HTK := hide (take_push hkl HX.out)
      have lb : bb < wr.heap.size := by omega
      have hneO : (Value.slice A5 k c5).ownBlock ≠ some O := fun e => by have := (HOWN.out.lt O e).1; omega
      have HLOW := hide (show ∀ q, (Value.slice A5 k c5).ownBlock = some q → O ≤ q from fun q hq => by have := (HOWN.out.lt q hq).1; omega)
      clear hkl HX
      go_wp2
      go_quiet (fail)
      go_upto_region 13 with fail
      generalize hW6 : World.setCell _ _ _ = W6
      obtain ⟨X9, hX9⟩ : ∃ z, z = wr.heap.size := ⟨_, rfl⟩
      have hb6 : Below wr.heap.size wr W6 := by rw [← hW6]; exact (below_drewN ((Below.refl _ _).alloc (Nat.le_refl _) _) nq).setCell (by exact Nat.le_refl _) _
      have bA6 : Blk W6 X9 45 #[.int .i64 x.f, .int .i64 x.t, .int .i64 x.o, .int .i64 x.o, .int .i64 x.w] := by rw [← hW6, hX9]; exact (by simpa using (show Blk ((wr.alloc (Obj.cells #[.int .i64 x.f, .int .i64 x.t, .int .i64 x.i, .int .i64 x.o, .int .i64 x.w] 45)).drewN nq) wr.heap.size 45 #[.int .i64 x.f, .int .i64 x.t, .int .i64 x.i, .int .i64 x.o, .int .i64 x.w] from Blk.at_ rfl).set_ 2 (.int .i64 x.o))
      have bO6 := HO.out.below hb6 HO.out.lt
      have HOWN6 := hide (own_belowG HOWN.out hb6)
      have HB6 := hide (HBK.out.trans (hb6.mono (by omega)))
      have hs6 := hb6.size
      have hXO : O < X9 := by omega
      have a0 := bA6.cell 0
      have a1 := bA6.cell 1
      have a2 := bA6.cell 2
      have a3 := bA6.cell 3
      have a4 := bA6.cell 4
      have o1 := bO6.cell 1
      simp at a0 a1 a2 a3 a4 o1
      have lA6 := bA6.lt
      have lO6 := bO6.lt
      have HO6 := hide bO6
      simp only [← hX9]
      clear hW6 hX9 hb6 bA6 bO6 d0 d1 d2 d3 d4 HO HOWN HBK
      go_wp2_with (at_builtin; refine wpList_append_own _ rfl (.tmp 42) (.tmp 44) 22 rfl (O + 1) 45 ia _ 5 40 Try.underlying22 ha0 ha1 ha2 ha3 rfl (by omega) (.slice A5 k c5) k _ rfl (HOWN6.out.alloc _) ⟨W6.heap.size, 0, none⟩ 1 1 (arcRow [chA 3 x]) rfl (by rfl) (World.news_of_block (cs := (arcRow [chA 3 x]).toArray) (t := 45) (fr := (0, 0)) (Blk.at_ rfl)) (arcRow_one _) (by simp only [maxLen]; omega) (by omega) (by simp <;> omega) ?_; intro v' w8 hown2 hg2 _; obtain ⟨Av, cv, rfl, hkcv, _⟩ := own_value hown2; have bO8 := (HO6.out.alloc _).grown hg2 (Ne.symm hneO); have of1' := bO8.frozen 1; have lO8 := bO8.lt; have o1' := bO8.cell 1; simp at o1')
      have hs8 := hg2.size
      simp at hs8
      have HBO8 := hide (bO8.set_ 1 (.slice Av (k + 1) cv))
      have hown3 : w8.ownsRow (O + 1) 45 5 (.slice Av (k + 1) cv) (k + 1) (arcRow ((a.arcs.take (k + 1)).map (chA 3))) := by rw [HTK.out, List.map_append, arcRow_append]; exact hown2
      have HOWN8 := hide (ownsRow_setCell_below hown3 (a := ⟨O, 1, none⟩) (Nat.lt_succ_self O) (.slice Av (k + 1) cv))
      have HG2 := hide hg2
      clear hown2 hown3 hg2 bO8
      go_roundw
      case rel => exact ⟨k + 1, Av, cv, by omega, by go_num, hide (by simpa using HBO8.out), HOWN8, hide (((HB6.out.alloc (by omega) _).grown HG2.out (by simp <;> omega) (fun q hq => HLOW.out q hq)).setCell (by exact Nat.le_refl _) _), by simp [World.setCell]; omega⟩
      case measure => simp [intOf]; omega
    · obtain rfl : n = k := by omega
      have hend : a.arcs.take n = a.arcs := List.take_of_length_le (by rw [HN.out]; exact Nat.le_refl _)
      rw [hend] at HOWN
      have HLQ := hide (show (a.arcs.map (chA 3)).length = n by rw [List.length_map, HN.out])
      have HRD := hide (Rd.of_own HOWN.out (fun i j hi hj => arcRow_at _ i j (by rw [HLQ.out]; exact hi) hj))
      have HSR := hide (fun W (hW : W = wr) => sorted_any A5 n c5 true (a.arcs.map (chA 3)) W wr.heap.size (by rw [hW]; exact Nat.le_refl _) HLQ.out (by omega) (by rw [hW]; exact HRD.out))
      have o1 := HO.out.cell 1
      simp at o1
      have lO := HO.out.lt
      clear hend HOWN HRD
      go_wp2_with fail
      refine (HSR.out _ rfl).mono ?_
      rintro e w9 ⟨A9, c9, rfl, hown9, hb9⟩
      rw [sameA_red] at hown9 ⊢
      obtain ⟨RL, hRL⟩ : ∃ z, z = compact likeA (srtA (a.arcs.map (chA 3))) := ⟨_, rfl⟩
      rw [← hRL] at hown9 ⊢
      obtain ⟨n9, hn9⟩ : ∃ z, z = RL.length := ⟨_, rfl⟩
      rw [← hn9] at hown9 ⊢
      obtain ⟨A9', c9', hv9, hnc9, hcm9⟩ := own_value hown9
      obtain ⟨rfl, rfl⟩ : A9 = A9' ∧ c9 = c9' := by injection hv9 with e1 e2 e3; exact ⟨e1, e3⟩
      clear hv9
      have hl9 : n9 ≤ n := by rw [hn9, hRL, ← HLQ.out]; exact Nat.le_trans (compact_len likeA _) (Nat.le_of_eq (srtA_perm _).length_eq)
      have HRL := hide hRL
      have HN9 := hide hn9
      have bO9 := HO.out.below hb9 lO
      have hb9' : Below O W2 w9 := HBK.out.trans (hb9.mono (by omega))
      have bR := HR2.out.below hb9' (by omega)
      have HBE := hide (HBW.out.trans (hb9'.mono (by omega)))
      have HOW9 := hide (ownsRow_setCell_below (ownsRow_setCell_below (ownsRow_setCell_below (ownsRow_setCell_below hown9 (a := ⟨O, 1, none⟩) (by dsimp only; omega) (.slice A9 n9 c9)) (a := ⟨w.heap.size + 1, 0, none⟩) (by dsimp only; omega) (.int .i64 a.n)) (a := ⟨w.heap.size + 1, 1, none⟩) (by dsimp only; omega) (.slice A9 n9 c9)) (a := ⟨w.heap.size + 1, 2, none⟩) (by dsimp only; omega) (.slice AF nf cf))
      have o0 := bO9.cell 0
      have o1 := bO9.cell 1
      have o2 := bO9.cell 2
      have of1 := bO9.frozen 1
      have lO9 := bO9.lt
      have q0 := bR.cell 0
      have q1 := bR.cell 1
      have q2 := bR.cell 2
      have qf := bR.frozen 0
      have qf1 := bR.frozen 1
      have qf2 := bR.frozen 2
      have lR := bR.lt
      simp at o0 o1 o2 q0 q1 q2
      have hRO : w.heap.size + 1 ≠ O := by omega
      have hOR : O ≠ w.heap.size + 1 := by omega
      have HBE' := hide ((((HBE.out.setCell (p := ⟨O, 1, none⟩) (by dsimp only; omega) (.slice A9 n9 c9)).setCell (p := ⟨w.heap.size + 1, 0, none⟩) (by dsimp only; omega) (.int .i64 a.n)).setCell (p := ⟨w.heap.size + 1, 1, none⟩) (by dsimp only; omega) (.slice A9 n9 c9)).setCell (p := ⟨w.heap.size + 1, 2, none⟩) (by dsimp only; omega) (.slice AF nf cf))
      clear hb9 hb9' bO9 bR hown9 hRL hn9 HBE HSR HO HBK lO
      go_wp21
      refine bodyPost_ret (v := .agg #[.int .i64 a.n, .slice A9 n9 c9, .slice AF nf cf]) (by simp [results, Try.results17, go_sem, lR, q0, q1, q2, qf, qf1, qf2, hRO, hOR]) rfl ⟨_, rfl, ?_, HBE'.out⟩
      have e9 : chM 3 a = ⟨a.n, RL, a.fins⟩ := by unfold chM; rw [HRL.out]
      rw [e9]
      refine ⟨A9, AF, n9, c9, nf, cf, rfl, hide HN9.out.symm, HF, hnc9, hnfc, by unfold big; omega, hnfb, ?_, ?_⟩
      · exact Rd.of_own HOW9.out (fun i j hi hj => arcRow_at _ i j (by show i < RL.length; rw [← HN9.out]; exact hi) hj)
      · exact (HRF.out.below HBE'.out hB).mono (by have := HBE'.out.size; omega)
end Go.Proofs.Ytmgpcnkmmgkjgaa

namespace Go.Proofs.Ytmgpcnkmmgkjgaa
open Go.RowKit Gm Go.Sort Go.Shelf
set_option linter.unusedSimpArgs false
set_option linter.unusedVariables false
set_option maxRecDepth 100000 in
set_option maxHeartbeats 16000000 in
theorem copier1_any (va : Value) (a : Mach) (w : World) (B : Nat) (hB : B ≤ w.heap.size) (ha : MachAt w B va a) (hv : Valid a) :
    Calls Try.prog 30 #[va, .bool true] w fun e w' => ∃ v', e = .returned v' ∧ MachAt w' w'.heap.size v' (cpM (labsR a.arcs)) ∧ Below w.heap.size w w' := by
  have hlen := hv.len
  have HM := hide ha
  obtain ⟨A, AF, n, c, nf, cf, rfl, HN, HF, hnc, hnfc, hnb, hnfb, hA, hF⟩ := ha
  have HLAB := hide (fun W (h : MachAt W B (.agg #[.int .i64 a.n, .slice A n c, .slice AF nf cf]) a) (hB : B ≤ W.heap.size) => labels_any _ a W B hB h (show a.arcs.length ≤ 1000000 by omega))
  obtain ⟨ia, ha0, ha1, ha2, ha3⟩ := info_parts arc_info
  clear hA hF
  obtain ⟨LS, hLS⟩ : ∃ z, z = (labsR a.arcs) := ⟨_, rfl⟩
  rw [← hLS]
  have HLS := hide hLS
  go_enter Try.func30, Try.ntmps30
  go_upto_region 1 with fail
  go_wp2_with fail
  refine (HLAB.out _ (HM.out.below (show Below w.heap.size w _ by go_grown) hB) (by simp <;> omega)).mono ?_
  rintro e w1 ⟨A1, c1, rfl, hown1, hb1⟩
  have HBW1 := hide (Below.trans (show Below w.heap.size w _ by go_grown) (hb1.mono (by simp <;> omega)))
  have bX1 : Blk w1 w.heap.size 25 #[.int .i64 a.n, .slice A n c, .slice AF nf cf] := ((Blk.at_ rfl).alloc _).below hb1 (by simp <;> omega)
  have bR1 : Blk w1 (w.heap.size + 1) 25 #[.int .i64 0, .slice none 0 0, .slice none 0 0] := (Blk.at_ (by simp)).below hb1 (by simp)
  have HR := hide bR1
  have HB1 := HBW1
  obtain ⟨q, hq⟩ : ∃ z, z = (labsR a.arcs).length := ⟨_, rfl⟩
  rw [← hq] at hown1 ⊢
  rw [← hLS] at hown1 hq
  have HQ := hide hq.symm
  have HOWN1 := hide (own_monoI hown1 (show w.heap.size ≤ _ by simp <;> omega))
  have hzR : w.heap.size + 1 < w1.heap.size := bR1.lt
  have hq2 : q ≤ 2000 := by have := labsR_len a.arcs; rw [← hLS] at this; omega
  clear hown1 hq hLS hb1 bX1 bR1 HBW1 HLAB
  go_upto_region 4 with fail
  have HHW := hide (show w.heap.size ≤ w1.heap.size from HB1.out.size)
  go_upto_region 6 with fail
  generalize hW4 : World.alloc _ _ = W4
  obtain ⟨F9, hF9⟩ : ∃ z, z = w1.heap.size := ⟨_, rfl⟩
  have HF4 := hide (show Blk W4 F9 51 #[.int .i64 0, .int .i64 0] by rw [← hW4]; exact (Blk.at_ hF9).alloc _)
  have HO4 := hide (show Blk W4 (F9 + 1) 25 #[.int .i64 1, .slice none 0 0, .slice (some ⟨F9, 0, none⟩) 1 1] by rw [← hW4, hF9]; exact Blk.at_ (by simp))
  have HB4 := hide (show Below w.heap.size w W4 by rw [← hW4]; exact ((HB1.out.alloc HHW.out _).alloc (by have := HHW.out; simp; omega) _))
  have HR4 := hide (show Blk W4 (w.heap.size + 1) 25 #[.int .i64 0, .slice none 0 0, .slice none 0 0] by rw [← hW4]; exact (HR.out.alloc _).alloc _)
  have hRF : w.heap.size + 1 < F9 := by omega
  have hz4 : F9 + 2 ≤ W4.heap.size := by rw [← hW4, hF9]; simp
  have HRD := hide (show Rd W4 F9 1 A1 q (intCell LS) by rw [← hW4, hF9]; exact (Rd.of_own HOWN1.out (HQ.out ▸ intRow_at LS)).below (show Below w1.heap.size w1 _ by go_grown) (Nat.le_refl _))
  simp only [← hF9]
  clear hW4 hF9 HB1 HR HOWN1 hzR HHW
  go_loopw [21] (fun iv wr => ∃ (k : Nat) (A5 : Option Addr) (c5 : Nat), k ≤ q ∧ iv = .int .i64 k ∧ Hid (Blk wr (F9 + 1) 25 #[.int .i64 1, .slice A5 k c5, .slice (some ⟨F9, 0, none⟩) 1 1]) ∧ Hid (wr.ownsRow (F9 + 2) 45 5 (.slice A5 k c5) k (arcRow ((LS.take k).map fun l => ⟨0, 0, l, l, 0⟩))) ∧ Hid (Below (F9 + 1) W4 wr) ∧ F9 + 2 ≤ wr.heap.size) (fun iv _ => q - (intOf iv).toNat)
  case atStart => exact ⟨0, none, 0, by omega, rfl, HO4, hide (World.ownsRow_nil _ _ _ _), hide (Below.refl _ _), hz4⟩
  case round =>
    obtain ⟨k, A5, c5, hk, rfl, HO, HOWN, HBK, hz⟩ := hrel
    by_cases hkn : k < q
    · obtain ⟨bb, off, y, rfl, hbB, d0, HY⟩ := num_at (HRD.out.below HBK.out (by omega)) hkn
      have hkl : k < LS.length := by rw [HQ.out]; exact hkn
      have HTK := hide (show (LS.take (k + 1)).map (fun l => (⟨0, 0, l, l, 0⟩ : Arc)) = (LS.take k).map (fun l => ⟨0, 0, l, l, 0⟩) ++ [⟨0, 0, y, y, 0⟩] by rw [take_snoc hkl HY.out, List.map_append]; rfl)
      have lb : bb < wr.heap.size := by omega
      have o1 := HO.out.cell 1
      have of1 := HO.out.frozen 1
      have lO := HO.out.lt
      simp at o1
      have hneO : (Value.slice A5 k c5).ownBlock ≠ some (F9 + 1) := fun e => by have := (HOWN.out.lt _ e).1; omega
      have HLOW := hide (show ∀ q, (Value.slice A5 k c5).ownBlock = some q → F9 + 1 ≤ q from fun q hq => by have := (HOWN.out.lt q hq).1; omega)
      clear HY hkl
      go_wp2_with (at_builtin; refine wpList_append_own _ rfl (.tmp 26) (.tmp 30) 22 rfl (F9 + 2) 45 ia _ 5 40 Try.underlying22 ha0 ha1 ha2 ha3 rfl (by omega) (.slice A5 k c5) k _ rfl (HOWN.out.alloc _) ⟨wr.heap.size, 0, none⟩ 1 1 (arcRow [⟨0, 0, y, y, 0⟩]) rfl (by rfl) (World.news_of_block (cs := (arcRow [⟨0, 0, y, y, 0⟩]).toArray) (t := 45) (fr := (0, 0)) (Blk.at_ rfl)) (arcRow_one _) (by simp only [maxLen]; omega) (by omega) (by simp <;> omega) ?_; intro v' w8 hown2 hg2 _; obtain ⟨Av, cv, rfl, hkcv, _⟩ := own_value hown2; have bO8 := (HO.out.alloc _).grown hg2 (Ne.symm hneO); have of1' := bO8.frozen 1; have lO8 := bO8.lt; have o1' := bO8.cell 1; simp at o1')
      have hs8 := hg2.size
      simp at hs8
      have HBO8 := hide (bO8.set_ 1 (.slice Av (k + 1) cv))
      have hown3 : w8.ownsRow (F9 + 2) 45 5 (.slice Av (k + 1) cv) (k + 1) (arcRow ((LS.take (k + 1)).map fun l => ⟨0, 0, l, l, 0⟩)) := by rw [HTK.out, arcRow_append]; exact hown2
      have HOWN8 := hide (ownsRow_setCell_below hown3 (a := ⟨F9 + 1, 1, none⟩) (by dsimp only; omega) (.slice Av (k + 1) cv))
      have HG2 := hide hg2
      clear hown2 hown3 hg2 bO8
      go_roundw
      case rel => exact ⟨k + 1, Av, cv, by omega, by go_num, hide (by simpa using HBO8.out), HOWN8, hide (((HBK.out.alloc (by omega) _).grown HG2.out (by simp <;> omega) (fun q hq => HLOW.out q hq)).setCell (by exact Nat.le_refl _) _), by simp [World.setCell]; omega⟩
      case measure => simp [intOf]; omega
    · obtain rfl : q = k := by omega
      have hend : LS.take q = LS := List.take_of_length_le (by rw [HQ.out]; exact Nat.le_refl _)
      rw [hend] at HOWN
      have o0 := HO.out.cell 0
      have o1 := HO.out.cell 1
      have o2 := HO.out.cell 2
      have lO := HO.out.lt
      have bR := HR4.out.below HBK.out (by omega)
      have q0 := bR.cell 0
      have q1 := bR.cell 1
      have q2 := bR.cell 2
      have qf := bR.frozen 0
      have qf1 := bR.frozen 1
      have qf2 := bR.frozen 2
      have lR := bR.lt
      simp at o0 o1 o2 q0 q1 q2
      have HFF := hide (HF4.out.below HBK.out (by omega))
      have HBE := hide (HB4.out.trans (HBK.out.mono (by omega)))
      obtain ⟨A9, c9, hv9, hnc9, hcm9⟩ := own_value HOWN.out
      have hqc : q ≤ c5 := by injection hv9 with e1 e2 e3; omega
      clear hv9 hnc9 hcm9 hend bR
      have HOW9 := hide (ownsRow_setCell_below (ownsRow_setCell_below (ownsRow_setCell_below HOWN.out (a := ⟨w.heap.size + 1, 0, none⟩) (by dsimp only; omega) (.int .i64 1)) (a := ⟨w.heap.size + 1, 1, none⟩) (by dsimp only; omega) (.slice A5 q c5)) (a := ⟨w.heap.size + 1, 2, none⟩) (by dsimp only; omega) (.slice (some ⟨F9, 0, none⟩) 1 1))
      have HF9 := hide (((HFF.out.far (p := ⟨w.heap.size + 1, 0, none⟩) (by dsimp only; omega) (.int .i64 1)).far (p := ⟨w.heap.size + 1, 1, none⟩) (by dsimp only; omega) (.slice A5 q c5)).far (p := ⟨w.heap.size + 1, 2, none⟩) (by dsimp only; omega) (.slice (some ⟨F9, 0, none⟩) 1 1))
      have HBE' := hide (((HBE.out.setCell (p := ⟨w.heap.size + 1, 0, none⟩) (by dsimp only; omega) (.int .i64 1)).setCell (p := ⟨w.heap.size + 1, 1, none⟩) (by dsimp only; omega) (.slice A5 q c5)).setCell (p := ⟨w.heap.size + 1, 2, none⟩) (by dsimp only; omega) (.slice (some ⟨F9, 0, none⟩) 1 1))
      have hRO : w.heap.size + 1 ≠ F9 + 1 := by omega
      have hOR : F9 + 1 ≠ w.heap.size + 1 := by omega
      clear HOWN HBK HFF HBE HO
      go_wp21
      refine bodyPost_ret (v := .agg #[.int .i64 1, .slice A5 q c5, .slice (some ⟨F9, 0, none⟩) 1 1]) (by simp [results, Try.results30, go_sem, lR, q0, q1, q2, qf, qf1, qf2, hRO, hOR]) rfl ⟨_, rfl, ?_, HBE'.out⟩
      refine ⟨A5, some ⟨F9, 0, none⟩, q, c5, 1, 1, rfl, hide (by unfold cpM; dsimp only; rw [List.length_map]; exact HQ.out), hide rfl, hqc, Nat.le_refl _, by unfold big; omega, by unfold big; omega, ?_, ?_⟩
      · exact Rd.of_own HOW9.out (fun i j hi hj => arcRow_at _ i j (by rw [List.length_map, HQ.out]; exact hi) hj)
      · refine fun _ => ⟨F9, 0, rfl, HF9.out.lt, fun i j hi hj => ?_⟩
        obtain rfl : i = 0 := by omega
        rcases (by omega : j = 0 ∨ j = 1) with rfl | rfl
        · have := HF9.out.cell 0; simpa [finCell, cpM] using this
        · have := HF9.out.cell 1; simpa [finCell, cpM] using this
set_option maxRecDepth 100000 in
set_option maxHeartbeats 16000000 in
theorem copier0_any (va : Value) (a : Mach) (w : World) (B : Nat) (hB : B ≤ w.heap.size) (ha : MachAt w B va a) (hv : Valid a) :
    Calls Try.prog 30 #[va, .bool false] w fun e w' => ∃ v', e = .returned v' ∧ MachAt w' w'.heap.size v' (cpM (labsR (chM 1 a).arcs)) ∧ Below w.heap.size w w' := by
  have hlen := hv.len
  have HM := hide ha
  obtain ⟨A, AF, n, c, nf, cf, rfl, HN, HF, hnc, hnfc, hnb, hnfb, hA, hF⟩ := ha
  have HLAB := hide (fun W (h : MachAt W B (.agg #[.int .i64 a.n, .slice A n c, .slice AF nf cf]) a) (hB : B ≤ W.heap.size) => labels_any _ a W B hB h (show a.arcs.length ≤ 1000000 by omega))
  obtain ⟨ia, ha0, ha1, ha2, ha3⟩ := info_parts arc_info
  clear hA hF
  obtain ⟨LS, hLS⟩ : ∃ z, z = (labsR (chM 1 a).arcs) := ⟨_, rfl⟩
  rw [← hLS]
  have HLS := hide hLS
  go_enter Try.func30, Try.ntmps30
  go_upto_region 1 with fail
  go_wp2_with fail
  refine (HLAB.out _ (HM.out.below (show Below w.heap.size w _ by go_grown) hB) (by simp <;> omega)).mono ?_
  rintro e w1 ⟨A1, c1, rfl, hown1, hb1⟩
  have HBW1 := hide (Below.trans (show Below w.heap.size w _ by go_grown) (hb1.mono (by simp <;> omega)))
  have bX1 : Blk w1 w.heap.size 25 #[.int .i64 a.n, .slice A n c, .slice AF nf cf] := ((Blk.at_ rfl).alloc _).below hb1 (by simp <;> omega)
  have bR1 : Blk w1 (w.heap.size + 1) 25 #[.int .i64 0, .slice none 0 0, .slice none 0 0] := (Blk.at_ (by simp)).below hb1 (by simp)
  have HCH := hide (fun W (h : MachAt W B (.agg #[.int .i64 a.n, .slice A n c, .slice AF nf cf]) a) (hB : B ≤ W.heap.size) => rch1_any _ a W B hB h hv)
  have x0 := bX1.cell 0
  have x1 := bX1.cell 1
  have x2 := bX1.cell 2
  simp at x0 x1 x2
  have lX := bX1.lt
  clear hown1 hb1
  go_wp2_with fail
  refine (HCH.out _ (HM.out.below HBW1.out hB) (by have := HBW1.out.size; omega)).mono ?_
  rintro e w2 ⟨v2, rfl, hm2, hb2⟩
  have HBW2 := hide (HBW1.out.trans (hb2.mono (by have := HBW1.out.size; omega)))
  have bR2 := bR1.below hb2 bR1.lt
  have hch : (chM 1 a).arcs.length ≤ 2000 := (valid_ch 1 hv).len
  have HM2 := hide hm2
  clear x0 x1 x2 lX HCH HLAB hb2 hm2 bR1 bX1 HBW1
  go_wp2_with fail
  refine (labels_any _ _ _ _ (Nat.le_refl _) HM2.out (by omega)).mono ?_
  rintro e w3 ⟨A3, c3, rfl, hown3, hb3⟩
  have HR := hide (bR2.below hb3 bR2.lt)
  have HB1 := hide (HBW2.out.trans (hb3.mono HBW2.out.size))
  obtain ⟨q, hq⟩ : ∃ z, z = (labsR (chM 1 a).arcs).length := ⟨_, rfl⟩
  rw [← hq] at hown3 ⊢
  rw [← hLS] at hown3 hq
  have HQ := hide hq.symm
  have HOWN1 := hide (own_monoI hown3 HBW2.out.size)
  have hzR : w.heap.size + 1 < w3.heap.size := HR.out.lt
  have hq2 : q ≤ 2000 := by have := labsR_len (chM 1 a).arcs; rw [← hLS] at this; omega
  clear hown3 hq hLS hb3 bR2 HBW2 HM2
  go_upto_region 4 with fail
  have HHW := hide (show w.heap.size ≤ w3.heap.size from HB1.out.size)
  go_upto_region 6 with fail
  generalize hW4 : World.alloc _ _ = W4
  obtain ⟨F9, hF9⟩ : ∃ z, z = w3.heap.size := ⟨_, rfl⟩
  have HF4 := hide (show Blk W4 F9 51 #[.int .i64 0, .int .i64 0] by rw [← hW4]; exact (Blk.at_ hF9).alloc _)
  have HO4 := hide (show Blk W4 (F9 + 1) 25 #[.int .i64 1, .slice none 0 0, .slice (some ⟨F9, 0, none⟩) 1 1] by rw [← hW4, hF9]; exact Blk.at_ (by simp))
  have HB4 := hide (show Below w.heap.size w W4 by rw [← hW4]; exact ((HB1.out.alloc HHW.out _).alloc (by have := HHW.out; simp; omega) _))
  have HR4 := hide (show Blk W4 (w.heap.size + 1) 25 #[.int .i64 0, .slice none 0 0, .slice none 0 0] by rw [← hW4]; exact (HR.out.alloc _).alloc _)
  have hRF : w.heap.size + 1 < F9 := by omega
  have hz4 : F9 + 2 ≤ W4.heap.size := by rw [← hW4, hF9]; simp
  have HRD := hide (show Rd W4 F9 1 A3 q (intCell LS) by rw [← hW4, hF9]; exact (Rd.of_own HOWN1.out (HQ.out ▸ intRow_at LS)).below (show Below w3.heap.size w3 _ by go_grown) (Nat.le_refl _))
  simp only [← hF9]
  clear hW4 hF9 HB1 HR HOWN1 hzR HHW
  go_loopw [21] (fun iv wr => ∃ (k : Nat) (A5 : Option Addr) (c5 : Nat), k ≤ q ∧ iv = .int .i64 k ∧ Hid (Blk wr (F9 + 1) 25 #[.int .i64 1, .slice A5 k c5, .slice (some ⟨F9, 0, none⟩) 1 1]) ∧ Hid (wr.ownsRow (F9 + 2) 45 5 (.slice A5 k c5) k (arcRow ((LS.take k).map fun l => ⟨0, 0, l, l, 0⟩))) ∧ Hid (Below (F9 + 1) W4 wr) ∧ F9 + 2 ≤ wr.heap.size) (fun iv _ => q - (intOf iv).toNat)
  case atStart => exact ⟨0, none, 0, by omega, rfl, HO4, hide (World.ownsRow_nil _ _ _ _), hide (Below.refl _ _), hz4⟩
  case round =>
    obtain ⟨k, A5, c5, hk, rfl, HO, HOWN, HBK, hz⟩ := hrel
    by_cases hkn : k < q
    · obtain ⟨bb, off, y, rfl, hbB, d0, HY⟩ := num_at (HRD.out.below HBK.out (by omega)) hkn
      have hkl : k < LS.length := by rw [HQ.out]; exact hkn
      have HTK := hide (show (LS.take (k + 1)).map (fun l => (⟨0, 0, l, l, 0⟩ : Arc)) = (LS.take k).map (fun l => ⟨0, 0, l, l, 0⟩) ++ [⟨0, 0, y, y, 0⟩] by rw [take_snoc hkl HY.out, List.map_append]; rfl)
      have lb : bb < wr.heap.size := by omega
      have o1 := HO.out.cell 1
      have of1 := HO.out.frozen 1
      have lO := HO.out.lt
      simp at o1
      have hneO : (Value.slice A5 k c5).ownBlock ≠ some (F9 + 1) := fun e => by have := (HOWN.out.lt _ e).1; omega
      have HLOW := hide (show ∀ q, (Value.slice A5 k c5).ownBlock = some q → F9 + 1 ≤ q from fun q hq => by have := (HOWN.out.lt q hq).1; omega)
      clear HY hkl
      go_wp2_with (at_builtin; refine wpList_append_own _ rfl (.tmp 26) (.tmp 30) 22 rfl (F9 + 2) 45 ia _ 5 40 Try.underlying22 ha0 ha1 ha2 ha3 rfl (by omega) (.slice A5 k c5) k _ rfl (HOWN.out.alloc _) ⟨wr.heap.size, 0, none⟩ 1 1 (arcRow [⟨0, 0, y, y, 0⟩]) rfl (by rfl) (World.news_of_block (cs := (arcRow [⟨0, 0, y, y, 0⟩]).toArray) (t := 45) (fr := (0, 0)) (Blk.at_ rfl)) (arcRow_one _) (by simp only [maxLen]; omega) (by omega) (by simp <;> omega) ?_; intro v' w8 hown2 hg2 _; obtain ⟨Av, cv, rfl, hkcv, _⟩ := own_value hown2; have bO8 := (HO.out.alloc _).grown hg2 (Ne.symm hneO); have of1' := bO8.frozen 1; have lO8 := bO8.lt; have o1' := bO8.cell 1; simp at o1')
      have hs8 := hg2.size
      simp at hs8
      have HBO8 := hide (bO8.set_ 1 (.slice Av (k + 1) cv))
      have hown3 : w8.ownsRow (F9 + 2) 45 5 (.slice Av (k + 1) cv) (k + 1) (arcRow ((LS.take (k + 1)).map fun l => ⟨0, 0, l, l, 0⟩)) := by rw [HTK.out, arcRow_append]; exact hown2
      have HOWN8 := hide (ownsRow_setCell_below hown3 (a := ⟨F9 + 1, 1, none⟩) (by dsimp only; omega) (.slice Av (k + 1) cv))
      have HG2 := hide hg2
      clear hown2 hown3 hg2 bO8
      go_roundw
      case rel => exact ⟨k + 1, Av, cv, by omega, by go_num, hide (by simpa using HBO8.out), HOWN8, hide (((HBK.out.alloc (by omega) _).grown HG2.out (by simp <;> omega) (fun q hq => HLOW.out q hq)).setCell (by exact Nat.le_refl _) _), by simp [World.setCell]; omega⟩
      case measure => simp [intOf]; omega
    · obtain rfl : q = k := by omega
      have hend : LS.take q = LS := List.take_of_length_le (by rw [HQ.out]; exact Nat.le_refl _)
      rw [hend] at HOWN
      have o0 := HO.out.cell 0
      have o1 := HO.out.cell 1
      have o2 := HO.out.cell 2
      have lO := HO.out.lt
      have bR := HR4.out.below HBK.out (by omega)
      have q0 := bR.cell 0
      have q1 := bR.cell 1
      have q2 := bR.cell 2
      have qf := bR.frozen 0
      have qf1 := bR.frozen 1
      have qf2 := bR.frozen 2
      have lR := bR.lt
      simp at o0 o1 o2 q0 q1 q2
      have HFF := hide (HF4.out.below HBK.out (by omega))
      have HBE := hide (HB4.out.trans (HBK.out.mono (by omega)))
      obtain ⟨A9, c9, hv9, hnc9, hcm9⟩ := own_value HOWN.out
      have hqc : q ≤ c5 := by injection hv9 with e1 e2 e3; omega
      clear hv9 hnc9 hcm9 hend bR
      have HOW9 := hide (ownsRow_setCell_below (ownsRow_setCell_below (ownsRow_setCell_below HOWN.out (a := ⟨w.heap.size + 1, 0, none⟩) (by dsimp only; omega) (.int .i64 1)) (a := ⟨w.heap.size + 1, 1, none⟩) (by dsimp only; omega) (.slice A5 q c5)) (a := ⟨w.heap.size + 1, 2, none⟩) (by dsimp only; omega) (.slice (some ⟨F9, 0, none⟩) 1 1))
      have HF9 := hide (((HFF.out.far (p := ⟨w.heap.size + 1, 0, none⟩) (by dsimp only; omega) (.int .i64 1)).far (p := ⟨w.heap.size + 1, 1, none⟩) (by dsimp only; omega) (.slice A5 q c5)).far (p := ⟨w.heap.size + 1, 2, none⟩) (by dsimp only; omega) (.slice (some ⟨F9, 0, none⟩) 1 1))
      have HBE' := hide (((HBE.out.setCell (p := ⟨w.heap.size + 1, 0, none⟩) (by dsimp only; omega) (.int .i64 1)).setCell (p := ⟨w.heap.size + 1, 1, none⟩) (by dsimp only; omega) (.slice A5 q c5)).setCell (p := ⟨w.heap.size + 1, 2, none⟩) (by dsimp only; omega) (.slice (some ⟨F9, 0, none⟩) 1 1))
      have hRO : w.heap.size + 1 ≠ F9 + 1 := by omega
      have hOR : F9 + 1 ≠ w.heap.size + 1 := by omega
      clear HOWN HBK HFF HBE HO
      go_wp21
      refine bodyPost_ret (v := .agg #[.int .i64 1, .slice A5 q c5, .slice (some ⟨F9, 0, none⟩) 1 1]) (by simp [results, Try.results30, go_sem, lR, q0, q1, q2, qf, qf1, qf2, hRO, hOR]) rfl ⟨_, rfl, ?_, HBE'.out⟩
      refine ⟨A5, some ⟨F9, 0, none⟩, q, c5, 1, 1, rfl, hide (by unfold cpM; dsimp only; rw [List.length_map]; exact HQ.out), hide rfl, hqc, Nat.le_refl _, by unfold big; omega, by unfold big; omega, ?_, ?_⟩
      · exact Rd.of_own HOW9.out (fun i j hi hj => arcRow_at _ i j (by rw [List.length_map, HQ.out]; exact hi) hj)
      · refine fun _ => ⟨F9, 0, rfl, HF9.out.lt, fun i j hi hj => ?_⟩
        obtain rfl : i = 0 := by omega
        rcases (by omega : j = 0 ∨ j = 1) with rfl | rfl
        · have := HF9.out.cell 0; simpa [finCell, cpM] using this
        · have := HF9.out.cell 1; simpa [finCell, cpM] using this
end Go.Proofs.Ytmgpcnkmmgkjgaa
