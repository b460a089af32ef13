/- Keys of states as strings of bytes: they part the states as the keys do. Plain law. No program in sight. -/
import Derived.Test.YtopakcbhodnipaaDqZ
import Derived.Test.YtopakcbhodnipaaMpL
import Derived.Lib.UnsafeStr
import Derived.WideLaws
namespace Gm
set_option linter.unusedSimpArgs false
set_option linter.unusedVariables false
theorem idx_inst {γ : Type} (i1 i2 : BEq γ) [l1 : @LawfulBEq γ i1] [l2 : @LawfulBEq γ i2] (a : γ) (l : List γ) : @List.idxOf γ i1 a l = @List.idxOf γ i2 a l := by
  have e : i1 = i2 := by
    have h1 : ∀ x y, @BEq.beq γ i1 x y = true ↔ x = y := fun x y => @beq_iff_eq γ i1 l1 x y
    have h2 : ∀ x y, @BEq.beq γ i2 x y = true ↔ x = y := fun x y => @beq_iff_eq γ i2 l2 x y
    cases i1 with
    | mk f =>
      cases i2 with
      | mk g =>
        congr 1
        funext x y
        exact Bool.eq_iff_iff.2 ((h1 x y).trans (h2 x y).symm)
  subst e
  rfl
section
variable {γ δ : Type} [DecidableEq γ] [DecidableEq δ]
theorem numD_like {K : Nat → γ} {K' : Nat → δ} {n : Nat} (h : ∀ s t, s < n → t < n → (K s = K t ↔ K' s = K' t)) : (numD K n).length = (numD K' n).length ∧ ∀ s, s < n → (numD K n).idxOf (K s) = (numD K' n).idxOf (K' s) := by
  have hR : BiU fun (a : γ) (b : δ) => ∃ s, s < n ∧ K s = a ∧ K' s = b := by
    rintro a b a' b' ⟨s, hs, rfl, rfl⟩ ⟨t, ht, rfl, rfl⟩
    exact h s t hs ht
  have hF : ∀ m, m ≤ n → F2 (fun (a : γ) (b : δ) => ∃ s, s < n ∧ K s = a ∧ K' s = b) (numD K m) (numD K' m) := by
    intro m
    induction m with
    | zero => intro _; exact .nil
    | succ m ih => intro hm; exact (F2.add hR (ih (by omega)) ⟨m, by omega, rfl, rfl⟩).1
  refine ⟨(hF n (Nat.le_refl _)).len, fun s hs => ((hF n (Nat.le_refl _)).idx fun a b _ r => hR a b (K s) (K' s) r ⟨s, hs, rfl, rfl⟩).2⟩
theorem numD_congr {K K' : Nat → γ} {n : Nat} (h : ∀ s, s < n → K s = K' s) : numD K n = numD K' n := by
  induction n with
  | zero => rfl
  | succ n ih => unfold numD; rw [ih fun s hs => h s (by omega), h n (by omega)]
/-- The entries of a map that numbers the members of a list. -/
def numE : List γ → Nat → List (γ × Go.Value)
  | [], _ => []
  | a :: l, i => (a, .int .i64 (i : Nat)) :: numE l (i + 1)
theorem lk_numE (a : γ) : ∀ (l : List γ) (i : Nat), lk (numE l i) a = if a ∈ l then some (.int .i64 ((i + l.idxOf a : Nat) : Int)) else none
  | [], i => by simp [numE]
  | b :: l, i => by
    unfold numE
    rw [lk_cons, lk_numE a l (i + 1)]
    by_cases h : b = a
    · subst h; simp
    · rw [if_neg h, List.idxOf_cons, show (b == a) = false by simpa using h]
      by_cases g : a ∈ l
      · rw [if_pos g, if_pos (List.mem_cons_of_mem _ g)]
        congr 3
        show i + 1 + _ = i + (_ + 1)
        omega
      · rw [if_neg g, if_neg (by rw [List.mem_cons]; rintro (e | e); exact h e.symm; exact g e)]
omit [DecidableEq γ] in
theorem numE_append : ∀ (l k : List γ) (i : Nat), numE (l ++ k) i = numE l i ++ numE k (i + l.length)
  | [], k, i => by simp [numE]
  | a :: l, k, i => by
    rw [List.cons_append]
    show _ :: numE (l ++ k) (i + 1) = _ :: (numE l (i + 1) ++ _)
    rw [numE_append l k (i + 1), List.length_cons, show i + 1 + l.length = i + (l.length + 1) by omega]
omit [DecidableEq γ] in
theorem numE_length : ∀ (l : List γ) (i : Nat), (numE l i).length = l.length
  | [], _ => rfl
  | a :: l, i => by unfold numE; rw [List.length_cons, List.length_cons, numE_length l (i + 1)]
theorem numE_up {a : γ} {l : List γ} (h : a ∉ l) : upL (numE l 0) a (.int .i64 (l.length : Nat)) = numE (l ++ [a]) 0 := by
  unfold upL
  rw [lk_numE, if_neg h, if_neg (by simp), numE_append]
  simp [numE]
theorem addL_new {a : γ} {l : List γ} (h : a ∉ l) : addL l a = l ++ [a] := by unfold addL; rw [if_neg h]
theorem addL_old {a : γ} {l : List γ} (h : a ∈ l) : addL l a = l := by unfold addL; rw [if_pos h]
end
/-- Three bytes of a number. -/
def b3 (x : Int) : List Int := [x / 65536 % 256, x / 256 % 256, x % 256]
theorem b3_inj {x y : Int} (hx : -1 ≤ x ∧ x < 1000000) (hy : -1 ≤ y ∧ y < 1000000) (h : b3 x = b3 y) : x = y := by
  unfold b3 at h
  simp only [List.cons.injEq, and_true] at h
  omega
theorem b3_rng (x : Int) : ∀ b ∈ b3 x, 0 ≤ b ∧ b < 256 := by
  intro b hb
  unfold b3 at hb
  simp only [List.mem_cons, List.not_mem_nil, or_false] at hb
  omega
def toB (l : List Int) : List UInt8 := l.map fun x => UInt8.ofNat x.toNat
theorem toB_inj : ∀ {l k : List Int}, (∀ x ∈ l, 0 ≤ x ∧ x < 256) → (∀ x ∈ k, 0 ≤ x ∧ x < 256) → toB l = toB k → l = k
  | [], [], _, _, _ => rfl
  | [], y :: k, _, _, h => by cases h
  | x :: l, [], _, _, h => by cases h
  | x :: l, y :: k, hl, hk, h => by
    injection h with h1 h2
    have e := congrArg UInt8.toNat h1
    have gx := hl x List.mem_cons_self
    have gy := hk y List.mem_cons_self
    rw [UInt8.toNat_ofNat', UInt8.toNat_ofNat'] at e
    have : x = y := by omega
    subst this
    rw [toB_inj (fun z hz => hl z (List.mem_cons_of_mem _ hz)) (fun z hz => hk z (List.mem_cons_of_mem _ hz)) h2]
theorem toB_append (l k : List Int) : toB (l ++ k) = toB l ++ toB k := by unfold toB; rw [List.map_append]
section
variable (row : Nat → List Int) (fin : Nat → Bool) (c : Nat → Nat)
/-- The class of the state behind an arc, or -1. -/
def clT (t : Int) : Int := if 0 ≤ t then ((c t.toNat : Nat) : Int) else -1
def rowBy (l : List Int) : List Int := l.flatMap fun t => b3 (clT c t)
def keyBy (s : Nat) : List Int := b3 (c s) ++ [if fin s then 1 else 0] ++ rowBy c (row s)
theorem rowBy_snoc (l : List Int) (t : Int) : rowBy c (l ++ [t]) = rowBy c l ++ b3 (clT c t) := by unfold rowBy; rw [List.flatMap_append]; simp
theorem rowBy_len (l : List Int) : (rowBy c l).length = 3 * l.length := by
  unfold rowBy
  induction l with
  | nil => rfl
  | cons t l ih => rw [List.flatMap_cons, List.length_append, ih, List.length_cons]; simp [b3]; omega
theorem keyBy_rng (s : Nat) : ∀ b ∈ keyBy row fin c s, 0 ≤ b ∧ b < 256 := by
  intro b hb
  unfold keyBy rowBy at hb
  rcases List.mem_append.1 hb with hb | hb
  · rcases List.mem_append.1 hb with hb | hb
    · exact b3_rng _ b hb
    · rw [List.mem_singleton.1 hb]; split <;> omega
  · obtain ⟨t, _, ht⟩ := List.mem_flatMap.1 hb
    exact b3_rng _ b ht
variable {row fin c}
theorem rowBy_inj : ∀ {l k : List Int}, (∀ t ∈ l, clT c t < 1000000) → (∀ t ∈ k, clT c t < 1000000) → rowBy c l = rowBy c k → l.map (clT c) = k.map (clT c)
  | [], [], _, _, _ => rfl
  | [], y :: k, _, _, h => by
    have := congrArg List.length h
    rw [rowBy_len, rowBy_len] at this
    simp at this
  | x :: l, [], _, _, h => by
    have := congrArg List.length h
    rw [rowBy_len, rowBy_len] at this
    simp at this
  | x :: l, y :: k, hl, hk, h => by
    have e : b3 (clT c x) ++ rowBy c l = b3 (clT c y) ++ rowBy c k := h
    obtain ⟨h1, h2⟩ := List.append_inj e (by simp [b3])
    have g : ∀ t, -1 ≤ clT c t := fun t => by unfold clT; split <;> omega
    have := b3_inj ⟨g x, hl x List.mem_cons_self⟩ ⟨g y, hk y List.mem_cons_self⟩ h1
    rw [List.map_cons, List.map_cons, this, rowBy_inj (fun z hz => hl z (List.mem_cons_of_mem _ hz)) (fun z hz => hk z (List.mem_cons_of_mem _ hz)) h2]
theorem keyBy_iff {n : Nat} (hc : ∀ s, s < n → c s < 1000000) (hr : ∀ s, s < n → ∀ t ∈ row s, t < (n : Int)) {s t : Nat} (hs : s < n) (ht : t < n) : keyK row fin c s = keyK row fin c t ↔ toB (keyBy row fin c s) = toB (keyBy row fin c t) := by
  have hk : ∀ s, keyK row fin c s = (c s, fin s, (row s).map (clT c)) := fun s => rfl
  have hcl : ∀ s, s < n → ∀ t ∈ row s, clT c t < 1000000 := fun s hs t ht => by
    unfold clT
    split
    · have := hr s hs t ht
      have := hc t.toNat (by omega)
      omega
    · omega
  constructor
  · intro h
    rw [hk, hk] at h
    injection h with h1 h2
    injection h2 with h2 h3
    have e : ∀ l k : List Int, l.map (clT c) = k.map (clT c) → rowBy c l = rowBy c k := fun l k h => by
      have g : ∀ l : List Int, rowBy c l = (l.map (clT c)).flatMap b3 := fun l => by unfold rowBy; rw [List.flatMap_map]
      rw [g, g, h]
    unfold keyBy
    rw [h1, h2, e _ _ h3]
  · intro h
    have h := toB_inj (keyBy_rng row fin c s) (keyBy_rng row fin c t) h
    unfold keyBy at h
    obtain ⟨h1, h2⟩ := List.append_inj h (by simp [b3])
    obtain ⟨h3, h4⟩ := List.append_inj h1 (by simp [b3])
    have e1 := b3_inj ⟨by omega, by have := hc s hs; omega⟩ ⟨by omega, by have := hc t ht; omega⟩ h3
    have e2 : fin s = fin t := by
      simp only [List.cons.injEq, and_true] at h4
      cases h5 : fin s <;> cases h6 : fin t <;> simp_all
    have e3 := rowBy_inj (hcl s hs) (hcl t ht) h2
    rw [hk, hk, show c s = c t by omega, e2, e3]
/-- The keys as the program writes them. -/
def keyU (row : Nat → List Int) (fin : Nat → Bool) (c : Nat → Nat) (s : Nat) : List UInt8 := toB (keyBy row fin c s)
theorem keyU_num {n : Nat} (hc : ∀ s, s < n → c s < 1000000) (hr : ∀ s, s < n → ∀ t ∈ row s, t < (n : Int)) : cntC row fin n c = (numD (keyU row fin c) n).length ∧ ∀ s, s < n → renK row fin n c s = (numD (keyU row fin c) n).idxOf (keyU row fin c s) := by
  have h := numD_like (K := keyK row fin c) (K' := keyU row fin c) (n := n) fun s t hs ht => keyBy_iff hc hr hs ht
  refine ⟨h.1, fun s hs => ?_⟩
  have h2 := h.2 s hs
  unfold renK
  refine Eq.trans ?_ (h2.trans ?_)
  · exact idx_inst _ _ _ _
  · exact idx_inst _ _ _ _
/-- The number of a state's key does not change later. -/
theorem numD_now (K : Nat → List UInt8) {s n : Nat} (hs : s < n) : (numD K (s + 1)).idxOf (K s) = (numD K n).idxOf (K s) := by
  have h : K s ∈ numD K (s + 1) := mem_numD.2 ⟨s, by omega, rfl⟩
  have := numD_idx h (n - (s + 1))
  rw [show s + 1 + (n - (s + 1)) = n by omega] at this
  refine Eq.trans ?_ (this.symm.trans ?_)
  · exact idx_inst _ _ _ _
  · exact idx_inst _ _ _ _
end
/-- The number of a state's key. -/
def posU (K : Nat → List UInt8) (n s : Nat) : Nat := (numD K n).idxOf (K s)
theorem look_at {K : Nat → List UInt8} {s m n : Nat} (hs : s < m) (hm : m ≤ n) : lk (numE (numD K m) 0) (K s) = some (.int .i64 ((posU K n s : Nat) : Int)) := by
  have hmem : K s ∈ numD K m := mem_numD.2 ⟨s, hs, rfl⟩
  rw [lk_numE, if_pos hmem]
  have h := numD_idx hmem (n - m)
  rw [show m + (n - m) = n by omega] at h
  unfold posU
  rw [Nat.zero_add, ← h]
  exact congrArg (fun z : Nat => some (Go.Value.int .i64 ((z : Nat) : Int))) (idx_inst _ _ _ _)
theorem look_no {K : Nat → List UInt8} {s : Nat} (h : K s ∉ numD K s) : lk (numE (numD K s) 0) (K s) = none := by rw [lk_numE, if_neg h]
theorem num_new {K : Nat → List UInt8} {s : Nat} (h : K s ∉ numD K s) : upL (numE (numD K s) 0) (K s) (.int .i64 (((numD K s).length : Nat) : Int)) = numE (numD K (s + 1)) 0 := by
  rw [numE_up h]
  show _ = numE (addL (numD K s) (K s)) 0
  rw [addL_new h]
theorem num_old {K : Nat → List UInt8} {s : Nat} (h : K s ∈ numD K s) : numD K (s + 1) = numD K s := addL_old h
theorem old_at {K : Nat → List UInt8} {s n : Nat} (h : K s ∈ numD K s) (hs : s < n) : lk (numE (numD K s) 0) (K s) = some (.int .i64 ((posU K n s : Nat) : Int)) := by
  have := look_at (K := K) (s := s) (m := s + 1) (n := n) (by omega) (by omega)
  rw [num_old h] at this
  exact this
/-- Bytes as cells. -/
def byRow (l : List Int) : List Go.Value := l.map (.int .u8)
theorem byRow_append (l k : List Int) : byRow (l ++ k) = byRow l ++ byRow k := by unfold byRow; rw [List.map_append]
theorem byRow_one (l : List Int) : ∀ u ∈ byRow l, u.oneCell' = true := by
  intro u hu
  obtain ⟨x, _, rfl⟩ := List.mem_map.1 hu
  rfl
theorem byRow_cells : ∀ {l : List Int}, (∀ x ∈ l, 0 ≤ x ∧ x < 256) → byRow l = Go.Lib.byteCells (toB l)
  | [], _ => rfl
  | x :: l, h => by
    have gx := h x List.mem_cons_self
    have ih := byRow_cells (l := l) fun y hy => h y (List.mem_cons_of_mem _ hy)
    show Go.Value.int .u8 x :: byRow l = Go.Value.int .u8 ((UInt8.ofNat x.toNat).toNat : Int) :: Go.Lib.byteCells (toB l)
    rw [ih, UInt8.toNat_ofNat']
    congr 2
    omega
theorem keyBy_len (row : Nat → List Int) (fin : Nat → Bool) (c : Nat → Nat) (s : Nat) : (keyBy row fin c s).length = 4 + 3 * (row s).length := by
  unfold keyBy
  rw [List.length_append, List.length_append, rowBy_len]
  simp [b3]
def kvS (l : List UInt8) : Go.Value := .string ⟨l.toArray⟩
def okS (l : List UInt8) : Prop := l.length ≤ 1000000
theorem kvS_inj (a b : List UInt8) (h : kvS a = kvS b) : a = b := by
  unfold kvS at h
  injection h with h
  injection h with h
  injection h
section
open Go
variable {α : Type} {P : Program} {w : World} {kv : α → Value} {ok : α → Prop} {b : Nat} {L : List (α × Value)}
theorem MapIs.len (h : MapIs w kv ok b L) : ∃ es clock, w.heap[b]? = some (.map es clock) ∧ es.size = L.length := by
  obtain ⟨es, clock, hb, _, hE, _⟩ := h
  exact ⟨es, clock, hb, by have := congrArg List.length hE; simpa using this⟩
theorem MapIs.run_len (h : MapIs w kv ok b L) {t k e : TypeId} (ht : P.underlying t = some (.map k e)) {n : Nat} (hn : L.length = n) (ty : TypeId) : (Builtin.len_ #[t] ty #[.map (some b)]).run P w = .ok (.int .i64 ((n : Nat) : Int)) w := by
  obtain ⟨es, clock, hb, hsz⟩ := h.len
  have hrun := run_len_map (P := P) (w := w) t ty b es clock (by simp [Program.mapKeyOf, Program.mapElemOf, ht]) hb
  rw [hrun, hsz, hn]
  rfl
end
end Gm
