/- slices.Clone at []int, and machine.reach: which states are reached. -/
import Derived.Test.YtmgpcnkmmgkjgaaCmp
import Derived.Test.YtmgpcnkmmgkjgaaOwn
import Derived.Test.YtmgpcnkmmgkjgaaPlG
import Derived.Deep.RegionHeld3
import Derived.Deep.LoopGhost
namespace Gm
open Go Go.RowKit
theorem adjRow_push {back : Bool} {l : List Arc} {a : Arc} {key : Nat} (hkey : akey back a = (key : Int)) :
    (fun j => if j = key then intRow (adj back l key) ++ [.int .i64 (aval back a)] else intRow (adj back l j)) = fun j => intRow (adj back (l ++ [a]) j) := by
  funext j
  rw [adj_snoc]
  by_cases h : j = key
  · subst h; rw [if_pos rfl, if_pos hkey, intRow_append]; rfl
  · rw [if_neg h, if_neg (by rw [hkey]; omega), List.append_nil]
theorem adjLen_push {back : Bool} {l : List Arc} {a : Arc} {key : Nat} (hkey : akey back a = (key : Int)) :
    (fun j => if j = key then (adj back l key).length + 1 else (adj back l j).length) = fun j => (adj back (l ++ [a]) j).length := by
  funext j
  rw [adj_snoc]
  by_cases h : j = key
  · subst h; rw [if_pos rfl, if_pos hkey]; simp
  · rw [if_neg h, if_neg (by rw [hkey]; omega), List.append_nil]
theorem take_push {l : List Arc} {k : Nat} {a : Arc} (hk : k < l.length) (ha : l.getD k dA = a) : l.take (k + 1) = l.take k ++ [a] := by
  have e : l.getD k dA = l[k] := by simp [hk]
  rw [List.take_succ_eq_append_getElem hk, ← e, ha]
theorem getD_mem {l : List Arc} {k : Nat} {a : Arc} (hk : k < l.length) (ha : l.getD k dA = a) : a ∈ l := by
  have e : l.getD k dA = l[k] := by simp [hk]
  rw [← ha, e]; exact List.getElem_mem hk
end Gm
namespace Go.Proofs.Ytmgpcnkmmgkjgaa
open Go.RowKit Gm
set_option linter.unusedSimpArgs false
theorem int_info : (Try.prog.info? 3).map (fun i => (i.zero, i.size, i.bytes)) = some (some (.int .i64 0), 1, 8) := by kernel_rfl
theorem ints_info : (Try.prog.info? 36).map (fun i => (i.zero, i.size, i.bytes)) = some (some (.slice none 0 0), 1, 24) := by kernel_rfl
theorem bool_info : (Try.prog.info? 4).map (fun i => (i.zero, i.size, i.bytes)) = some (some (.bool false), 1, 1) := by kernel_rfl
end Go.Proofs.Ytmgpcnkmmgkjgaa
