/- The arcs out of a state: plain. No program in sight. -/
import Derived.Test.YtmgpcnkmmgkjgaaOwn
namespace Gm
open Go Go.RowKit
/-- The arcs out of state s. -/
def outs (l : List Arc) (s : Nat) : List Arc := l.filter fun a => decide (a.f = (s : Int))
theorem outs_snoc (l : List Arc) (a : Arc) (s : Nat) : outs (l ++ [a]) s = if a.f = (s : Int) then outs l s ++ [a] else outs l s := by
  unfold outs
  rw [List.filter_append]
  by_cases h : a.f = (s : Int) <;> simp [h]
theorem outsRow_push {l : List Arc} {a : Arc} {key : Nat} (hkey : a.f = (key : Int)) :
    (fun j => if j = key then arcRow (outs l key) ++ [.int .i64 a.f, .int .i64 a.t, .int .i64 a.i, .int .i64 a.o, .int .i64 a.w] else arcRow (outs l j)) = fun j => arcRow (outs (l ++ [a]) j) := by
  funext j
  rw [outs_snoc]
  by_cases h : j = key
  · subst h; rw [if_pos rfl, if_pos hkey, arcRow_append]; rfl
  · rw [if_neg h, if_neg (by rw [hkey]; omega)]
theorem outsLen_push {l : List Arc} {a : Arc} {key : Nat} (hkey : a.f = (key : Int)) :
    (fun j => if j = key then (outs l key).length + 1 else (outs l j).length) = fun j => (outs (l ++ [a]) j).length := by
  funext j
  rw [outs_snoc]
  by_cases h : j = key
  · subst h; rw [if_pos rfl, if_pos hkey]; simp
  · rw [if_neg h, if_neg (by rw [hkey]; omega)]
theorem outs_le (l : List Arc) (s : Nat) : (outs l s).length ≤ l.length := List.length_filter_le _ _
end Gm
