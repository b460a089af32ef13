/- The texts Shelf of this proof. No conditions. -/
import Derived.Shelf.Small.Bits
import Derived.Shelf.Strconv.Itoa0
import Derived.Shelf.Sort.Plain
import Derived.Shelf.Slices.Reverse
import Derived.Ground.Names2Prog
import Derived.Shelf.Slices.Clone
import Derived.Shelf.Slices.CompactI
import Derived.Shelf.Slices.SearchI
import Derived.Shelf.Slices.Cells
import Derived.Shelf.Slices.In.SortNone
import Derived.Shelf.Slices.Empties
import Derived.Ground.SlgnProg
import Derived.Ground.SlsfProg
import Derived.Shelf.SlicesE.Clone
import Derived.Shelf.SlSortCmp.WholeK
import Derived.Test.YtopakcbhodnipaaProg
/- Text Shelf. -/
namespace Go.Proofs
open Go.Shelf
def Try.lays189_ren : Go.Shelf.Ren := ⟨fun | 189 => 54 | 125 => 86 | 257 => 85 | 128 => 108 | 129 => 109 | 294 => 100 | 295 => 101 | 296 => 102 | 297 => 103 | 298 => 104 | 299 => 105 | 216 => 93 | 300 => 106 | 301 => 107 | 328 => 121 | 329 => 122 | 330 => 123 | 331 => 124 | 332 => 125 | 215 => 120 | 343 => 130 | n => n, fun | 28 => 22 | 3 => 3 | 46 => 108 | 0 => 0 | 51 => 132 | 53 => 134 | 4 => 4 | 183 => 126 | 182 => 125 | 131 => 80 | 5 => 5 | 9 => 9 | 218 => 142 | 222 => 146 | 228 => 151 | 229 => 152 | n => n, fun | n => n⟩
theorem Try.lays189 : Go.Proofs.Lays.n189 Try.prog Try.lays189_ren := {
 mixed := by kernel_rfl
 f125 := Try.func86.trans (congrArg some (by kernel_rfl))
 f128 := Try.func108.trans (congrArg some (by kernel_rfl))
 f129 := Try.func109.trans (congrArg some (by kernel_rfl))
 f189 := Try.func54.trans (congrArg some (by kernel_rfl))
 f215 := Try.func120.trans (congrArg some (by kernel_rfl))
 f216 := Try.func93.trans (congrArg some (by kernel_rfl))
 f257 := Try.func85.trans (congrArg some (by kernel_rfl))
 f294 := Try.func100.trans (congrArg some (by kernel_rfl))
 f295 := Try.func101.trans (congrArg some (by kernel_rfl))
 f296 := Try.func102.trans (congrArg some (by kernel_rfl))
 f297 := Try.func103.trans (congrArg some (by kernel_rfl))
 f298 := Try.func104.trans (congrArg some (by kernel_rfl))
 f299 := Try.func105.trans (congrArg some (by kernel_rfl))
 f300 := Try.func106.trans (congrArg some (by kernel_rfl))
 f301 := Try.func107.trans (congrArg some (by kernel_rfl))
 f328 := Try.func121.trans (congrArg some (by kernel_rfl))
 f329 := Try.func122.trans (congrArg some (by kernel_rfl))
 f330 := Try.func123.trans (congrArg some (by kernel_rfl))
 f331 := Try.func124.trans (congrArg some (by kernel_rfl))
 f332 := Try.func125.trans (congrArg some (by kernel_rfl))
 f343 := Try.func130.trans (congrArg some (by kernel_rfl))
 t0 := Try.underlying0
 a0 := Try.isAgg0
 z0 := Try.sizeOf0
 v0 := Try.zeroValue0
 t3 := Try.underlying3
 a3 := Try.isAgg3
 z3 := Try.sizeOf3
 v3 := Try.zeroValue3
 t4 := Try.underlying4
 a4 := Try.isAgg4
 z4 := Try.sizeOf4
 v4 := Try.zeroValue4
 t5 := Try.underlying5
 a5 := Try.isAgg5
 z5 := Try.sizeOf5
 v5 := Try.zeroValue5
 t9 := Try.underlying9
 a9 := Try.isAgg9
 z9 := Try.sizeOf9
 v9 := Try.zeroValue9
 t28 := Try.underlying22
 a28 := Try.isAgg22
 z28 := Try.sizeOf22
 v28 := Try.zeroValue22
 t46 := Try.underlying108
 a46 := Try.isAgg108
 z46 := Try.sizeOf108
 v46 := Try.zeroValue108
 t51 := Try.underlying132
 a51 := Try.isAgg132
 z51 := Try.sizeOf132
 v51 := Try.zeroValue132
 t53 := Try.underlying134
 a53 := Try.isAgg134
 z53 := Try.sizeOf134
 v53 := Try.zeroValue134
 t131 := Try.underlying80
 a131 := Try.isAgg80
 z131 := Try.sizeOf80
 v131 := Try.zeroValue80
 t182 := Try.underlying125
 a182 := Try.isAgg125
 z182 := Try.sizeOf125
 v182 := Try.zeroValue125
 t183 := Try.underlying126
 a183 := Try.isAgg126
 z183 := Try.sizeOf126
 v183 := Try.zeroValue126
 t218 := Try.underlying142
 a218 := Try.isAgg142
 z218 := Try.sizeOf142
 v218 := Try.zeroValue142
 t222 := Try.underlying146
 a222 := Try.isAgg146
 z222 := Try.sizeOf146
 v222 := Try.zeroValue146
 t228 := Try.underlying151
 a228 := Try.isAgg151
 z228 := Try.sizeOf151
 v228 := Try.zeroValue151
 t229 := Try.underlying152
 a229 := Try.isAgg152
 z229 := Try.sizeOf152
 v229 := Try.zeroValue152 }
open Go.Sort Go.RowKit in
theorem Try.slices_Sort_int (blk off cap : Nat) (zs : List Int) (w : World) (hH : Holds (Value.int .i64) w blk off zs.toArray) (hblk : blk < w.heap.size) (hsz : zs.length < 4611686018427387904) :
 Calls Try.prog 54 #[.slice (some ⟨blk, off, none⟩) zs.length cap] w fun e w' =>
  e = .returned (.tuple #[]) ∧ ∃ n os, w' = grow (putRow (Value.int .i64) (Sort.ahead w n) blk off (zs.mergeSort fun x y => decide (x ≤ y)).toArray) os := Any.slices_Sort_int Try.lays189 blk off cap zs w hH hblk hsz
def Try.laysNm215_ren : Go.Shelf.Ren := ⟨fun | 15 => 68 | n => n, fun | 22 => 22 | 3 => 3 | 4 => 4 | n => n, fun | n => n⟩
theorem Try.laysNm215 : Go.Proofs.Lays2.n15 Try.prog Try.laysNm215_ren := {
 mixed := by kernel_rfl
 f15 := Try.func68.trans (congrArg some (by kernel_rfl))
 t3 := Try.underlying3
 a3 := Try.isAgg3
 z3 := Try.sizeOf3
 v3 := Try.zeroValue3
 t4 := Try.underlying4
 a4 := Try.isAgg4
 z4 := Try.sizeOf4
 v4 := Try.zeroValue4
 t22 := Try.underlying22
 a22 := Try.isAgg22
 z22 := Try.sizeOf22
 v22 := Try.zeroValue22
 i3 := by kernel_rfl }
open Go.RowKit Go.Lib in
theorem Try.slices_Clone_int (b off n c : Nat) (zs : List Int) (w : World) (hz : n ≤ zs.length) (hbig : n * 8 ≤ 140737488355328) (hc : ∀ j, j < zs.length → w.cell? ⟨b, off + j, none⟩ = some (.int .i64 (zs.getD j 0))) :
 Calls Try.prog 68 #[.slice (some ⟨b, off, none⟩) n c] w fun e w' => ∃ v', e = .returned v' ∧ w'.ownsRow w.heap.size 3 1 v' n ((zs.take n).map (Value.int .i64)) ∧ v' ≠ .slice none 0 0 ∧ Below w.heap.size w w' := Any.slices_Clone_int Try.laysNm215 b off n c zs w hz hbig hc
open Go.RowKit Go.Lib in
theorem Try.slices_Clone_int_nil (n c : Nat) (w : World) :
 Calls Try.prog 68 #[.slice none n c] w fun e w' => e = .returned (.slice none 0 0) ∧ w' = w := Any.slices_Clone_int_nil Try.laysNm215 n c w
open Go.RowKit Go.Lib in
theorem Try.slices_Clone_int_zero (a : Addr) (c : Nat) (w : World) :
 Calls Try.prog 68 #[.slice (some a) 0 c] w fun e w' => ∃ v', e = .returned v' ∧ w'.ownsRow w.heap.size 3 1 v' 0 [] ∧ v' ≠ .slice none 0 0 ∧ Below w.heap.size w w' := Any.slices_Clone_int_zero Try.laysNm215 a c w
def Try.laysNm220_ren : Go.Shelf.Ren := ⟨fun | 20 => 55 | n => n, fun | 22 => 22 | 3 => 3 | 4 => 4 | 0 => 0 | n => n, fun | n => n⟩
theorem Try.laysNm220 : Go.Proofs.Lays2.n20 Try.prog Try.laysNm220_ren := {
 mixed := by kernel_rfl
 f20 := Try.func55.trans (congrArg some (by kernel_rfl))
 t0 := Try.underlying0
 a0 := Try.isAgg0
 z0 := Try.sizeOf0
 v0 := Try.zeroValue0
 t3 := Try.underlying3
 a3 := Try.isAgg3
 z3 := Try.sizeOf3
 v3 := Try.zeroValue3
 t4 := Try.underlying4
 a4 := Try.isAgg4
 z4 := Try.sizeOf4
 v4 := Try.zeroValue4
 t22 := Try.underlying22
 a22 := Try.isAgg22
 z22 := Try.sizeOf22
 v22 := Try.zeroValue22
 i3 := by kernel_rfl }
open Go.RowKit Go.Lib Go.Sort in
theorem Try.slices_Compact_int (blk off cap : Nat) (zs : List Int) (w : World) (hH : Holds (Value.int .i64) w blk off zs.toArray) (hsz : zs.length ≤ 9223372036854775807) (hcap : zs.length ≤ cap) :
 Calls Try.prog 55 #[.slice (some ⟨blk, off, none⟩) zs.length cap] w fun e w' => e = .returned (.slice (some ⟨blk, off, none⟩) (Lib.compact zs).length cap) ∧ ∃ q, w' = putRow (Value.int .i64) (Sort.ahead w q) blk off (Lib.compact zs ++ List.replicate (zs.length - (Lib.compact zs).length) 0).toArray := Any.slices_Compact_int Try.laysNm220 blk off cap zs w hH hsz hcap
open Go.RowKit Go.Lib Go.Sort in
theorem Try.slices_Compact_int_empty (a : Option Addr) (cap : Nat) (w : World) :
 Calls Try.prog 55 #[.slice a 0 cap] w fun e w' => e = .returned (.slice a 0 cap) ∧ w' = w := Any.slices_Compact_int_empty Try.laysNm220 a cap w
open Go.RowKit Go.Sort in
theorem Try.slices_Sort_int_none (p : Option Addr) (cap : Nat) (w : World) :
 Calls Try.prog 54 #[.slice p 0 cap] w fun e w' => e = .returned (.tuple #[]) ∧ w' = w := Any.slices_Sort_int_none Try.lays189 p cap w
def Try.laySortA_ren : Go.Shelf.Ren := ⟨fun | 6 => 64 | 15 => 86 | 14 => 90 | 28 => 108 | 29 => 109 | 20 => 112 | 21 => 113 | 22 => 114 | 23 => 115 | 24 => 116 | 25 => 117 | 26 => 118 | 27 => 119 | 46 => 127 | 47 => 122 | 48 => 123 | 49 => 128 | 50 => 129 | 57 => 131 | n => n, fun | 22 => 25 | 24 => 61 | 25 => 90 | 3 => 3 | 39 => 108 | 0 => 0 | 53 => 132 | 55 => 134 | 4 => 4 | 46 => 126 | 45 => 125 | 50 => 80 | 5 => 5 | 9 => 9 | 66 => 142 | 70 => 146 | 76 => 151 | 77 => 152 | n => n, fun | n => n⟩
theorem Try.laySortA : Go.Proofs.SlLaysF0.n6 Try.prog Try.laySortA_ren := {
 mixed := by kernel_rfl
 f6 := ⟨Try.f64.name, by decide, Try.func64.trans (congrArg some (by kernel_rfl))⟩
 f14 := ⟨Try.f90.name, by decide, Try.func90.trans (congrArg some (by kernel_rfl))⟩
 f15 := Try.func86.trans (congrArg some (by kernel_rfl))
 f20 := ⟨Try.f112.name, by decide, Try.func112.trans (congrArg some (by kernel_rfl))⟩
 f21 := ⟨Try.f113.name, by decide, Try.func113.trans (congrArg some (by kernel_rfl))⟩
 f22 := ⟨Try.f114.name, by decide, Try.func114.trans (congrArg some (by kernel_rfl))⟩
 f23 := ⟨Try.f115.name, by decide, Try.func115.trans (congrArg some (by kernel_rfl))⟩
 f24 := ⟨Try.f116.name, by decide, Try.func116.trans (congrArg some (by kernel_rfl))⟩
 f25 := ⟨Try.f117.name, by decide, Try.func117.trans (congrArg some (by kernel_rfl))⟩
 f26 := ⟨Try.f118.name, by decide, Try.func118.trans (congrArg some (by kernel_rfl))⟩
 f27 := ⟨Try.f119.name, by decide, Try.func119.trans (congrArg some (by kernel_rfl))⟩
 f28 := Try.func108.trans (congrArg some (by kernel_rfl))
 f29 := Try.func109.trans (congrArg some (by kernel_rfl))
 f46 := ⟨Try.f127.name, by decide, Try.func127.trans (congrArg some (by kernel_rfl))⟩
 f47 := Try.func122.trans (congrArg some (by kernel_rfl))
 f48 := Try.func123.trans (congrArg some (by kernel_rfl))
 f49 := ⟨Try.f128.name, by decide, Try.func128.trans (congrArg some (by kernel_rfl))⟩
 f50 := ⟨Try.f129.name, by decide, Try.func129.trans (congrArg some (by kernel_rfl))⟩
 f57 := ⟨Try.f131.name, by decide, Try.func131.trans (congrArg some (by kernel_rfl))⟩
 t0 := Try.underlying0
 a0 := Try.isAgg0
 z0 := Try.sizeOf0
 v0 := Try.zeroValue0
 t3 := Try.underlying3
 a3 := Try.isAgg3
 z3 := Try.sizeOf3
 v3 := Try.zeroValue3
 t4 := Try.underlying4
 a4 := Try.isAgg4
 z4 := Try.sizeOf4
 v4 := Try.zeroValue4
 t5 := Try.underlying5
 a5 := Try.isAgg5
 z5 := Try.sizeOf5
 v5 := Try.zeroValue5
 t9 := Try.underlying9
 a9 := Try.isAgg9
 z9 := Try.sizeOf9
 v9 := Try.zeroValue9
 t22 := Try.underlying25
 a22 := Try.isAgg25
 z22 := Try.sizeOf25
 v22 := Try.zeroValue25
 t25 := Try.underlying90
 a25 := Try.isAgg90
 z25 := Try.sizeOf90
 v25 := Try.zeroValue90
 t39 := Try.underlying108
 a39 := Try.isAgg108
 z39 := Try.sizeOf108
 v39 := Try.zeroValue108
 t45 := Try.underlying125
 a45 := Try.isAgg125
 z45 := Try.sizeOf125
 v45 := Try.zeroValue125
 t46 := Try.underlying126
 a46 := Try.isAgg126
 z46 := Try.sizeOf126
 v46 := Try.zeroValue126
 t50 := Try.underlying80
 a50 := Try.isAgg80
 z50 := Try.sizeOf80
 v50 := Try.zeroValue80
 t53 := Try.underlying132
 a53 := Try.isAgg132
 z53 := Try.sizeOf132
 v53 := Try.zeroValue132
 t55 := Try.underlying134
 a55 := Try.isAgg134
 z55 := Try.sizeOf134
 v55 := Try.zeroValue134
 t66 := Try.underlying142
 a66 := Try.isAgg142
 z66 := Try.sizeOf142
 v66 := Try.zeroValue142
 t70 := Try.underlying146
 a70 := Try.isAgg146
 z70 := Try.sizeOf146
 v70 := Try.zeroValue146
 t76 := Try.underlying151
 a76 := Try.isAgg151
 z76 := Try.sizeOf151
 v76 := Try.zeroValue151
 t77 := Try.underlying152
 a77 := Try.isAgg152
 z77 := Try.sizeOf152
 v77 := Try.zeroValue152 }
end Go.Proofs
