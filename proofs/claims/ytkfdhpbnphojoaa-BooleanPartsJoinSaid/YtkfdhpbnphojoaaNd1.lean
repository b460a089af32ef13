/- Part of the proof. -/
import Derived.Shelf.Small.Bits
import Derived.Shelf.Strconv.Itoa0
import Derived.Shelf.Sort.Plain
import Derived.Shelf.Slices.Reverse
import Derived.Ground.Names2Prog
import Derived.Shelf.Slices.Clone
import Derived.Shelf.Slices.CompactI
import Derived.Shelf.Slices.SearchI
import Derived.Shelf.Slices.Cells
import Derived.Shelf.Slices.In.SortNone
import Derived.Shelf.Slices.Empties
import Derived.Ground.SlgnProg
import Derived.Ground.SlsfProg
import Derived.Shelf.SlicesE.Clone
import Derived.Shelf.SlSortCmp.WholeK
import Derived.Test.YtkfdhpbnphojoaaProg
namespace Go.Proofs
open Go.Shelf
def Try.lays189_ren:Go.Shelf.Ren:=⟨fun | 189=>37 | 125=>72 | 257=>71 | 128=>102 | 129=>103 | 294=>94 | 295=>95 | 296=>96 | 297=>97 | 298=>98 | 299=>99 | 216=>83 | 300=>100 | 301=>101 | 328=>111 | 329=>112 | 330=>113 | 331=>114 | 332=>115 | 215=>110 | 343=>126 | n=>n,fun | 28=>26 | 3=>3 | 46=>91 | 0=>0 | 51=>123 | 53=>125 | 4=>4 | 183=>117 | 182=>116 | 131=>67 | 5=>5 | 9=>9 | 218=>132 | 222=>136 | 228=>145 | 229=>146 | n=>n,fun | n=>n⟩
theorem Try.lays189:Go.Proofs.Lays.n189 Try.prog Try.lays189_ren := {
 mixed:=by kernel_rfl
 f125:=Try.func72.trans (congrArg some (by kernel_rfl))
 f128:=Try.func102.trans (congrArg some (by kernel_rfl))
 f129:=Try.func103.trans (congrArg some (by kernel_rfl))
 f189:=Try.func37.trans (congrArg some (by kernel_rfl))
 f215:=Try.func110.trans (congrArg some (by kernel_rfl))
 f216:=Try.func83.trans (congrArg some (by kernel_rfl))
 f257:=Try.func71.trans (congrArg some (by kernel_rfl))
 f294:=Try.func94.trans (congrArg some (by kernel_rfl))
 f295:=Try.func95.trans (congrArg some (by kernel_rfl))
 f296:=Try.func96.trans (congrArg some (by kernel_rfl))
 f297:=Try.func97.trans (congrArg some (by kernel_rfl))
 f298:=Try.func98.trans (congrArg some (by kernel_rfl))
 f299:=Try.func99.trans (congrArg some (by kernel_rfl))
 f300:=Try.func100.trans (congrArg some (by kernel_rfl))
 f301:=Try.func101.trans (congrArg some (by kernel_rfl))
 f328:=Try.func111.trans (congrArg some (by kernel_rfl))
 f329:=Try.func112.trans (congrArg some (by kernel_rfl))
 f330:=Try.func113.trans (congrArg some (by kernel_rfl))
 f331:=Try.func114.trans (congrArg some (by kernel_rfl))
 f332:=Try.func115.trans (congrArg some (by kernel_rfl))
 f343:=Try.func126.trans (congrArg some (by kernel_rfl))
 t0:=Try.underlying0
 a0:=Try.isAgg0
 z0:=Try.sizeOf0
 v0:=Try.zeroValue0
 t3:=Try.underlying3
 a3:=Try.isAgg3
 z3:=Try.sizeOf3
 v3:=Try.zeroValue3
 t4:=Try.underlying4
 a4:=Try.isAgg4
 z4:=Try.sizeOf4
 v4:=Try.zeroValue4
 t5:=Try.underlying5
 a5:=Try.isAgg5
 z5:=Try.sizeOf5
 v5:=Try.zeroValue5
 t9:=Try.underlying9
 a9:=Try.isAgg9
 z9:=Try.sizeOf9
 v9:=Try.zeroValue9
 t28:=Try.underlying26
 a28:=Try.isAgg26
 z28:=Try.sizeOf26
 v28:=Try.zeroValue26
 t46:=Try.underlying91
 a46:=Try.isAgg91
 z46:=Try.sizeOf91
 v46:=Try.zeroValue91
 t51:=Try.underlying123
 a51:=Try.isAgg123
 z51:=Try.sizeOf123
 v51:=Try.zeroValue123
 t53:=Try.underlying125
 a53:=Try.isAgg125
 z53:=Try.sizeOf125
 v53:=Try.zeroValue125
 t131:=Try.underlying67
 a131:=Try.isAgg67
 z131:=Try.sizeOf67
 v131:=Try.zeroValue67
 t182:=Try.underlying116
 a182:=Try.isAgg116
 z182:=Try.sizeOf116
 v182:=Try.zeroValue116
 t183:=Try.underlying117
 a183:=Try.isAgg117
 z183:=Try.sizeOf117
 v183:=Try.zeroValue117
 t218:=Try.underlying132
 a218:=Try.isAgg132
 z218:=Try.sizeOf132
 v218:=Try.zeroValue132
 t222:=Try.underlying136
 a222:=Try.isAgg136
 z222:=Try.sizeOf136
 v222:=Try.zeroValue136
 t228:=Try.underlying145
 a228:=Try.isAgg145
 z228:=Try.sizeOf145
 v228:=Try.zeroValue145
 t229:=Try.underlying146
 a229:=Try.isAgg146
 z229:=Try.sizeOf146
 v229:=Try.zeroValue146 }
open Go.Sort Go.RowKit in
theorem Try.slices_Sort_int (blk off cap:Nat) (zs:List Int) (w:World) (hH:Holds (Value.int .i64) w blk off zs.toArray) (hblk:blk<w.heap.size) (hsz:zs.length<4611686018427387904) :
 Calls Try.prog 37 #[.slice (some ⟨blk,off,none⟩) zs.length cap] w fun e w' =>
  e=.returned (.tuple #[])∧∃ n os,w'=grow (putRow (Value.int .i64) (Sort.ahead w n) blk off (zs.mergeSort fun x y=>decide (x≤y)).toArray) os:=Any.slices_Sort_int Try.lays189 blk off cap zs w hH hblk hsz
def Try.laysNm215_ren:Go.Shelf.Ren:=⟨fun | 15=>60 | n=>n,fun | 22=>26 | 3=>3 | 4=>4 | n=>n,fun | n=>n⟩
theorem Try.laysNm215:Go.Proofs.Lays2.n15 Try.prog Try.laysNm215_ren := {
 mixed:=by kernel_rfl
 f15:=Try.func60.trans (congrArg some (by kernel_rfl))
 t3:=Try.underlying3
 a3:=Try.isAgg3
 z3:=Try.sizeOf3
 v3:=Try.zeroValue3
 t4:=Try.underlying4
 a4:=Try.isAgg4
 z4:=Try.sizeOf4
 v4:=Try.zeroValue4
 t22:=Try.underlying26
 a22:=Try.isAgg26
 z22:=Try.sizeOf26
 v22:=Try.zeroValue26
 i3:=by kernel_rfl }
open Go.RowKit Go.Lib in
theorem Try.slices_Clone_int (b off n c:Nat) (zs:List Int) (w:World) (hz:n≤zs.length) (hbig:n*8≤140737488355328) (hc:∀ j,j<zs.length→w.cell? ⟨b,off+j,none⟩=some (.int .i64 (zs.getD j 0))) :
 Calls Try.prog 60 #[.slice (some ⟨b,off,none⟩) n c] w fun e w'=>∃ v',e=.returned v'∧w'.ownsRow w.heap.size 3 1 v' n ((zs.take n).map (Value.int .i64))∧v'≠.slice none 0 0∧Below w.heap.size w w':=Any.slices_Clone_int Try.laysNm215 b off n c zs w hz hbig hc
open Go.RowKit Go.Lib in
theorem Try.slices_Clone_int_nil (n c:Nat) (w:World) :
 Calls Try.prog 60 #[.slice none n c] w fun e w'=>e=.returned (.slice none 0 0)∧w'=w:=Any.slices_Clone_int_nil Try.laysNm215 n c w
open Go.RowKit Go.Lib in
theorem Try.slices_Clone_int_zero (a:Addr) (c:Nat) (w:World) :
 Calls Try.prog 60 #[.slice (some a) 0 c] w fun e w'=>∃ v',e=.returned v'∧w'.ownsRow w.heap.size 3 1 v' 0 []∧v'≠.slice none 0 0∧Below w.heap.size w w':=Any.slices_Clone_int_zero Try.laysNm215 a c w
def Try.laysNm220_ren:Go.Shelf.Ren:=⟨fun | 20=>38 | n=>n,fun | 22=>26 | 3=>3 | 4=>4 | 0=>0 | n=>n,fun | n=>n⟩
theorem Try.laysNm220:Go.Proofs.Lays2.n20 Try.prog Try.laysNm220_ren := {
 mixed:=by kernel_rfl
 f20:=Try.func38.trans (congrArg some (by kernel_rfl))
 t0:=Try.underlying0
 a0:=Try.isAgg0
 z0:=Try.sizeOf0
 v0:=Try.zeroValue0
 t3:=Try.underlying3
 a3:=Try.isAgg3
 z3:=Try.sizeOf3
 v3:=Try.zeroValue3
 t4:=Try.underlying4
 a4:=Try.isAgg4
 z4:=Try.sizeOf4
 v4:=Try.zeroValue4
 t22:=Try.underlying26
 a22:=Try.isAgg26
 z22:=Try.sizeOf26
 v22:=Try.zeroValue26
 i3:=by kernel_rfl }
open Go.RowKit Go.Lib Go.Sort in
theorem Try.slices_Compact_int (blk off cap:Nat) (zs:List Int) (w:World) (hH:Holds (Value.int .i64) w blk off zs.toArray) (hsz:zs.length≤9223372036854775807) (hcap:zs.length≤cap) :
 Calls Try.prog 38 #[.slice (some ⟨blk,off,none⟩) zs.length cap] w fun e w'=>e=.returned (.slice (some ⟨blk,off,none⟩) (Lib.compact zs).length cap)∧∃ q,w'=putRow (Value.int .i64) (Sort.ahead w q) blk off (Lib.compact zs++List.replicate (zs.length-(Lib.compact zs).length) 0).toArray:=Any.slices_Compact_int Try.laysNm220 blk off cap zs w hH hsz hcap
open Go.RowKit Go.Lib Go.Sort in
theorem Try.slices_Compact_int_empty (a:Option Addr) (cap:Nat) (w:World) :
 Calls Try.prog 38 #[.slice a 0 cap] w fun e w'=>e=.returned (.slice a 0 cap)∧w'=w:=Any.slices_Compact_int_empty Try.laysNm220 a cap w
def Try.laysNm225_ren:Go.Shelf.Ren:=⟨fun | 25=>47 | 31=>83 | 32=>84 | 37=>110 | n=>n,fun | 22=>26 | 3=>3 | 4=>4 | 40=>91 | 0=>0 | n=>n,fun | n=>n⟩
theorem Try.laysNm225:Go.Proofs.Lays2.n25 Try.prog Try.laysNm225_ren := {
 mixed:=by kernel_rfl
 f25:=Try.func47.trans (congrArg some (by kernel_rfl))
 f31:=Try.func83.trans (congrArg some (by kernel_rfl))
 f32:=Try.func84.trans (congrArg some (by kernel_rfl))
 f37:=Try.func110.trans (congrArg some (by kernel_rfl))
 t0:=Try.underlying0
 a0:=Try.isAgg0
 z0:=Try.sizeOf0
 v0:=Try.zeroValue0
 t3:=Try.underlying3
 a3:=Try.isAgg3
 z3:=Try.sizeOf3
 v3:=Try.zeroValue3
 t4:=Try.underlying4
 a4:=Try.isAgg4
 z4:=Try.sizeOf4
 v4:=Try.zeroValue4
 t22:=Try.underlying26
 a22:=Try.isAgg26
 z22:=Try.sizeOf26
 v22:=Try.zeroValue26
 t40:=Try.underlying91
 a40:=Try.isAgg91
 z40:=Try.sizeOf91
 v40:=Try.zeroValue91 }
open Go.RowKit Go.Lib in
theorem Try.slices_BinarySearch_int (b off n c:Nat) (zs:List Int) (x:Int) (w:World) (hz:n≤zs.length) (hbig:n<4611686018427387904) (hc:∀ j,j<zs.length→w.cell? ⟨b,off+j,none⟩=some (.int .i64 (zs.getD j 0))) (hs:(zs.take n).Pairwise (· ≤ ·)) :
 Calls Try.prog 47 #[.slice (some ⟨b,off,none⟩) n c,.int .i64 x] w fun e w'=>e=.returned (.tuple #[.int .i64 ((zs.take n).countP (· < x):Nat),.bool ((zs.take n).contains x)])∧∃ q,w'=w.drewN q:=Any.slices_BinarySearch_int Try.laysNm225 b off n c zs x w hz hbig hc hs
open Go.RowKit Go.Sort in
theorem Try.slices_Sort_int_none (p:Option Addr) (cap:Nat) (w:World) :
 Calls Try.prog 37 #[.slice p 0 cap] w fun e w'=>e=.returned (.tuple #[])∧w'=w:=Any.slices_Sort_int_none Try.lays189 p cap w
def Try.laySortA_ren:Go.Shelf.Ren:=⟨fun | 6=>80 | 15=>72 | 14=>107 | 28=>102 | 29=>103 | 20=>118 | 21=>119 | 22=>120 | 23=>121 | 24=>122 | 25=>123 | 26=>124 | 27=>125 | 46=>128 | 47=>112 | 48=>113 | 49=>129 | 50=>130 | 57=>131 | n=>n,fun | 22=>22 | 24=>64 | 25=>101 | 3=>3 | 39=>91 | 0=>0 | 53=>123 | 55=>125 | 4=>4 | 46=>117 | 45=>116 | 50=>67 | 5=>5 | 9=>9 | 66=>132 | 70=>136 | 76=>145 | 77=>146 | n=>n,fun | n=>n⟩
theorem Try.laySortA:Go.Proofs.SlLaysF0.n6 Try.prog Try.laySortA_ren := {
 mixed:=by kernel_rfl
 f6:=⟨Try.f80.name,by decide,Try.func80.trans (congrArg some (by kernel_rfl))⟩
 f14:=⟨Try.f107.name,by decide,Try.func107.trans (congrArg some (by kernel_rfl))⟩
 f15:=Try.func72.trans (congrArg some (by kernel_rfl))
 f20:=⟨Try.f118.name,by decide,Try.func118.trans (congrArg some (by kernel_rfl))⟩
 f21:=⟨Try.f119.name,by decide,Try.func119.trans (congrArg some (by kernel_rfl))⟩
 f22:=⟨Try.f120.name,by decide,Try.func120.trans (congrArg some (by kernel_rfl))⟩
 f23:=⟨Try.f121.name,by decide,Try.func121.trans (congrArg some (by kernel_rfl))⟩
 f24:=⟨Try.f122.name,by decide,Try.func122.trans (congrArg some (by kernel_rfl))⟩
 f25:=⟨Try.f123.name,by decide,Try.func123.trans (congrArg some (by kernel_rfl))⟩
 f26:=⟨Try.f124.name,by decide,Try.func124.trans (congrArg some (by kernel_rfl))⟩
 f27:=⟨Try.f125.name,by decide,Try.func125.trans (congrArg some (by kernel_rfl))⟩
 f28:=Try.func102.trans (congrArg some (by kernel_rfl))
 f29:=Try.func103.trans (congrArg some (by kernel_rfl))
 f46:=⟨Try.f128.name,by decide,Try.func128.trans (congrArg some (by kernel_rfl))⟩
 f47:=Try.func112.trans (congrArg some (by kernel_rfl))
 f48:=Try.func113.trans (congrArg some (by kernel_rfl))
 f49:=⟨Try.f129.name,by decide,Try.func129.trans (congrArg some (by kernel_rfl))⟩
 f50:=⟨Try.f130.name,by decide,Try.func130.trans (congrArg some (by kernel_rfl))⟩
 f57:=⟨Try.f131.name,by decide,Try.func131.trans (congrArg some (by kernel_rfl))⟩
 t0:=Try.underlying0
 a0:=Try.isAgg0
 z0:=Try.sizeOf0
 v0:=Try.zeroValue0
 t3:=Try.underlying3
 a3:=Try.isAgg3
 z3:=Try.sizeOf3
 v3:=Try.zeroValue3
 t4:=Try.underlying4
 a4:=Try.isAgg4
 z4:=Try.sizeOf4
 v4:=Try.zeroValue4
 t5:=Try.underlying5
 a5:=Try.isAgg5
 z5:=Try.sizeOf5
 v5:=Try.zeroValue5
 t9:=Try.underlying9
 a9:=Try.isAgg9
 z9:=Try.sizeOf9
 v9:=Try.zeroValue9
 t22:=Try.underlying22
 a22:=Try.isAgg22
 z22:=Try.sizeOf22
 v22:=Try.zeroValue22
 t25:=Try.underlying101
 a25:=Try.isAgg101
 z25:=Try.sizeOf101
 v25:=Try.zeroValue101
 t39:=Try.underlying91
 a39:=Try.isAgg91
 z39:=Try.sizeOf91
 v39:=Try.zeroValue91
 t45:=Try.underlying116
 a45:=Try.isAgg116
 z45:=Try.sizeOf116
 v45:=Try.zeroValue116
 t46:=Try.underlying117
 a46:=Try.isAgg117
 z46:=Try.sizeOf117
 v46:=Try.zeroValue117
 t50:=Try.underlying67
 a50:=Try.isAgg67
 z50:=Try.sizeOf67
 v50:=Try.zeroValue67
 t53:=Try.underlying123
 a53:=Try.isAgg123
 z53:=Try.sizeOf123
 v53:=Try.zeroValue123
 t55:=Try.underlying125
 a55:=Try.isAgg125
 z55:=Try.sizeOf125
 v55:=Try.zeroValue125
 t66:=Try.underlying132
 a66:=Try.isAgg132
 z66:=Try.sizeOf132
 v66:=Try.zeroValue132
 t70:=Try.underlying136
 a70:=Try.isAgg136
 z70:=Try.sizeOf136
 v70:=Try.zeroValue136
 t76:=Try.underlying145
 a76:=Try.isAgg145
 z76:=Try.sizeOf145
 v76:=Try.zeroValue145
 t77:=Try.underlying146
 a77:=Try.isAgg146
 z77:=Try.sizeOf146
 v77:=Try.zeroValue146 }
end Go.Proofs
