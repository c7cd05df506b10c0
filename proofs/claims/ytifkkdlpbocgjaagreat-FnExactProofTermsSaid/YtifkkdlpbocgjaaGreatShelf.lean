import Derived.Shelf.Small.Bits
import Derived.Shelf.Strconv.Itoa0
import Derived.Shelf.Sort.Plain
import Derived.Ground.GgsProg
import Derived.Shelf.GgSortFunc.Insertion
import Derived.Shelf.GgSortFunc.Tiny
import Derived.Shelf.GgSortFunc.Compose
import Derived.Ground.GgtProg
import Derived.Shelf.GgSortMore.Stable
import Derived.Shelf.Slices.In.SortNone
import Derived.Shelf.Slices.In.SortNone2
import Derived.Test.YtifkkdlpbocgjaaGreatProg
namespace Go.Proofs
open Go.Shelf
def Tryz.lays128_ren:Go.Shelf.Ren:=⟨fun | 128=>158 | n=>n,fun | 51=>186 | 3=>3 | 4=>4 | 46=>170 | 5=>5 | 9=>9 | n=>n,fun | n=>n⟩
theorem Tryz.lays128:Go.Proofs.Lays.n128 Tryz.prog Tryz.lays128_ren:={
 mixed:=by kernel_rfl
 f128:=Tryz.func158.trans (congrArg some (by kernel_rfl))
 t3:=Tryz.underlying3
 a3:=Tryz.isAgg3
 z3:=Tryz.sizeOf3
 v3:=Tryz.zeroValue3
 t4:=Tryz.underlying4
 a4:=Tryz.isAgg4
 z4:=Tryz.sizeOf4
 v4:=Tryz.zeroValue4
 t5:=Tryz.underlying5
 a5:=Tryz.isAgg5
 z5:=Tryz.sizeOf5
 v5:=Tryz.zeroValue5
 t9:=Tryz.underlying9
 a9:=Tryz.isAgg9
 z9:=Tryz.sizeOf9
 v9:=Tryz.zeroValue9
 t46:=Tryz.underlying170
 a46:=Tryz.isAgg170
 z46:=Tryz.sizeOf170
 v46:=Tryz.zeroValue170
 t51:=Tryz.underlying186
 a51:=Tryz.isAgg186
 z51:=Tryz.sizeOf186
 v51:=Tryz.zeroValue186 }
theorem Tryz.bits_Len32 (x:Int) (w:World) (h0:0≤x) (h1:x≤4294967295) :
  Calls Tryz.prog 158 #[.int .u32 x] w fun e w'=>e=.returned (.int .i64 (Lib.bitLen x.toNat))∧w'=w:=Any.bits_Len32 Tryz.lays128 x w h0 h1
def Tryz.lays125_ren:Go.Shelf.Ren:=⟨fun | 125=>148 | 128=>158 | 129=>159 | n=>n,fun | 46=>170 | 3=>3 | 51=>186 | 53=>188 | 4=>4 | 5=>5 | 9=>9 | n=>n,fun | n=>n⟩
theorem Tryz.lays125:Go.Proofs.Lays.n125 Tryz.prog Tryz.lays125_ren:={
 mixed:=by kernel_rfl
 f125:=Tryz.func148.trans (congrArg some (by kernel_rfl))
 f128:=Tryz.func158.trans (congrArg some (by kernel_rfl))
 f129:=Tryz.func159.trans (congrArg some (by kernel_rfl))
 t3:=Tryz.underlying3
 a3:=Tryz.isAgg3
 z3:=Tryz.sizeOf3
 v3:=Tryz.zeroValue3
 t4:=Tryz.underlying4
 a4:=Tryz.isAgg4
 z4:=Tryz.sizeOf4
 v4:=Tryz.zeroValue4
 t5:=Tryz.underlying5
 a5:=Tryz.isAgg5
 z5:=Tryz.sizeOf5
 v5:=Tryz.zeroValue5
 t9:=Tryz.underlying9
 a9:=Tryz.isAgg9
 z9:=Tryz.sizeOf9
 v9:=Tryz.zeroValue9
 t46:=Tryz.underlying170
 a46:=Tryz.isAgg170
 z46:=Tryz.sizeOf170
 v46:=Tryz.zeroValue170
 t51:=Tryz.underlying186
 a51:=Tryz.isAgg186
 z51:=Tryz.sizeOf186
 v51:=Tryz.zeroValue186
 t53:=Tryz.underlying188
 a53:=Tryz.isAgg188
 z53:=Tryz.sizeOf188
 v53:=Tryz.zeroValue188 }
theorem Tryz.bits_Len (x:Int) (w:World) (h0:0≤x) (h1:x≤18446744073709551615) :
  Calls Tryz.prog 148 #[.int .u64 x] w fun e w'=>e=.returned (.int .i64 (Lib.bitLen x.toNat))∧w'=w:=Any.bits_Len Tryz.lays125 x w h0 h1
def Tryz.lays129_ren:Go.Shelf.Ren:=⟨fun | 129=>159 | n=>n,fun | 53=>188 | 3=>3 | 4=>4 | 46=>170 | 5=>5 | 9=>9 | n=>n,fun | n=>n⟩
theorem Tryz.lays129:Go.Proofs.Lays.n129 Tryz.prog Tryz.lays129_ren:={
 mixed:=by kernel_rfl
 f129:=Tryz.func159.trans (congrArg some (by kernel_rfl))
 t3:=Tryz.underlying3
 a3:=Tryz.isAgg3
 z3:=Tryz.sizeOf3
 v3:=Tryz.zeroValue3
 t4:=Tryz.underlying4
 a4:=Tryz.isAgg4
 z4:=Tryz.sizeOf4
 v4:=Tryz.zeroValue4
 t5:=Tryz.underlying5
 a5:=Tryz.isAgg5
 z5:=Tryz.sizeOf5
 v5:=Tryz.zeroValue5
 t9:=Tryz.underlying9
 a9:=Tryz.isAgg9
 z9:=Tryz.sizeOf9
 v9:=Tryz.zeroValue9
 t46:=Tryz.underlying170
 a46:=Tryz.isAgg170
 z46:=Tryz.sizeOf170
 v46:=Tryz.zeroValue170
 t53:=Tryz.underlying188
 a53:=Tryz.isAgg188
 z53:=Tryz.sizeOf188
 v53:=Tryz.zeroValue188 }
theorem Tryz.bits_Len64 (x:Int) (w:World) (h0:0≤x) (h1:x≤18446744073709551615) :
  Calls Tryz.prog 159 #[.int .u64 x] w fun e w'=>e=.returned (.int .i64 (Lib.bitLen x.toNat))∧w'=w:=Any.bits_Len64 Tryz.lays129 x w h0 h1
def Tryz.lays189_ren:Go.Shelf.Ren:=⟨fun | 189=>146 | 125=>148 | 257=>147 | 128=>158 | 129=>159 | 294=>149 | 295=>150 | 296=>151 | 297=>152 | 298=>153 | 299=>154 | 216=>155 | 300=>156 | 301=>157 | 328=>160 | 329=>161 | 330=>162 | 331=>163 | 332=>164 | 215=>165 | 343=>166 | n=>n,fun | 28=>138 | 3=>3 | 46=>170 | 0=>0 | 51=>186 | 53=>188 | 4=>4 | 183=>179 | 182=>178 | 131=>183 | 5=>5 | 9=>9 | 218=>189 | 222=>119 | 228=>195 | 229=>196 | n=>n,fun | n=>n⟩
theorem Tryz.lays189:Go.Proofs.Lays.n189 Tryz.prog Tryz.lays189_ren:={
 mixed:=by kernel_rfl
 f125:=Tryz.func148.trans (congrArg some (by kernel_rfl))
 f128:=Tryz.func158.trans (congrArg some (by kernel_rfl))
 f129:=Tryz.func159.trans (congrArg some (by kernel_rfl))
 f189:=Tryz.func146.trans (congrArg some (by kernel_rfl))
 f215:=Tryz.func165.trans (congrArg some (by kernel_rfl))
 f216:=Tryz.func155.trans (congrArg some (by kernel_rfl))
 f257:=Tryz.func147.trans (congrArg some (by kernel_rfl))
 f294:=Tryz.func149.trans (congrArg some (by kernel_rfl))
 f295:=Tryz.func150.trans (congrArg some (by kernel_rfl))
 f296:=Tryz.func151.trans (congrArg some (by kernel_rfl))
 f297:=Tryz.func152.trans (congrArg some (by kernel_rfl))
 f298:=Tryz.func153.trans (congrArg some (by kernel_rfl))
 f299:=Tryz.func154.trans (congrArg some (by kernel_rfl))
 f300:=Tryz.func156.trans (congrArg some (by kernel_rfl))
 f301:=Tryz.func157.trans (congrArg some (by kernel_rfl))
 f328:=Tryz.func160.trans (congrArg some (by kernel_rfl))
 f329:=Tryz.func161.trans (congrArg some (by kernel_rfl))
 f330:=Tryz.func162.trans (congrArg some (by kernel_rfl))
 f331:=Tryz.func163.trans (congrArg some (by kernel_rfl))
 f332:=Tryz.func164.trans (congrArg some (by kernel_rfl))
 f343:=Tryz.func166.trans (congrArg some (by kernel_rfl))
 t0:=Tryz.underlying0
 a0:=Tryz.isAgg0
 z0:=Tryz.sizeOf0
 v0:=Tryz.zeroValue0
 t3:=Tryz.underlying3
 a3:=Tryz.isAgg3
 z3:=Tryz.sizeOf3
 v3:=Tryz.zeroValue3
 t4:=Tryz.underlying4
 a4:=Tryz.isAgg4
 z4:=Tryz.sizeOf4
 v4:=Tryz.zeroValue4
 t5:=Tryz.underlying5
 a5:=Tryz.isAgg5
 z5:=Tryz.sizeOf5
 v5:=Tryz.zeroValue5
 t9:=Tryz.underlying9
 a9:=Tryz.isAgg9
 z9:=Tryz.sizeOf9
 v9:=Tryz.zeroValue9
 t28:=Tryz.underlying138
 a28:=Tryz.isAgg138
 z28:=Tryz.sizeOf138
 v28:=Tryz.zeroValue138
 t46:=Tryz.underlying170
 a46:=Tryz.isAgg170
 z46:=Tryz.sizeOf170
 v46:=Tryz.zeroValue170
 t51:=Tryz.underlying186
 a51:=Tryz.isAgg186
 z51:=Tryz.sizeOf186
 v51:=Tryz.zeroValue186
 t53:=Tryz.underlying188
 a53:=Tryz.isAgg188
 z53:=Tryz.sizeOf188
 v53:=Tryz.zeroValue188
 t131:=Tryz.underlying183
 a131:=Tryz.isAgg183
 z131:=Tryz.sizeOf183
 v131:=Tryz.zeroValue183
 t182:=Tryz.underlying178
 a182:=Tryz.isAgg178
 z182:=Tryz.sizeOf178
 v182:=Tryz.zeroValue178
 t183:=Tryz.underlying179
 a183:=Tryz.isAgg179
 z183:=Tryz.sizeOf179
 v183:=Tryz.zeroValue179
 t218:=Tryz.underlying189
 a218:=Tryz.isAgg189
 z218:=Tryz.sizeOf189
 v218:=Tryz.zeroValue189
 t222:=Tryz.underlying119
 a222:=Tryz.isAgg119
 z222:=Tryz.sizeOf119
 v222:=Tryz.zeroValue119
 t228:=Tryz.underlying195
 a228:=Tryz.isAgg195
 z228:=Tryz.sizeOf195
 v228:=Tryz.zeroValue195
 t229:=Tryz.underlying196
 a229:=Tryz.isAgg196
 z229:=Tryz.sizeOf196
 v229:=Tryz.zeroValue196 }
open Go.Sort Go.RowKit in
theorem Tryz.slices_Sort_int (blk off cap:Nat) (zs:List Int) (w:World) (hH:Holds (Value.int .i64) w blk off zs.toArray) (hblk:blk<w.heap.size) (hsz:zs.length<4611686018427387904) :
  Calls Tryz.prog 146 #[.slice (some ⟨blk,off,none⟩) zs.length cap] w fun e w' =>
   e=.returned (.tuple #[])∧∃n os,w'=grow (putRow (Value.int .i64) (Sort.ahead w n) blk off (zs.mergeSort fun x y=>decide (x≤y)).toArray) os:=Any.slices_Sort_int Tryz.lays189 blk off cap zs w hH hblk hsz
def Tryz.lays191_ren:Go.Shelf.Ren:=⟨fun | 191=>143 | 189=>146 | 125=>148 | 257=>147 | 128=>158 | 129=>159 | 294=>149 | 295=>150 | 296=>151 | 297=>152 | 298=>153 | 299=>154 | 216=>155 | 300=>156 | 301=>157 | 328=>160 | 329=>161 | 330=>162 | 331=>163 | 332=>164 | 215=>165 | 343=>166 | n=>n,fun | 28=>138 | 0=>0 | 3=>3 | 46=>170 | 51=>186 | 53=>188 | 4=>4 | 183=>179 | 182=>178 | 131=>183 | 5=>5 | 9=>9 | 218=>189 | 222=>119 | 228=>195 | 229=>196 | n=>n,fun | n=>n⟩
theorem Tryz.lays191:Go.Proofs.Lays.n191 Tryz.prog Tryz.lays191_ren:={
 mixed:=by kernel_rfl
 f125:=Tryz.func148.trans (congrArg some (by kernel_rfl))
 f128:=Tryz.func158.trans (congrArg some (by kernel_rfl))
 f129:=Tryz.func159.trans (congrArg some (by kernel_rfl))
 f189:=Tryz.func146.trans (congrArg some (by kernel_rfl))
 f191:=Tryz.func143.trans (congrArg some (by kernel_rfl))
 f215:=Tryz.func165.trans (congrArg some (by kernel_rfl))
 f216:=Tryz.func155.trans (congrArg some (by kernel_rfl))
 f257:=Tryz.func147.trans (congrArg some (by kernel_rfl))
 f294:=Tryz.func149.trans (congrArg some (by kernel_rfl))
 f295:=Tryz.func150.trans (congrArg some (by kernel_rfl))
 f296:=Tryz.func151.trans (congrArg some (by kernel_rfl))
 f297:=Tryz.func152.trans (congrArg some (by kernel_rfl))
 f298:=Tryz.func153.trans (congrArg some (by kernel_rfl))
 f299:=Tryz.func154.trans (congrArg some (by kernel_rfl))
 f300:=Tryz.func156.trans (congrArg some (by kernel_rfl))
 f301:=Tryz.func157.trans (congrArg some (by kernel_rfl))
 f328:=Tryz.func160.trans (congrArg some (by kernel_rfl))
 f329:=Tryz.func161.trans (congrArg some (by kernel_rfl))
 f330:=Tryz.func162.trans (congrArg some (by kernel_rfl))
 f331:=Tryz.func163.trans (congrArg some (by kernel_rfl))
 f332:=Tryz.func164.trans (congrArg some (by kernel_rfl))
 f343:=Tryz.func166.trans (congrArg some (by kernel_rfl))
 t0:=Tryz.underlying0
 a0:=Tryz.isAgg0
 z0:=Tryz.sizeOf0
 v0:=Tryz.zeroValue0
 t3:=Tryz.underlying3
 a3:=Tryz.isAgg3
 z3:=Tryz.sizeOf3
 v3:=Tryz.zeroValue3
 t4:=Tryz.underlying4
 a4:=Tryz.isAgg4
 z4:=Tryz.sizeOf4
 v4:=Tryz.zeroValue4
 t5:=Tryz.underlying5
 a5:=Tryz.isAgg5
 z5:=Tryz.sizeOf5
 v5:=Tryz.zeroValue5
 t9:=Tryz.underlying9
 a9:=Tryz.isAgg9
 z9:=Tryz.sizeOf9
 v9:=Tryz.zeroValue9
 t28:=Tryz.underlying138
 a28:=Tryz.isAgg138
 z28:=Tryz.sizeOf138
 v28:=Tryz.zeroValue138
 t46:=Tryz.underlying170
 a46:=Tryz.isAgg170
 z46:=Tryz.sizeOf170
 v46:=Tryz.zeroValue170
 t51:=Tryz.underlying186
 a51:=Tryz.isAgg186
 z51:=Tryz.sizeOf186
 v51:=Tryz.zeroValue186
 t53:=Tryz.underlying188
 a53:=Tryz.isAgg188
 z53:=Tryz.sizeOf188
 v53:=Tryz.zeroValue188
 t131:=Tryz.underlying183
 a131:=Tryz.isAgg183
 z131:=Tryz.sizeOf183
 v131:=Tryz.zeroValue183
 t182:=Tryz.underlying178
 a182:=Tryz.isAgg178
 z182:=Tryz.sizeOf178
 v182:=Tryz.zeroValue178
 t183:=Tryz.underlying179
 a183:=Tryz.isAgg179
 z183:=Tryz.sizeOf179
 v183:=Tryz.zeroValue179
 t218:=Tryz.underlying189
 a218:=Tryz.isAgg189
 z218:=Tryz.sizeOf189
 v218:=Tryz.zeroValue189
 t222:=Tryz.underlying119
 a222:=Tryz.isAgg119
 z222:=Tryz.sizeOf119
 v222:=Tryz.zeroValue119
 t228:=Tryz.underlying195
 a228:=Tryz.isAgg195
 z228:=Tryz.sizeOf195
 v228:=Tryz.zeroValue195
 t229:=Tryz.underlying196
 a229:=Tryz.isAgg196
 z229:=Tryz.sizeOf196
 v229:=Tryz.zeroValue196 }
open Go.Sort Go.RowKit in
theorem Tryz.sort_Ints (blk off cap:Nat) (zs:List Int) (w:World) (hH:Holds (Value.int .i64) w blk off zs.toArray) (hblk:blk<w.heap.size) (hsz:zs.length<4611686018427387904) :
  Calls Tryz.prog 143 #[.slice (some ⟨blk,off,none⟩) zs.length cap] w fun e w' =>
   e=.returned (.tuple #[])∧∃n os,w'=grow (putRow (Value.int .i64) (Sort.ahead w n) blk off (zs.mergeSort fun x y=>decide (x≤y)).toArray) os:=Any.sort_Ints Tryz.lays191 blk off cap zs w hH hblk hsz
def Tryz.laysGg26_ren:Go.Shelf.Ren:=⟨fun | 26=>121 | n=>n,fun | 44=>131 | 3=>3 | 0=>0 | 4=>4 | 26=>88 | 37=>127 | n=>n,fun | n=>n⟩
theorem Tryz.laysGg26:Go.Proofs.LaysGg.n26 Tryz.prog Tryz.laysGg26_ren:={
 mixed:=by kernel_rfl
 f26:=Tryz.func121.trans (congrArg some (by kernel_rfl))
 t0:=Tryz.underlying0
 a0:=Tryz.isAgg0
 z0:=Tryz.sizeOf0
 v0:=Tryz.zeroValue0
 i0:=by kernel_rfl
 t3:=Tryz.underlying3
 a3:=Tryz.isAgg3
 z3:=Tryz.sizeOf3
 v3:=Tryz.zeroValue3
 i3:=by kernel_rfl
 t4:=Tryz.underlying4
 a4:=Tryz.isAgg4
 z4:=Tryz.sizeOf4
 v4:=Tryz.zeroValue4
 i4:=by kernel_rfl
 t26:=Tryz.underlying88
 a26:=Tryz.isAgg88
 z26:=Tryz.sizeOf88
 v26:=Tryz.zeroValue88
 i26:=by kernel_rfl
 t37:=Tryz.underlying127
 a37:=Tryz.isAgg127
 z37:=Tryz.sizeOf127
 v37:=Tryz.zeroValue127
 i37:=by kernel_rfl
 t44:=Tryz.underlying131
 a44:=Tryz.isAgg131
 z44:=Tryz.sizeOf131
 v44:=Tryz.zeroValue131
 i44:=by kernel_rfl }
open Go.RowKit Go.Lib Go.Sort in
theorem Tryz.insertionSort_func_one {α:Type} [Inhabited α] (enc:α→Value) (lt:α→α→Bool) (g:Nat) (lb:Array Value) (sf:Nat) (sb:Array Value) (blk off a b:Nat) (d:Array α) (w:World) (eg:∀args w,(callFunc g args).run Tryz.prog w=.ok (.enter g args) w) (hless:LessReads Tryz.prog g lb enc lt blk off d.size w) (hswap:SwapSwaps Tryz.prog sf sb enc blk off d.size) (hH:Holds enc w blk off d) (hblk:blk<w.heap.size) (hab:a≤b) (hb:b≤d.size) (hsz:d.size<4611686018427387904) :
  Calls Tryz.prog 121 #[.agg #[.func (.func g) #[] lb,.func (.func sf) #[] sb],.int .i64 a,.int .i64 b] w fun e w' =>
   e=.returned (.tuple #[])∧∃n,w'=putRow enc (Sort.ahead (w.alloc (.cells #[.func (.func g) #[] lb,.func (.func sf) #[] sb] 131)) n) blk off (Sort.insertionSort lt d a b):=Any.insertionSort_func_one Tryz.laysGg26 enc lt g lb sf sb blk off a b d w eg hless hswap hH hblk hab hb hsz
open Go.RowKit Go.Lib Go.Sort in
theorem Tryz.insertionSort_func_none (lf:Fn) (la lb:Array Value) (f:Nat) (sb:Array Value) (a b:Nat) (h:b≤a+1) (ha:a<4611686018427387904) (w:World) :
  Calls Tryz.prog 121 #[.agg #[.func lf la lb,.func (.func f) #[] sb],.int .i64 a,.int .i64 b] w fun e w'=>e=.returned (.tuple #[])∧w'=w.alloc (.cells #[.func lf la lb,.func (.func f) #[] sb] 131):=Any.insertionSort_func_none Tryz.laysGg26 lf la lb f sb a b h ha w
open Go.RowKit Go.Lib Go.Sort in
theorem Tryz.insertionSort_func_w {α:Type} [Inhabited α] (enc:α→Value) (lt:α→α→Bool) (g:Nat) (lb:Array Value) (sf:Nat) (sb:Array Value) (blk off a b:Nat) (d:Array α) (w:World) (eg:∀args w,(callFunc g args).run Tryz.prog w=.ok (.enter g args) w) (hless:LessReads Tryz.prog g lb enc lt blk off d.size w) (hswap:SwapSwaps Tryz.prog sf sb enc blk off d.size) (hH:Holds enc w blk off d) (hblk:blk<w.heap.size) (hab:a≤b) (hb:b≤d.size) (hsz:d.size<4611686018427387904) :
  Calls Tryz.prog 121 #[.agg #[.func (.func g) #[] lb,.func (.func sf) #[] sb],.int .i64 a,.int .i64 b] w fun e w'=>e=.returned (.tuple #[])∧∃n os,w'=sortWorld enc w blk off n (Sort.insertionSort lt d a b) os:=Any.insertionSort_func_w Tryz.laysGg26 enc lt g lb sf sb blk off a b d w eg hless hswap hH hblk hab hb hsz
def Tryz.laysGt15_ren:Go.Shelf.Ren:=⟨fun | 15=>83 | 29=>121 | 30=>122 | 42=>139 | 49=>145 | n=>n,fun | 42=>131 | 3=>3 | 0=>0 | 4=>4 | 26=>88 | 38=>127 | 47=>170 | n=>n,fun | n=>n⟩
theorem Tryz.laysGt15:Go.Proofs.LaysGt.n15 Tryz.prog Tryz.laysGt15_ren:={
 mixed:=by kernel_rfl
 f15:=Tryz.func83.trans (congrArg some (by kernel_rfl))
 f29:=Tryz.func121.trans (congrArg some (by kernel_rfl))
 f30:=Tryz.func122.trans (congrArg some (by kernel_rfl))
 f42:=Tryz.func139.trans (congrArg some (by kernel_rfl))
 f49:=Tryz.func145.trans (congrArg some (by kernel_rfl))
 t0:=Tryz.underlying0
 a0:=Tryz.isAgg0
 z0:=Tryz.sizeOf0
 v0:=Tryz.zeroValue0
 i0:=by kernel_rfl
 t3:=Tryz.underlying3
 a3:=Tryz.isAgg3
 z3:=Tryz.sizeOf3
 v3:=Tryz.zeroValue3
 i3:=by kernel_rfl
 t4:=Tryz.underlying4
 a4:=Tryz.isAgg4
 z4:=Tryz.sizeOf4
 v4:=Tryz.zeroValue4
 i4:=by kernel_rfl
 t26:=Tryz.underlying88
 a26:=Tryz.isAgg88
 z26:=Tryz.sizeOf88
 v26:=Tryz.zeroValue88
 i26:=by kernel_rfl
 t38:=Tryz.underlying127
 a38:=Tryz.isAgg127
 z38:=Tryz.sizeOf127
 v38:=Tryz.zeroValue127
 i38:=by kernel_rfl
 t42:=Tryz.underlying131
 a42:=Tryz.isAgg131
 z42:=Tryz.sizeOf131
 v42:=Tryz.zeroValue131
 i42:=by kernel_rfl
 t47:=Tryz.underlying170
 a47:=Tryz.isAgg170
 z47:=Tryz.sizeOf170
 v47:=Tryz.zeroValue170
 i47:=by kernel_rfl }
open Go.RowKit Go.Lib Go.Sort in
theorem Tryz.stable_func_under20 {α:Type} [Inhabited α] (enc:α→Value) (lt:α→α→Bool) (g:Nat) (lb:Array Value) (sf:Nat) (sb:Array Value) (blk off:Nat) (d:Array α) (W:World) (eg:∀args w,(callFunc g args).run Tryz.prog w=.ok (.enter g args) w) (hless:LessReads Tryz.prog g lb enc lt blk off d.size W) (hswap:SwapSwaps Tryz.prog sf sb enc blk off d.size) (hH:Holds enc W blk off d) (hblk:blk<W.heap.size) (h20:d.size<20) :
  Calls Tryz.prog 83 #[.agg #[.func (.func g) #[] lb,.func (.func sf) #[] sb],.int .i64 d.size] W fun e w'=>e=.returned (.tuple #[])∧∃n os,w'=sortWorld enc W blk off n (Sort.insertionSort lt d 0 d.size) os:=Any.stable_func_under20 Tryz.laysGt15 enc lt g lb sf sb blk off d W eg hless hswap hH hblk h20
open Go.RowKit Go.Lib Go.Sort in
theorem Tryz.stable_func_at20 {α:Type} [Inhabited α] (enc:α→Value) (lt:α→α→Bool) (g:Nat) (lb:Array Value) (sf:Nat) (sb:Array Value) (blk off:Nat) (d:Array α) (W:World) (eg:∀args w,(callFunc g args).run Tryz.prog w=.ok (.enter g args) w) (hless:LessReads Tryz.prog g lb enc lt blk off d.size W) (hswap:SwapSwaps Tryz.prog sf sb enc blk off d.size) (hH:Holds enc W blk off d) (hblk:blk<W.heap.size) (h20:d.size=20) :
  Calls Tryz.prog 83 #[.agg #[.func (.func g) #[] lb,.func (.func sf) #[] sb],.int .i64 d.size] W fun e w'=>e=.returned (.tuple #[])∧∃n os,w'=sortWorld enc W blk off n (Sort.insertionSort lt d 0 d.size) os:=Any.stable_func_at20 Tryz.laysGt15 enc lt g lb sf sb blk off d W eg hless hswap hH hblk h20
open Go.RowKit Go.Lib Go.Sort in
theorem Tryz.stable_func_small {α:Type} [Inhabited α] (enc:α→Value) (lt:α→α→Bool) (g:Nat) (lb:Array Value) (sf:Nat) (sb:Array Value) (blk off:Nat) (d:Array α) (W:World) (eg:∀args w,(callFunc g args).run Tryz.prog w=.ok (.enter g args) w) (hless:LessReads Tryz.prog g lb enc lt blk off d.size W) (hswap:SwapSwaps Tryz.prog sf sb enc blk off d.size) (hH:Holds enc W blk off d) (hblk:blk<W.heap.size) (h20:d.size≤20) :
  Calls Tryz.prog 83 #[.agg #[.func (.func g) #[] lb,.func (.func sf) #[] sb],.int .i64 d.size] W fun e w'=>e=.returned (.tuple #[])∧∃n os,w'=sortWorld enc W blk off n (Sort.insertionSort lt d 0 d.size) os:=Any.stable_func_small Tryz.laysGt15 enc lt g lb sf sb blk off d W eg hless hswap hH hblk h20
open Go.RowKit Go.Lib Go.Sort in
theorem Tryz.stable_func_tiny {α:Type} [Inhabited α] (lf:Fn) (la lb:Array Value) (f:Nat) (sb:Array Value) (n:Nat) (hn:n≤1) (W:World) :
  Calls Tryz.prog 83 #[.agg #[.func lf la lb,.func (.func f) #[] sb],.int .i64 n] W fun e w'=>e=.returned (.tuple #[])∧∃os,w'=grow W os:=Any.stable_func_tiny Tryz.laysGt15 lf la lb f sb n hn W
def Tryz.laysGt8_ren:Go.Shelf.Ren:=⟨fun | 8=>47 | 13=>81 | 14=>82 | 16=>84 | 15=>83 | 29=>121 | 30=>122 | 42=>139 | 49=>145 | n=>n,fun | 20=>20 | 26=>88 | 36=>125 | 0=>0 | 38=>127 | 42=>131 | 3=>3 | 4=>4 | 47=>170 | 17=>17 | 33=>122 | 34=>123 | 89=>211 | 12=>12 | 56=>186 | 82=>204 | 5=>5 | 83=>205 | 84=>206 | 85=>207 | 86=>208 | 87=>209 | n=>n,fun | n=>n⟩
theorem Tryz.laysGt8:Go.Proofs.LaysGt.n8 Tryz.prog Tryz.laysGt8_ren:={
 mixed:=by kernel_rfl
 f8:=Tryz.func47.trans (congrArg some (by kernel_rfl))
 f13:=Tryz.func81.trans (congrArg some (by kernel_rfl))
 f14:=Tryz.func82.trans (congrArg some (by kernel_rfl))
 f15:=Tryz.func83.trans (congrArg some (by kernel_rfl))
 f16:=Tryz.func84.trans (congrArg some (by kernel_rfl))
 f29:=Tryz.func121.trans (congrArg some (by kernel_rfl))
 f30:=Tryz.func122.trans (congrArg some (by kernel_rfl))
 f42:=Tryz.func139.trans (congrArg some (by kernel_rfl))
 f49:=Tryz.func145.trans (congrArg some (by kernel_rfl))
 t0:=Tryz.underlying0
 a0:=Tryz.isAgg0
 z0:=Tryz.sizeOf0
 v0:=Tryz.zeroValue0
 i0:=by kernel_rfl
 t3:=Tryz.underlying3
 a3:=Tryz.isAgg3
 z3:=Tryz.sizeOf3
 v3:=Tryz.zeroValue3
 i3:=by kernel_rfl
 t4:=Tryz.underlying4
 a4:=Tryz.isAgg4
 z4:=Tryz.sizeOf4
 v4:=Tryz.zeroValue4
 i4:=by kernel_rfl
 t5:=Tryz.underlying5
 a5:=Tryz.isAgg5
 z5:=Tryz.sizeOf5
 v5:=Tryz.zeroValue5
 i5:=by kernel_rfl
 t12:=Tryz.underlying12
 a12:=Tryz.isAgg12
 z12:=Tryz.sizeOf12
 v12:=Tryz.zeroValue12
 i12:=by kernel_rfl
 t17:=Tryz.underlying17
 a17:=Tryz.isAgg17
 z17:=Tryz.sizeOf17
 v17:=Tryz.zeroValue17
 i17:=by kernel_rfl
 t20:=Tryz.underlying20
 a20:=Tryz.isAgg20
 z20:=Tryz.sizeOf20
 v20:=Tryz.zeroValue20
 i20:=by kernel_rfl
 t26:=Tryz.underlying88
 a26:=Tryz.isAgg88
 z26:=Tryz.sizeOf88
 v26:=Tryz.zeroValue88
 i26:=by kernel_rfl
 t33:=Tryz.underlying122
 a33:=Tryz.isAgg122
 z33:=Tryz.sizeOf122
 v33:=Tryz.zeroValue122
 i33:=by kernel_rfl
 t34:=Tryz.underlying123
 a34:=Tryz.isAgg123
 z34:=Tryz.sizeOf123
 v34:=Tryz.zeroValue123
 i34:=by kernel_rfl
 t36:=Tryz.underlying125
 a36:=Tryz.isAgg125
 z36:=Tryz.sizeOf125
 v36:=Tryz.zeroValue125
 i36:=by kernel_rfl
 t38:=Tryz.underlying127
 a38:=Tryz.isAgg127
 z38:=Tryz.sizeOf127
 v38:=Tryz.zeroValue127
 i38:=by kernel_rfl
 t42:=Tryz.underlying131
 a42:=Tryz.isAgg131
 z42:=Tryz.sizeOf131
 v42:=Tryz.zeroValue131
 i42:=by kernel_rfl
 t47:=Tryz.underlying170
 a47:=Tryz.isAgg170
 z47:=Tryz.sizeOf170
 v47:=Tryz.zeroValue170
 i47:=by kernel_rfl
 t56:=Tryz.underlying186
 a56:=Tryz.isAgg186
 z56:=Tryz.sizeOf186
 v56:=Tryz.zeroValue186
 i56:=by kernel_rfl
 t82:=Tryz.underlying204
 a82:=Tryz.isAgg204
 z82:=Tryz.sizeOf204
 v82:=Tryz.zeroValue204
 i82:=by kernel_rfl
 t83:=Tryz.underlying205
 a83:=Tryz.isAgg205
 z83:=Tryz.sizeOf205
 v83:=Tryz.zeroValue205
 i83:=by kernel_rfl
 t84:=Tryz.underlying206
 a84:=Tryz.isAgg206
 z84:=Tryz.sizeOf206
 v84:=Tryz.zeroValue206
 i84:=by kernel_rfl
 t85:=Tryz.underlying207
 a85:=Tryz.isAgg207
 z85:=Tryz.sizeOf207
 v85:=Tryz.zeroValue207
 i85:=by kernel_rfl
 t86:=Tryz.underlying208
 a86:=Tryz.isAgg208
 z86:=Tryz.sizeOf208
 v86:=Tryz.zeroValue208
 i86:=by kernel_rfl
 t87:=Tryz.underlying209
 a87:=Tryz.isAgg209
 z87:=Tryz.sizeOf209
 v87:=Tryz.zeroValue209
 i87:=by kernel_rfl
 t89:=Tryz.underlying211
 a89:=Tryz.isAgg211
 z89:=Tryz.sizeOf211
 v89:=Tryz.zeroValue211
 i89:=by kernel_rfl }
open Go.RowKit Go.Sort in
theorem Tryz.slices_Sort_int_none (p:Option Addr) (cap:Nat) (w:World) :
  Calls Tryz.prog 146 #[.slice p 0 cap] w fun e w'=>e=.returned (.tuple #[])∧w'=w:=Any.slices_Sort_int_none Tryz.lays189 p cap w
open Go.RowKit Go.Sort in
theorem Tryz.sort_Ints_none (p:Option Addr) (cap:Nat) (w:World) :
  Calls Tryz.prog 143 #[.slice p 0 cap] w fun e w'=>e=.returned (.tuple #[])∧w'=w:=Any.sort_Ints_none Tryz.lays191 p cap w
end Go.Proofs
