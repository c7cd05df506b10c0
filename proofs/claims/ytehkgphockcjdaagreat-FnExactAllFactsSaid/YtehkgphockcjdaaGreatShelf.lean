import Derived.Shelf.Small.Bits
import Derived.Shelf.Small.Wraps
import Derived.Shelf.Strconv.Itoa0
import Derived.Shelf.Sort.Plain
import Derived.Ground.GgsProg
import Derived.Shelf.GgSortFunc.Insertion
import Derived.Shelf.GgSortFunc.Tiny
import Derived.Shelf.GgSortFunc.Compose
import Derived.Ground.GgtProg
import Derived.Shelf.GgSortMore.Stable
import Derived.Ground.Names2Prog
import Derived.Shelf.Slices.SearchI
import Derived.Shelf.Slices.In.SortNone
import Derived.Shelf.Slices.In.SortNone2
import Derived.Test.YtehkgphockcjdaaGreatProg
namespace Go.Proofs
open Go.Shelf
def Tryz.lays128_ren:Go.Shelf.Ren:=⟨fun | 128=>128 | n=>n,fun | 51=>153 | 3=>3 | 4=>4 | 46=>141 | 5=>5 | 9=>9 | n=>n,fun | n=>n⟩
theorem Tryz.lays128:Go.Proofs.Lays.n128 Tryz.prog Tryz.lays128_ren:={
 mixed:=by kernel_rfl
 f128:=Tryz.func128.trans (congrArg some (by kernel_rfl))
 t3:=Tryz.underlying3
 a3:=Tryz.isAgg3
 z3:=Tryz.sizeOf3
 v3:=Tryz.zeroValue3
 t4:=Tryz.underlying4
 a4:=Tryz.isAgg4
 z4:=Tryz.sizeOf4
 v4:=Tryz.zeroValue4
 t5:=Tryz.underlying5
 a5:=Tryz.isAgg5
 z5:=Tryz.sizeOf5
 v5:=Tryz.zeroValue5
 t9:=Tryz.underlying9
 a9:=Tryz.isAgg9
 z9:=Tryz.sizeOf9
 v9:=Tryz.zeroValue9
 t46:=Tryz.underlying141
 a46:=Tryz.isAgg141
 z46:=Tryz.sizeOf141
 v46:=Tryz.zeroValue141
 t51:=Tryz.underlying153
 a51:=Tryz.isAgg153
 z51:=Tryz.sizeOf153
 v51:=Tryz.zeroValue153 }
theorem Tryz.bits_Len32 (x:Int) (w:World) (h0:0≤x) (h1:x≤4294967295) :
  Calls Tryz.prog 128 #[.int .u32 x] w fun e w'=>e=.returned (.int .i64 (Lib.bitLen x.toNat))∧w'=w:=Any.bits_Len32 Tryz.lays128 x w h0 h1
def Tryz.lays125_ren:Go.Shelf.Ren:=⟨fun | 125=>118 | 128=>128 | 129=>129 | n=>n,fun | 46=>141 | 3=>3 | 51=>153 | 53=>155 | 4=>4 | 5=>5 | 9=>9 | n=>n,fun | n=>n⟩
theorem Tryz.lays125:Go.Proofs.Lays.n125 Tryz.prog Tryz.lays125_ren:={
 mixed:=by kernel_rfl
 f125:=Tryz.func118.trans (congrArg some (by kernel_rfl))
 f128:=Tryz.func128.trans (congrArg some (by kernel_rfl))
 f129:=Tryz.func129.trans (congrArg some (by kernel_rfl))
 t3:=Tryz.underlying3
 a3:=Tryz.isAgg3
 z3:=Tryz.sizeOf3
 v3:=Tryz.zeroValue3
 t4:=Tryz.underlying4
 a4:=Tryz.isAgg4
 z4:=Tryz.sizeOf4
 v4:=Tryz.zeroValue4
 t5:=Tryz.underlying5
 a5:=Tryz.isAgg5
 z5:=Tryz.sizeOf5
 v5:=Tryz.zeroValue5
 t9:=Tryz.underlying9
 a9:=Tryz.isAgg9
 z9:=Tryz.sizeOf9
 v9:=Tryz.zeroValue9
 t46:=Tryz.underlying141
 a46:=Tryz.isAgg141
 z46:=Tryz.sizeOf141
 v46:=Tryz.zeroValue141
 t51:=Tryz.underlying153
 a51:=Tryz.isAgg153
 z51:=Tryz.sizeOf153
 v51:=Tryz.zeroValue153
 t53:=Tryz.underlying155
 a53:=Tryz.isAgg155
 z53:=Tryz.sizeOf155
 v53:=Tryz.zeroValue155 }
theorem Tryz.bits_Len (x:Int) (w:World) (h0:0≤x) (h1:x≤18446744073709551615) :
  Calls Tryz.prog 118 #[.int .u64 x] w fun e w'=>e=.returned (.int .i64 (Lib.bitLen x.toNat))∧w'=w:=Any.bits_Len Tryz.lays125 x w h0 h1
def Tryz.lays215_ren:Go.Shelf.Ren:=⟨fun | 215=>135 | n=>n,fun | 3=>3 | 4=>4 | n=>n,fun | n=>n⟩
theorem Tryz.lays215:Go.Proofs.Lays.n215 Tryz.prog Tryz.lays215_ren:={
 mixed:=by kernel_rfl
 f215:=Tryz.func135.trans (congrArg some (by kernel_rfl))
 t3:=Tryz.underlying3
 a3:=Tryz.isAgg3
 z3:=Tryz.sizeOf3
 v3:=Tryz.zeroValue3
 t4:=Tryz.underlying4
 a4:=Tryz.isAgg4
 z4:=Tryz.sizeOf4
 v4:=Tryz.zeroValue4 }
open Go.RowKit in
theorem Tryz.cmp_isNaN_int (x:Int) (w:World) :
  Calls Tryz.prog 135 #[.int .i64 x] w fun e w'=>e=.returned (.bool false)∧w'=w:=Any.cmp_isNaN_int Tryz.lays215 x w
def Tryz.lays129_ren:Go.Shelf.Ren:=⟨fun | 129=>129 | n=>n,fun | 53=>155 | 3=>3 | 4=>4 | 46=>141 | 5=>5 | 9=>9 | n=>n,fun | n=>n⟩
theorem Tryz.lays129:Go.Proofs.Lays.n129 Tryz.prog Tryz.lays129_ren:={
 mixed:=by kernel_rfl
 f129:=Tryz.func129.trans (congrArg some (by kernel_rfl))
 t3:=Tryz.underlying3
 a3:=Tryz.isAgg3
 z3:=Tryz.sizeOf3
 v3:=Tryz.zeroValue3
 t4:=Tryz.underlying4
 a4:=Tryz.isAgg4
 z4:=Tryz.sizeOf4
 v4:=Tryz.zeroValue4
 t5:=Tryz.underlying5
 a5:=Tryz.isAgg5
 z5:=Tryz.sizeOf5
 v5:=Tryz.zeroValue5
 t9:=Tryz.underlying9
 a9:=Tryz.isAgg9
 z9:=Tryz.sizeOf9
 v9:=Tryz.zeroValue9
 t46:=Tryz.underlying141
 a46:=Tryz.isAgg141
 z46:=Tryz.sizeOf141
 v46:=Tryz.zeroValue141
 t53:=Tryz.underlying155
 a53:=Tryz.isAgg155
 z53:=Tryz.sizeOf155
 v53:=Tryz.zeroValue155 }
theorem Tryz.bits_Len64 (x:Int) (w:World) (h0:0≤x) (h1:x≤18446744073709551615) :
  Calls Tryz.prog 129 #[.int .u64 x] w fun e w'=>e=.returned (.int .i64 (Lib.bitLen x.toNat))∧w'=w:=Any.bits_Len64 Tryz.lays129 x w h0 h1
def Tryz.lays189_ren:Go.Shelf.Ren:=⟨fun | 189=>115 | 125=>118 | 257=>117 | 128=>128 | 129=>129 | 294=>119 | 295=>120 | 296=>121 | 297=>122 | 298=>123 | 299=>124 | 216=>125 | 300=>126 | 301=>127 | 328=>130 | 329=>131 | 330=>132 | 331=>133 | 332=>134 | 215=>135 | 343=>136 | n=>n,fun | 28=>60 | 3=>3 | 46=>141 | 0=>0 | 51=>153 | 53=>155 | 4=>4 | 183=>146 | 182=>145 | 131=>150 | 5=>5 | 9=>9 | 218=>156 | 222=>160 | 228=>163 | 229=>164 | n=>n,fun | n=>n⟩
theorem Tryz.lays189:Go.Proofs.Lays.n189 Tryz.prog Tryz.lays189_ren:={
 mixed:=by kernel_rfl
 f125:=Tryz.func118.trans (congrArg some (by kernel_rfl))
 f128:=Tryz.func128.trans (congrArg some (by kernel_rfl))
 f129:=Tryz.func129.trans (congrArg some (by kernel_rfl))
 f189:=Tryz.func115.trans (congrArg some (by kernel_rfl))
 f215:=Tryz.func135.trans (congrArg some (by kernel_rfl))
 f216:=Tryz.func125.trans (congrArg some (by kernel_rfl))
 f257:=Tryz.func117.trans (congrArg some (by kernel_rfl))
 f294:=Tryz.func119.trans (congrArg some (by kernel_rfl))
 f295:=Tryz.func120.trans (congrArg some (by kernel_rfl))
 f296:=Tryz.func121.trans (congrArg some (by kernel_rfl))
 f297:=Tryz.func122.trans (congrArg some (by kernel_rfl))
 f298:=Tryz.func123.trans (congrArg some (by kernel_rfl))
 f299:=Tryz.func124.trans (congrArg some (by kernel_rfl))
 f300:=Tryz.func126.trans (congrArg some (by kernel_rfl))
 f301:=Tryz.func127.trans (congrArg some (by kernel_rfl))
 f328:=Tryz.func130.trans (congrArg some (by kernel_rfl))
 f329:=Tryz.func131.trans (congrArg some (by kernel_rfl))
 f330:=Tryz.func132.trans (congrArg some (by kernel_rfl))
 f331:=Tryz.func133.trans (congrArg some (by kernel_rfl))
 f332:=Tryz.func134.trans (congrArg some (by kernel_rfl))
 f343:=Tryz.func136.trans (congrArg some (by kernel_rfl))
 t0:=Tryz.underlying0
 a0:=Tryz.isAgg0
 z0:=Tryz.sizeOf0
 v0:=Tryz.zeroValue0
 t3:=Tryz.underlying3
 a3:=Tryz.isAgg3
 z3:=Tryz.sizeOf3
 v3:=Tryz.zeroValue3
 t4:=Tryz.underlying4
 a4:=Tryz.isAgg4
 z4:=Tryz.sizeOf4
 v4:=Tryz.zeroValue4
 t5:=Tryz.underlying5
 a5:=Tryz.isAgg5
 z5:=Tryz.sizeOf5
 v5:=Tryz.zeroValue5
 t9:=Tryz.underlying9
 a9:=Tryz.isAgg9
 z9:=Tryz.sizeOf9
 v9:=Tryz.zeroValue9
 t28:=Tryz.underlying60
 a28:=Tryz.isAgg60
 z28:=Tryz.sizeOf60
 v28:=Tryz.zeroValue60
 t46:=Tryz.underlying141
 a46:=Tryz.isAgg141
 z46:=Tryz.sizeOf141
 v46:=Tryz.zeroValue141
 t51:=Tryz.underlying153
 a51:=Tryz.isAgg153
 z51:=Tryz.sizeOf153
 v51:=Tryz.zeroValue153
 t53:=Tryz.underlying155
 a53:=Tryz.isAgg155
 z53:=Tryz.sizeOf155
 v53:=Tryz.zeroValue155
 t131:=Tryz.underlying150
 a131:=Tryz.isAgg150
 z131:=Tryz.sizeOf150
 v131:=Tryz.zeroValue150
 t182:=Tryz.underlying145
 a182:=Tryz.isAgg145
 z182:=Tryz.sizeOf145
 v182:=Tryz.zeroValue145
 t183:=Tryz.underlying146
 a183:=Tryz.isAgg146
 z183:=Tryz.sizeOf146
 v183:=Tryz.zeroValue146
 t218:=Tryz.underlying156
 a218:=Tryz.isAgg156
 z218:=Tryz.sizeOf156
 v218:=Tryz.zeroValue156
 t222:=Tryz.underlying160
 a222:=Tryz.isAgg160
 z222:=Tryz.sizeOf160
 v222:=Tryz.zeroValue160
 t228:=Tryz.underlying163
 a228:=Tryz.isAgg163
 z228:=Tryz.sizeOf163
 v228:=Tryz.zeroValue163
 t229:=Tryz.underlying164
 a229:=Tryz.isAgg164
 z229:=Tryz.sizeOf164
 v229:=Tryz.zeroValue164 }
open Go.Sort Go.RowKit in
theorem Tryz.slices_Sort_int (blk off cap:Nat) (zs:List Int) (w:World) (hH:Holds (Value.int .i64) w blk off zs.toArray) (hblk:blk<w.heap.size) (hsz:zs.length<4611686018427387904) :
  Calls Tryz.prog 115 #[.slice (some ⟨blk,off,none⟩) zs.length cap] w fun e w' =>
   e=.returned (.tuple #[])∧∃n os,w'=grow (putRow (Value.int .i64) (Sort.ahead w n) blk off (zs.mergeSort fun x y=>decide (x≤y)).toArray) os:=Any.slices_Sort_int Tryz.lays189 blk off cap zs w hH hblk hsz
def Tryz.lays191_ren:Go.Shelf.Ren:=⟨fun | 191=>113 | 189=>115 | 125=>118 | 257=>117 | 128=>128 | 129=>129 | 294=>119 | 295=>120 | 296=>121 | 297=>122 | 298=>123 | 299=>124 | 216=>125 | 300=>126 | 301=>127 | 328=>130 | 329=>131 | 330=>132 | 331=>133 | 332=>134 | 215=>135 | 343=>136 | n=>n,fun | 28=>60 | 0=>0 | 3=>3 | 46=>141 | 51=>153 | 53=>155 | 4=>4 | 183=>146 | 182=>145 | 131=>150 | 5=>5 | 9=>9 | 218=>156 | 222=>160 | 228=>163 | 229=>164 | n=>n,fun | n=>n⟩
theorem Tryz.lays191:Go.Proofs.Lays.n191 Tryz.prog Tryz.lays191_ren:={
 mixed:=by kernel_rfl
 f125:=Tryz.func118.trans (congrArg some (by kernel_rfl))
 f128:=Tryz.func128.trans (congrArg some (by kernel_rfl))
 f129:=Tryz.func129.trans (congrArg some (by kernel_rfl))
 f189:=Tryz.func115.trans (congrArg some (by kernel_rfl))
 f191:=Tryz.func113.trans (congrArg some (by kernel_rfl))
 f215:=Tryz.func135.trans (congrArg some (by kernel_rfl))
 f216:=Tryz.func125.trans (congrArg some (by kernel_rfl))
 f257:=Tryz.func117.trans (congrArg some (by kernel_rfl))
 f294:=Tryz.func119.trans (congrArg some (by kernel_rfl))
 f295:=Tryz.func120.trans (congrArg some (by kernel_rfl))
 f296:=Tryz.func121.trans (congrArg some (by kernel_rfl))
 f297:=Tryz.func122.trans (congrArg some (by kernel_rfl))
 f298:=Tryz.func123.trans (congrArg some (by kernel_rfl))
 f299:=Tryz.func124.trans (congrArg some (by kernel_rfl))
 f300:=Tryz.func126.trans (congrArg some (by kernel_rfl))
 f301:=Tryz.func127.trans (congrArg some (by kernel_rfl))
 f328:=Tryz.func130.trans (congrArg some (by kernel_rfl))
 f329:=Tryz.func131.trans (congrArg some (by kernel_rfl))
 f330:=Tryz.func132.trans (congrArg some (by kernel_rfl))
 f331:=Tryz.func133.trans (congrArg some (by kernel_rfl))
 f332:=Tryz.func134.trans (congrArg some (by kernel_rfl))
 f343:=Tryz.func136.trans (congrArg some (by kernel_rfl))
 t0:=Tryz.underlying0
 a0:=Tryz.isAgg0
 z0:=Tryz.sizeOf0
 v0:=Tryz.zeroValue0
 t3:=Tryz.underlying3
 a3:=Tryz.isAgg3
 z3:=Tryz.sizeOf3
 v3:=Tryz.zeroValue3
 t4:=Tryz.underlying4
 a4:=Tryz.isAgg4
 z4:=Tryz.sizeOf4
 v4:=Tryz.zeroValue4
 t5:=Tryz.underlying5
 a5:=Tryz.isAgg5
 z5:=Tryz.sizeOf5
 v5:=Tryz.zeroValue5
 t9:=Tryz.underlying9
 a9:=Tryz.isAgg9
 z9:=Tryz.sizeOf9
 v9:=Tryz.zeroValue9
 t28:=Tryz.underlying60
 a28:=Tryz.isAgg60
 z28:=Tryz.sizeOf60
 v28:=Tryz.zeroValue60
 t46:=Tryz.underlying141
 a46:=Tryz.isAgg141
 z46:=Tryz.sizeOf141
 v46:=Tryz.zeroValue141
 t51:=Tryz.underlying153
 a51:=Tryz.isAgg153
 z51:=Tryz.sizeOf153
 v51:=Tryz.zeroValue153
 t53:=Tryz.underlying155
 a53:=Tryz.isAgg155
 z53:=Tryz.sizeOf155
 v53:=Tryz.zeroValue155
 t131:=Tryz.underlying150
 a131:=Tryz.isAgg150
 z131:=Tryz.sizeOf150
 v131:=Tryz.zeroValue150
 t182:=Tryz.underlying145
 a182:=Tryz.isAgg145
 z182:=Tryz.sizeOf145
 v182:=Tryz.zeroValue145
 t183:=Tryz.underlying146
 a183:=Tryz.isAgg146
 z183:=Tryz.sizeOf146
 v183:=Tryz.zeroValue146
 t218:=Tryz.underlying156
 a218:=Tryz.isAgg156
 z218:=Tryz.sizeOf156
 v218:=Tryz.zeroValue156
 t222:=Tryz.underlying160
 a222:=Tryz.isAgg160
 z222:=Tryz.sizeOf160
 v222:=Tryz.zeroValue160
 t228:=Tryz.underlying163
 a228:=Tryz.isAgg163
 z228:=Tryz.sizeOf163
 v228:=Tryz.zeroValue163
 t229:=Tryz.underlying164
 a229:=Tryz.isAgg164
 z229:=Tryz.sizeOf164
 v229:=Tryz.zeroValue164 }
open Go.Sort Go.RowKit in
theorem Tryz.sort_Ints (blk off cap:Nat) (zs:List Int) (w:World) (hH:Holds (Value.int .i64) w blk off zs.toArray) (hblk:blk<w.heap.size) (hsz:zs.length<4611686018427387904) :
  Calls Tryz.prog 113 #[.slice (some ⟨blk,off,none⟩) zs.length cap] w fun e w' =>
   e=.returned (.tuple #[])∧∃n os,w'=grow (putRow (Value.int .i64) (Sort.ahead w n) blk off (zs.mergeSort fun x y=>decide (x≤y)).toArray) os:=Any.sort_Ints Tryz.lays191 blk off cap zs w hH hblk hsz
def Tryz.laysGg26_ren:Go.Shelf.Ren:=⟨fun | 26=>109 | n=>n,fun | 44=>123 | 3=>3 | 0=>0 | 4=>4 | 26=>97 | 37=>119 | n=>n,fun | n=>n⟩
theorem Tryz.laysGg26:Go.Proofs.LaysGg.n26 Tryz.prog Tryz.laysGg26_ren:={
 mixed:=by kernel_rfl
 f26:=Tryz.func109.trans (congrArg some (by kernel_rfl))
 t0:=Tryz.underlying0
 a0:=Tryz.isAgg0
 z0:=Tryz.sizeOf0
 v0:=Tryz.zeroValue0
 i0:=by kernel_rfl
 t3:=Tryz.underlying3
 a3:=Tryz.isAgg3
 z3:=Tryz.sizeOf3
 v3:=Tryz.zeroValue3
 i3:=by kernel_rfl
 t4:=Tryz.underlying4
 a4:=Tryz.isAgg4
 z4:=Tryz.sizeOf4
 v4:=Tryz.zeroValue4
 i4:=by kernel_rfl
 t26:=Tryz.underlying97
 a26:=Tryz.isAgg97
 z26:=Tryz.sizeOf97
 v26:=Tryz.zeroValue97
 i26:=by kernel_rfl
 t37:=Tryz.underlying119
 a37:=Tryz.isAgg119
 z37:=Tryz.sizeOf119
 v37:=Tryz.zeroValue119
 i37:=by kernel_rfl
 t44:=Tryz.underlying123
 a44:=Tryz.isAgg123
 z44:=Tryz.sizeOf123
 v44:=Tryz.zeroValue123
 i44:=by kernel_rfl }
open Go.RowKit Go.Lib Go.Sort in
theorem Tryz.insertionSort_func_one {α:Type} [Inhabited α] (enc:α→Value) (lt:α→α→Bool) (g:Nat) (lb:Array Value) (sf:Nat) (sb:Array Value) (blk off a b:Nat) (d:Array α) (w:World) (eg:∀args w,(callFunc g args).run Tryz.prog w=.ok (.enter g args) w) (hless:LessReads Tryz.prog g lb enc lt blk off d.size w) (hswap:SwapSwaps Tryz.prog sf sb enc blk off d.size) (hH:Holds enc w blk off d) (hblk:blk<w.heap.size) (hab:a≤b) (hb:b≤d.size) (hsz:d.size<4611686018427387904) :
  Calls Tryz.prog 109 #[.agg #[.func (.func g) #[] lb,.func (.func sf) #[] sb],.int .i64 a,.int .i64 b] w fun e w' =>
   e=.returned (.tuple #[])∧∃n,w'=putRow enc (Sort.ahead (w.alloc (.cells #[.func (.func g) #[] lb,.func (.func sf) #[] sb] 123)) n) blk off (Sort.insertionSort lt d a b):=Any.insertionSort_func_one Tryz.laysGg26 enc lt g lb sf sb blk off a b d w eg hless hswap hH hblk hab hb hsz
open Go.RowKit Go.Lib Go.Sort in
theorem Tryz.insertionSort_func_none (lf:Fn) (la lb:Array Value) (f:Nat) (sb:Array Value) (a b:Nat) (h:b≤a+1) (ha:a<4611686018427387904) (w:World) :
  Calls Tryz.prog 109 #[.agg #[.func lf la lb,.func (.func f) #[] sb],.int .i64 a,.int .i64 b] w fun e w'=>e=.returned (.tuple #[])∧w'=w.alloc (.cells #[.func lf la lb,.func (.func f) #[] sb] 123):=Any.insertionSort_func_none Tryz.laysGg26 lf la lb f sb a b h ha w
open Go.RowKit Go.Lib Go.Sort in
theorem Tryz.insertionSort_func_w {α:Type} [Inhabited α] (enc:α→Value) (lt:α→α→Bool) (g:Nat) (lb:Array Value) (sf:Nat) (sb:Array Value) (blk off a b:Nat) (d:Array α) (w:World) (eg:∀args w,(callFunc g args).run Tryz.prog w=.ok (.enter g args) w) (hless:LessReads Tryz.prog g lb enc lt blk off d.size w) (hswap:SwapSwaps Tryz.prog sf sb enc blk off d.size) (hH:Holds enc w blk off d) (hblk:blk<w.heap.size) (hab:a≤b) (hb:b≤d.size) (hsz:d.size<4611686018427387904) :
  Calls Tryz.prog 109 #[.agg #[.func (.func g) #[] lb,.func (.func sf) #[] sb],.int .i64 a,.int .i64 b] w fun e w'=>e=.returned (.tuple #[])∧∃n os,w'=sortWorld enc w blk off n (Sort.insertionSort lt d a b) os:=Any.insertionSort_func_w Tryz.laysGg26 enc lt g lb sf sb blk off a b d w eg hless hswap hH hblk hab hb hsz
def Tryz.laysGt15_ren:Go.Shelf.Ren:=⟨fun | 15=>84 | 29=>109 | 30=>110 | 42=>114 | 49=>116 | n=>n,fun | 42=>123 | 3=>3 | 0=>0 | 4=>4 | 26=>97 | 38=>119 | 47=>141 | n=>n,fun | n=>n⟩
theorem Tryz.laysGt15:Go.Proofs.LaysGt.n15 Tryz.prog Tryz.laysGt15_ren:={
 mixed:=by kernel_rfl
 f15:=Tryz.func84.trans (congrArg some (by kernel_rfl))
 f29:=Tryz.func109.trans (congrArg some (by kernel_rfl))
 f30:=Tryz.func110.trans (congrArg some (by kernel_rfl))
 f42:=Tryz.func114.trans (congrArg some (by kernel_rfl))
 f49:=Tryz.func116.trans (congrArg some (by kernel_rfl))
 t0:=Tryz.underlying0
 a0:=Tryz.isAgg0
 z0:=Tryz.sizeOf0
 v0:=Tryz.zeroValue0
 i0:=by kernel_rfl
 t3:=Tryz.underlying3
 a3:=Tryz.isAgg3
 z3:=Tryz.sizeOf3
 v3:=Tryz.zeroValue3
 i3:=by kernel_rfl
 t4:=Tryz.underlying4
 a4:=Tryz.isAgg4
 z4:=Tryz.sizeOf4
 v4:=Tryz.zeroValue4
 i4:=by kernel_rfl
 t26:=Tryz.underlying97
 a26:=Tryz.isAgg97
 z26:=Tryz.sizeOf97
 v26:=Tryz.zeroValue97
 i26:=by kernel_rfl
 t38:=Tryz.underlying119
 a38:=Tryz.isAgg119
 z38:=Tryz.sizeOf119
 v38:=Tryz.zeroValue119
 i38:=by kernel_rfl
 t42:=Tryz.underlying123
 a42:=Tryz.isAgg123
 z42:=Tryz.sizeOf123
 v42:=Tryz.zeroValue123
 i42:=by kernel_rfl
 t47:=Tryz.underlying141
 a47:=Tryz.isAgg141
 z47:=Tryz.sizeOf141
 v47:=Tryz.zeroValue141
 i47:=by kernel_rfl }
open Go.RowKit Go.Lib Go.Sort in
theorem Tryz.stable_func_under20 {α:Type} [Inhabited α] (enc:α→Value) (lt:α→α→Bool) (g:Nat) (lb:Array Value) (sf:Nat) (sb:Array Value) (blk off:Nat) (d:Array α) (W:World) (eg:∀args w,(callFunc g args).run Tryz.prog w=.ok (.enter g args) w) (hless:LessReads Tryz.prog g lb enc lt blk off d.size W) (hswap:SwapSwaps Tryz.prog sf sb enc blk off d.size) (hH:Holds enc W blk off d) (hblk:blk<W.heap.size) (h20:d.size<20) :
  Calls Tryz.prog 84 #[.agg #[.func (.func g) #[] lb,.func (.func sf) #[] sb],.int .i64 d.size] W fun e w'=>e=.returned (.tuple #[])∧∃n os,w'=sortWorld enc W blk off n (Sort.insertionSort lt d 0 d.size) os:=Any.stable_func_under20 Tryz.laysGt15 enc lt g lb sf sb blk off d W eg hless hswap hH hblk h20
open Go.RowKit Go.Lib Go.Sort in
theorem Tryz.stable_func_at20 {α:Type} [Inhabited α] (enc:α→Value) (lt:α→α→Bool) (g:Nat) (lb:Array Value) (sf:Nat) (sb:Array Value) (blk off:Nat) (d:Array α) (W:World) (eg:∀args w,(callFunc g args).run Tryz.prog w=.ok (.enter g args) w) (hless:LessReads Tryz.prog g lb enc lt blk off d.size W) (hswap:SwapSwaps Tryz.prog sf sb enc blk off d.size) (hH:Holds enc W blk off d) (hblk:blk<W.heap.size) (h20:d.size=20) :
  Calls Tryz.prog 84 #[.agg #[.func (.func g) #[] lb,.func (.func sf) #[] sb],.int .i64 d.size] W fun e w'=>e=.returned (.tuple #[])∧∃n os,w'=sortWorld enc W blk off n (Sort.insertionSort lt d 0 d.size) os:=Any.stable_func_at20 Tryz.laysGt15 enc lt g lb sf sb blk off d W eg hless hswap hH hblk h20
open Go.RowKit Go.Lib Go.Sort in
theorem Tryz.stable_func_small {α:Type} [Inhabited α] (enc:α→Value) (lt:α→α→Bool) (g:Nat) (lb:Array Value) (sf:Nat) (sb:Array Value) (blk off:Nat) (d:Array α) (W:World) (eg:∀args w,(callFunc g args).run Tryz.prog w=.ok (.enter g args) w) (hless:LessReads Tryz.prog g lb enc lt blk off d.size W) (hswap:SwapSwaps Tryz.prog sf sb enc blk off d.size) (hH:Holds enc W blk off d) (hblk:blk<W.heap.size) (h20:d.size≤20) :
  Calls Tryz.prog 84 #[.agg #[.func (.func g) #[] lb,.func (.func sf) #[] sb],.int .i64 d.size] W fun e w'=>e=.returned (.tuple #[])∧∃n os,w'=sortWorld enc W blk off n (Sort.insertionSort lt d 0 d.size) os:=Any.stable_func_small Tryz.laysGt15 enc lt g lb sf sb blk off d W eg hless hswap hH hblk h20
open Go.RowKit Go.Lib Go.Sort in
theorem Tryz.stable_func_tiny {α:Type} [Inhabited α] (lf:Fn) (la lb:Array Value) (f:Nat) (sb:Array Value) (n:Nat) (hn:n≤1) (W:World) :
  Calls Tryz.prog 84 #[.agg #[.func lf la lb,.func (.func f) #[] sb],.int .i64 n] W fun e w'=>e=.returned (.tuple #[])∧∃os,w'=grow W os:=Any.stable_func_tiny Tryz.laysGt15 lf la lb f sb n hn W
def Tryz.laysGt8_ren:Go.Shelf.Ren:=⟨fun | 8=>57 | 13=>82 | 14=>83 | 16=>85 | 15=>84 | 29=>109 | 30=>110 | 42=>114 | 49=>116 | n=>n,fun | 20=>20 | 26=>97 | 36=>117 | 0=>0 | 38=>119 | 42=>123 | 3=>3 | 4=>4 | 47=>141 | 17=>17 | 33=>114 | 34=>115 | 89=>179 | 12=>12 | 56=>153 | 82=>172 | 5=>5 | 83=>173 | 84=>174 | 85=>175 | 86=>176 | 87=>177 | n=>n,fun | n=>n⟩
theorem Tryz.laysGt8:Go.Proofs.LaysGt.n8 Tryz.prog Tryz.laysGt8_ren:={
 mixed:=by kernel_rfl
 f8:=Tryz.func57.trans (congrArg some (by kernel_rfl))
 f13:=Tryz.func82.trans (congrArg some (by kernel_rfl))
 f14:=Tryz.func83.trans (congrArg some (by kernel_rfl))
 f15:=Tryz.func84.trans (congrArg some (by kernel_rfl))
 f16:=Tryz.func85.trans (congrArg some (by kernel_rfl))
 f29:=Tryz.func109.trans (congrArg some (by kernel_rfl))
 f30:=Tryz.func110.trans (congrArg some (by kernel_rfl))
 f42:=Tryz.func114.trans (congrArg some (by kernel_rfl))
 f49:=Tryz.func116.trans (congrArg some (by kernel_rfl))
 t0:=Tryz.underlying0
 a0:=Tryz.isAgg0
 z0:=Tryz.sizeOf0
 v0:=Tryz.zeroValue0
 i0:=by kernel_rfl
 t3:=Tryz.underlying3
 a3:=Tryz.isAgg3
 z3:=Tryz.sizeOf3
 v3:=Tryz.zeroValue3
 i3:=by kernel_rfl
 t4:=Tryz.underlying4
 a4:=Tryz.isAgg4
 z4:=Tryz.sizeOf4
 v4:=Tryz.zeroValue4
 i4:=by kernel_rfl
 t5:=Tryz.underlying5
 a5:=Tryz.isAgg5
 z5:=Tryz.sizeOf5
 v5:=Tryz.zeroValue5
 i5:=by kernel_rfl
 t12:=Tryz.underlying12
 a12:=Tryz.isAgg12
 z12:=Tryz.sizeOf12
 v12:=Tryz.zeroValue12
 i12:=by kernel_rfl
 t17:=Tryz.underlying17
 a17:=Tryz.isAgg17
 z17:=Tryz.sizeOf17
 v17:=Tryz.zeroValue17
 i17:=by kernel_rfl
 t20:=Tryz.underlying20
 a20:=Tryz.isAgg20
 z20:=Tryz.sizeOf20
 v20:=Tryz.zeroValue20
 i20:=by kernel_rfl
 t26:=Tryz.underlying97
 a26:=Tryz.isAgg97
 z26:=Tryz.sizeOf97
 v26:=Tryz.zeroValue97
 i26:=by kernel_rfl
 t33:=Tryz.underlying114
 a33:=Tryz.isAgg114
 z33:=Tryz.sizeOf114
 v33:=Tryz.zeroValue114
 i33:=by kernel_rfl
 t34:=Tryz.underlying115
 a34:=Tryz.isAgg115
 z34:=Tryz.sizeOf115
 v34:=Tryz.zeroValue115
 i34:=by kernel_rfl
 t36:=Tryz.underlying117
 a36:=Tryz.isAgg117
 z36:=Tryz.sizeOf117
 v36:=Tryz.zeroValue117
 i36:=by kernel_rfl
 t38:=Tryz.underlying119
 a38:=Tryz.isAgg119
 z38:=Tryz.sizeOf119
 v38:=Tryz.zeroValue119
 i38:=by kernel_rfl
 t42:=Tryz.underlying123
 a42:=Tryz.isAgg123
 z42:=Tryz.sizeOf123
 v42:=Tryz.zeroValue123
 i42:=by kernel_rfl
 t47:=Tryz.underlying141
 a47:=Tryz.isAgg141
 z47:=Tryz.sizeOf141
 v47:=Tryz.zeroValue141
 i47:=by kernel_rfl
 t56:=Tryz.underlying153
 a56:=Tryz.isAgg153
 z56:=Tryz.sizeOf153
 v56:=Tryz.zeroValue153
 i56:=by kernel_rfl
 t82:=Tryz.underlying172
 a82:=Tryz.isAgg172
 z82:=Tryz.sizeOf172
 v82:=Tryz.zeroValue172
 i82:=by kernel_rfl
 t83:=Tryz.underlying173
 a83:=Tryz.isAgg173
 z83:=Tryz.sizeOf173
 v83:=Tryz.zeroValue173
 i83:=by kernel_rfl
 t84:=Tryz.underlying174
 a84:=Tryz.isAgg174
 z84:=Tryz.sizeOf174
 v84:=Tryz.zeroValue174
 i84:=by kernel_rfl
 t85:=Tryz.underlying175
 a85:=Tryz.isAgg175
 z85:=Tryz.sizeOf175
 v85:=Tryz.zeroValue175
 i85:=by kernel_rfl
 t86:=Tryz.underlying176
 a86:=Tryz.isAgg176
 z86:=Tryz.sizeOf176
 v86:=Tryz.zeroValue176
 i86:=by kernel_rfl
 t87:=Tryz.underlying177
 a87:=Tryz.isAgg177
 z87:=Tryz.sizeOf177
 v87:=Tryz.zeroValue177
 i87:=by kernel_rfl
 t89:=Tryz.underlying179
 a89:=Tryz.isAgg179
 z89:=Tryz.sizeOf179
 v89:=Tryz.zeroValue179
 i89:=by kernel_rfl }
def Tryz.laysNm237_ren:Go.Shelf.Ren:=⟨fun | 37=>135 | n=>n,fun | 3=>3 | 4=>4 | n=>n,fun | n=>n⟩
theorem Tryz.laysNm237:Go.Proofs.Lays2.n37 Tryz.prog Tryz.laysNm237_ren:={
 mixed:=by kernel_rfl
 f37:=Tryz.func135.trans (congrArg some (by kernel_rfl))
 t3:=Tryz.underlying3
 a3:=Tryz.isAgg3
 z3:=Tryz.sizeOf3
 v3:=Tryz.zeroValue3
 t4:=Tryz.underlying4
 a4:=Tryz.isAgg4
 z4:=Tryz.sizeOf4
 v4:=Tryz.zeroValue4 }
open Go.RowKit Go.Lib in
theorem Tryz.cmp_isNaN_int2 (x:Int) (w:World) :
  Calls Tryz.prog 135 #[.int .i64 x] w fun e w'=>e=.returned (.bool false)∧w'=w:=Any.cmp_isNaN_int2 Tryz.laysNm237 x w
def Tryz.laysNm231_ren:Go.Shelf.Ren:=⟨fun | 31=>125 | 37=>135 | n=>n,fun | 3=>3 | 4=>4 | n=>n,fun | n=>n⟩
theorem Tryz.laysNm231:Go.Proofs.Lays2.n31 Tryz.prog Tryz.laysNm231_ren:={
 mixed:=by kernel_rfl
 f31:=Tryz.func125.trans (congrArg some (by kernel_rfl))
 f37:=Tryz.func135.trans (congrArg some (by kernel_rfl))
 t3:=Tryz.underlying3
 a3:=Tryz.isAgg3
 z3:=Tryz.sizeOf3
 v3:=Tryz.zeroValue3
 t4:=Tryz.underlying4
 a4:=Tryz.isAgg4
 z4:=Tryz.sizeOf4
 v4:=Tryz.zeroValue4 }
open Go.RowKit Go.Lib in
theorem Tryz.cmp_Less_int2 (x y:Int) (w:World) :
  Calls Tryz.prog 125 #[.int .i64 x,.int .i64 y] w fun e w'=>e=.returned (.bool (decide (x<y)))∧w'=w:=Any.cmp_Less_int2 Tryz.laysNm231 x y w
open Go.RowKit Go.Sort in
theorem Tryz.slices_Sort_int_none (p:Option Addr) (cap:Nat) (w:World) :
  Calls Tryz.prog 115 #[.slice p 0 cap] w fun e w'=>e=.returned (.tuple #[])∧w'=w:=Any.slices_Sort_int_none Tryz.lays189 p cap w
open Go.RowKit Go.Sort in
theorem Tryz.sort_Ints_none (p:Option Addr) (cap:Nat) (w:World) :
  Calls Tryz.prog 113 #[.slice p 0 cap] w fun e w'=>e=.returned (.tuple #[])∧w'=w:=Any.sort_Ints_none Tryz.lays191 p cap w
end Go.Proofs
