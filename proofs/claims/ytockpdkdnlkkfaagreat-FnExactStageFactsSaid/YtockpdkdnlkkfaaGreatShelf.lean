import Derived.Shelf.Small.Bits
import Derived.Shelf.Strconv.Itoa0
import Derived.Shelf.Sort.Plain
import Derived.Ground.GgsProg
import Derived.Shelf.GgSortFunc.Insertion
import Derived.Shelf.GgSortFunc.Tiny
import Derived.Shelf.GgSortFunc.Compose
import Derived.Ground.GgtProg
import Derived.Shelf.GgSortMore.Stable
import Derived.Shelf.Slices.In.SortNone
import Derived.Shelf.Slices.In.SortNone2
import Derived.Test.YtockpdkdnlkkfaaGreatProg
namespace Go.Proofs
open Go.Shelf
def Tryz.lays128_ren:Go.Shelf.Ren:=⟨fun | 128=>199 | n=>n,fun | 51=>210 | 3=>3 | 4=>4 | 46=>152 | 5=>5 | 9=>9 | n=>n,fun | n=>n⟩
theorem Tryz.lays128:Go.Proofs.Lays.n128 Tryz.prog Tryz.lays128_ren:={
 mixed:=by kernel_rfl
 f128:=Tryz.func199.trans (congrArg some (by kernel_rfl))
 t3:=Tryz.underlying3
 a3:=Tryz.isAgg3
 z3:=Tryz.sizeOf3
 v3:=Tryz.zeroValue3
 t4:=Tryz.underlying4
 a4:=Tryz.isAgg4
 z4:=Tryz.sizeOf4
 v4:=Tryz.zeroValue4
 t5:=Tryz.underlying5
 a5:=Tryz.isAgg5
 z5:=Tryz.sizeOf5
 v5:=Tryz.zeroValue5
 t9:=Tryz.underlying9
 a9:=Tryz.isAgg9
 z9:=Tryz.sizeOf9
 v9:=Tryz.zeroValue9
 t46:=Tryz.underlying152
 a46:=Tryz.isAgg152
 z46:=Tryz.sizeOf152
 v46:=Tryz.zeroValue152
 t51:=Tryz.underlying210
 a51:=Tryz.isAgg210
 z51:=Tryz.sizeOf210
 v51:=Tryz.zeroValue210 }
theorem Tryz.bits_Len32 (x:Int) (w:World) (h0:0≤x) (h1:x≤4294967295) :
  Calls Tryz.prog 199 #[.int .u32 x] w fun e w'=>e=.returned (.int .i64 (Lib.bitLen x.toNat))∧w'=w:=Any.bits_Len32 Tryz.lays128 x w h0 h1
def Tryz.lays125_ren:Go.Shelf.Ren:=⟨fun | 125=>189 | 128=>199 | 129=>200 | n=>n,fun | 46=>152 | 3=>3 | 51=>210 | 53=>212 | 4=>4 | 5=>5 | 9=>9 | n=>n,fun | n=>n⟩
theorem Tryz.lays125:Go.Proofs.Lays.n125 Tryz.prog Tryz.lays125_ren:={
 mixed:=by kernel_rfl
 f125:=Tryz.func189.trans (congrArg some (by kernel_rfl))
 f128:=Tryz.func199.trans (congrArg some (by kernel_rfl))
 f129:=Tryz.func200.trans (congrArg some (by kernel_rfl))
 t3:=Tryz.underlying3
 a3:=Tryz.isAgg3
 z3:=Tryz.sizeOf3
 v3:=Tryz.zeroValue3
 t4:=Tryz.underlying4
 a4:=Tryz.isAgg4
 z4:=Tryz.sizeOf4
 v4:=Tryz.zeroValue4
 t5:=Tryz.underlying5
 a5:=Tryz.isAgg5
 z5:=Tryz.sizeOf5
 v5:=Tryz.zeroValue5
 t9:=Tryz.underlying9
 a9:=Tryz.isAgg9
 z9:=Tryz.sizeOf9
 v9:=Tryz.zeroValue9
 t46:=Tryz.underlying152
 a46:=Tryz.isAgg152
 z46:=Tryz.sizeOf152
 v46:=Tryz.zeroValue152
 t51:=Tryz.underlying210
 a51:=Tryz.isAgg210
 z51:=Tryz.sizeOf210
 v51:=Tryz.zeroValue210
 t53:=Tryz.underlying212
 a53:=Tryz.isAgg212
 z53:=Tryz.sizeOf212
 v53:=Tryz.zeroValue212 }
theorem Tryz.bits_Len (x:Int) (w:World) (h0:0≤x) (h1:x≤18446744073709551615) :
  Calls Tryz.prog 189 #[.int .u64 x] w fun e w'=>e=.returned (.int .i64 (Lib.bitLen x.toNat))∧w'=w:=Any.bits_Len Tryz.lays125 x w h0 h1
def Tryz.lays129_ren:Go.Shelf.Ren:=⟨fun | 129=>200 | n=>n,fun | 53=>212 | 3=>3 | 4=>4 | 46=>152 | 5=>5 | 9=>9 | n=>n,fun | n=>n⟩
theorem Tryz.lays129:Go.Proofs.Lays.n129 Tryz.prog Tryz.lays129_ren:={
 mixed:=by kernel_rfl
 f129:=Tryz.func200.trans (congrArg some (by kernel_rfl))
 t3:=Tryz.underlying3
 a3:=Tryz.isAgg3
 z3:=Tryz.sizeOf3
 v3:=Tryz.zeroValue3
 t4:=Tryz.underlying4
 a4:=Tryz.isAgg4
 z4:=Tryz.sizeOf4
 v4:=Tryz.zeroValue4
 t5:=Tryz.underlying5
 a5:=Tryz.isAgg5
 z5:=Tryz.sizeOf5
 v5:=Tryz.zeroValue5
 t9:=Tryz.underlying9
 a9:=Tryz.isAgg9
 z9:=Tryz.sizeOf9
 v9:=Tryz.zeroValue9
 t46:=Tryz.underlying152
 a46:=Tryz.isAgg152
 z46:=Tryz.sizeOf152
 v46:=Tryz.zeroValue152
 t53:=Tryz.underlying212
 a53:=Tryz.isAgg212
 z53:=Tryz.sizeOf212
 v53:=Tryz.zeroValue212 }
theorem Tryz.bits_Len64 (x:Int) (w:World) (h0:0≤x) (h1:x≤18446744073709551615) :
  Calls Tryz.prog 200 #[.int .u64 x] w fun e w'=>e=.returned (.int .i64 (Lib.bitLen x.toNat))∧w'=w:=Any.bits_Len64 Tryz.lays129 x w h0 h1
def Tryz.lays189_ren:Go.Shelf.Ren:=⟨fun | 189=>187 | 125=>189 | 257=>188 | 128=>199 | 129=>200 | 294=>190 | 295=>191 | 296=>192 | 297=>193 | 298=>194 | 299=>195 | 216=>196 | 300=>197 | 301=>198 | 328=>201 | 329=>202 | 330=>203 | 331=>204 | 332=>205 | 215=>206 | 343=>207 | n=>n,fun | 28=>111 | 3=>3 | 46=>152 | 0=>0 | 51=>210 | 53=>212 | 4=>4 | 183=>203 | 182=>202 | 131=>207 | 5=>5 | 9=>9 | 218=>213 | 222=>217 | 228=>219 | 229=>220 | n=>n,fun | n=>n⟩
theorem Tryz.lays189:Go.Proofs.Lays.n189 Tryz.prog Tryz.lays189_ren:={
 mixed:=by kernel_rfl
 f125:=Tryz.func189.trans (congrArg some (by kernel_rfl))
 f128:=Tryz.func199.trans (congrArg some (by kernel_rfl))
 f129:=Tryz.func200.trans (congrArg some (by kernel_rfl))
 f189:=Tryz.func187.trans (congrArg some (by kernel_rfl))
 f215:=Tryz.func206.trans (congrArg some (by kernel_rfl))
 f216:=Tryz.func196.trans (congrArg some (by kernel_rfl))
 f257:=Tryz.func188.trans (congrArg some (by kernel_rfl))
 f294:=Tryz.func190.trans (congrArg some (by kernel_rfl))
 f295:=Tryz.func191.trans (congrArg some (by kernel_rfl))
 f296:=Tryz.func192.trans (congrArg some (by kernel_rfl))
 f297:=Tryz.func193.trans (congrArg some (by kernel_rfl))
 f298:=Tryz.func194.trans (congrArg some (by kernel_rfl))
 f299:=Tryz.func195.trans (congrArg some (by kernel_rfl))
 f300:=Tryz.func197.trans (congrArg some (by kernel_rfl))
 f301:=Tryz.func198.trans (congrArg some (by kernel_rfl))
 f328:=Tryz.func201.trans (congrArg some (by kernel_rfl))
 f329:=Tryz.func202.trans (congrArg some (by kernel_rfl))
 f330:=Tryz.func203.trans (congrArg some (by kernel_rfl))
 f331:=Tryz.func204.trans (congrArg some (by kernel_rfl))
 f332:=Tryz.func205.trans (congrArg some (by kernel_rfl))
 f343:=Tryz.func207.trans (congrArg some (by kernel_rfl))
 t0:=Tryz.underlying0
 a0:=Tryz.isAgg0
 z0:=Tryz.sizeOf0
 v0:=Tryz.zeroValue0
 t3:=Tryz.underlying3
 a3:=Tryz.isAgg3
 z3:=Tryz.sizeOf3
 v3:=Tryz.zeroValue3
 t4:=Tryz.underlying4
 a4:=Tryz.isAgg4
 z4:=Tryz.sizeOf4
 v4:=Tryz.zeroValue4
 t5:=Tryz.underlying5
 a5:=Tryz.isAgg5
 z5:=Tryz.sizeOf5
 v5:=Tryz.zeroValue5
 t9:=Tryz.underlying9
 a9:=Tryz.isAgg9
 z9:=Tryz.sizeOf9
 v9:=Tryz.zeroValue9
 t28:=Tryz.underlying111
 a28:=Tryz.isAgg111
 z28:=Tryz.sizeOf111
 v28:=Tryz.zeroValue111
 t46:=Tryz.underlying152
 a46:=Tryz.isAgg152
 z46:=Tryz.sizeOf152
 v46:=Tryz.zeroValue152
 t51:=Tryz.underlying210
 a51:=Tryz.isAgg210
 z51:=Tryz.sizeOf210
 v51:=Tryz.zeroValue210
 t53:=Tryz.underlying212
 a53:=Tryz.isAgg212
 z53:=Tryz.sizeOf212
 v53:=Tryz.zeroValue212
 t131:=Tryz.underlying207
 a131:=Tryz.isAgg207
 z131:=Tryz.sizeOf207
 v131:=Tryz.zeroValue207
 t182:=Tryz.underlying202
 a182:=Tryz.isAgg202
 z182:=Tryz.sizeOf202
 v182:=Tryz.zeroValue202
 t183:=Tryz.underlying203
 a183:=Tryz.isAgg203
 z183:=Tryz.sizeOf203
 v183:=Tryz.zeroValue203
 t218:=Tryz.underlying213
 a218:=Tryz.isAgg213
 z218:=Tryz.sizeOf213
 v218:=Tryz.zeroValue213
 t222:=Tryz.underlying217
 a222:=Tryz.isAgg217
 z222:=Tryz.sizeOf217
 v222:=Tryz.zeroValue217
 t228:=Tryz.underlying219
 a228:=Tryz.isAgg219
 z228:=Tryz.sizeOf219
 v228:=Tryz.zeroValue219
 t229:=Tryz.underlying220
 a229:=Tryz.isAgg220
 z229:=Tryz.sizeOf220
 v229:=Tryz.zeroValue220 }
open Go.Sort Go.RowKit in
theorem Tryz.slices_Sort_int (blk off cap:Nat) (zs:List Int) (w:World) (hH:Holds (Value.int .i64) w blk off zs.toArray) (hblk:blk<w.heap.size) (hsz:zs.length<4611686018427387904) :
  Calls Tryz.prog 187 #[.slice (some ⟨blk,off,none⟩) zs.length cap] w fun e w' =>
   e=.returned (.tuple #[])∧∃n os,w'=grow (putRow (Value.int .i64) (Sort.ahead w n) blk off (zs.mergeSort fun x y=>decide (x≤y)).toArray) os:=Any.slices_Sort_int Tryz.lays189 blk off cap zs w hH hblk hsz
def Tryz.lays191_ren:Go.Shelf.Ren:=⟨fun | 191=>183 | 189=>187 | 125=>189 | 257=>188 | 128=>199 | 129=>200 | 294=>190 | 295=>191 | 296=>192 | 297=>193 | 298=>194 | 299=>195 | 216=>196 | 300=>197 | 301=>198 | 328=>201 | 329=>202 | 330=>203 | 331=>204 | 332=>205 | 215=>206 | 343=>207 | n=>n,fun | 28=>111 | 0=>0 | 3=>3 | 46=>152 | 51=>210 | 53=>212 | 4=>4 | 183=>203 | 182=>202 | 131=>207 | 5=>5 | 9=>9 | 218=>213 | 222=>217 | 228=>219 | 229=>220 | n=>n,fun | n=>n⟩
theorem Tryz.lays191:Go.Proofs.Lays.n191 Tryz.prog Tryz.lays191_ren:={
 mixed:=by kernel_rfl
 f125:=Tryz.func189.trans (congrArg some (by kernel_rfl))
 f128:=Tryz.func199.trans (congrArg some (by kernel_rfl))
 f129:=Tryz.func200.trans (congrArg some (by kernel_rfl))
 f189:=Tryz.func187.trans (congrArg some (by kernel_rfl))
 f191:=Tryz.func183.trans (congrArg some (by kernel_rfl))
 f215:=Tryz.func206.trans (congrArg some (by kernel_rfl))
 f216:=Tryz.func196.trans (congrArg some (by kernel_rfl))
 f257:=Tryz.func188.trans (congrArg some (by kernel_rfl))
 f294:=Tryz.func190.trans (congrArg some (by kernel_rfl))
 f295:=Tryz.func191.trans (congrArg some (by kernel_rfl))
 f296:=Tryz.func192.trans (congrArg some (by kernel_rfl))
 f297:=Tryz.func193.trans (congrArg some (by kernel_rfl))
 f298:=Tryz.func194.trans (congrArg some (by kernel_rfl))
 f299:=Tryz.func195.trans (congrArg some (by kernel_rfl))
 f300:=Tryz.func197.trans (congrArg some (by kernel_rfl))
 f301:=Tryz.func198.trans (congrArg some (by kernel_rfl))
 f328:=Tryz.func201.trans (congrArg some (by kernel_rfl))
 f329:=Tryz.func202.trans (congrArg some (by kernel_rfl))
 f330:=Tryz.func203.trans (congrArg some (by kernel_rfl))
 f331:=Tryz.func204.trans (congrArg some (by kernel_rfl))
 f332:=Tryz.func205.trans (congrArg some (by kernel_rfl))
 f343:=Tryz.func207.trans (congrArg some (by kernel_rfl))
 t0:=Tryz.underlying0
 a0:=Tryz.isAgg0
 z0:=Tryz.sizeOf0
 v0:=Tryz.zeroValue0
 t3:=Tryz.underlying3
 a3:=Tryz.isAgg3
 z3:=Tryz.sizeOf3
 v3:=Tryz.zeroValue3
 t4:=Tryz.underlying4
 a4:=Tryz.isAgg4
 z4:=Tryz.sizeOf4
 v4:=Tryz.zeroValue4
 t5:=Tryz.underlying5
 a5:=Tryz.isAgg5
 z5:=Tryz.sizeOf5
 v5:=Tryz.zeroValue5
 t9:=Tryz.underlying9
 a9:=Tryz.isAgg9
 z9:=Tryz.sizeOf9
 v9:=Tryz.zeroValue9
 t28:=Tryz.underlying111
 a28:=Tryz.isAgg111
 z28:=Tryz.sizeOf111
 v28:=Tryz.zeroValue111
 t46:=Tryz.underlying152
 a46:=Tryz.isAgg152
 z46:=Tryz.sizeOf152
 v46:=Tryz.zeroValue152
 t51:=Tryz.underlying210
 a51:=Tryz.isAgg210
 z51:=Tryz.sizeOf210
 v51:=Tryz.zeroValue210
 t53:=Tryz.underlying212
 a53:=Tryz.isAgg212
 z53:=Tryz.sizeOf212
 v53:=Tryz.zeroValue212
 t131:=Tryz.underlying207
 a131:=Tryz.isAgg207
 z131:=Tryz.sizeOf207
 v131:=Tryz.zeroValue207
 t182:=Tryz.underlying202
 a182:=Tryz.isAgg202
 z182:=Tryz.sizeOf202
 v182:=Tryz.zeroValue202
 t183:=Tryz.underlying203
 a183:=Tryz.isAgg203
 z183:=Tryz.sizeOf203
 v183:=Tryz.zeroValue203
 t218:=Tryz.underlying213
 a218:=Tryz.isAgg213
 z218:=Tryz.sizeOf213
 v218:=Tryz.zeroValue213
 t222:=Tryz.underlying217
 a222:=Tryz.isAgg217
 z222:=Tryz.sizeOf217
 v222:=Tryz.zeroValue217
 t228:=Tryz.underlying219
 a228:=Tryz.isAgg219
 z228:=Tryz.sizeOf219
 v228:=Tryz.zeroValue219
 t229:=Tryz.underlying220
 a229:=Tryz.isAgg220
 z229:=Tryz.sizeOf220
 v229:=Tryz.zeroValue220 }
open Go.Sort Go.RowKit in
theorem Tryz.sort_Ints (blk off cap:Nat) (zs:List Int) (w:World) (hH:Holds (Value.int .i64) w blk off zs.toArray) (hblk:blk<w.heap.size) (hsz:zs.length<4611686018427387904) :
  Calls Tryz.prog 183 #[.slice (some ⟨blk,off,none⟩) zs.length cap] w fun e w' =>
   e=.returned (.tuple #[])∧∃n os,w'=grow (putRow (Value.int .i64) (Sort.ahead w n) blk off (zs.mergeSort fun x y=>decide (x≤y)).toArray) os:=Any.sort_Ints Tryz.lays191 blk off cap zs w hH hblk hsz
def Tryz.laysGg26_ren:Go.Shelf.Ren:=⟨fun | 26=>152 | n=>n,fun | 44=>150 | 3=>3 | 0=>0 | 4=>4 | 26=>105 | 37=>146 | n=>n,fun | n=>n⟩
theorem Tryz.laysGg26:Go.Proofs.LaysGg.n26 Tryz.prog Tryz.laysGg26_ren:={
 mixed:=by kernel_rfl
 f26:=Tryz.func152.trans (congrArg some (by kernel_rfl))
 t0:=Tryz.underlying0
 a0:=Tryz.isAgg0
 z0:=Tryz.sizeOf0
 v0:=Tryz.zeroValue0
 i0:=by kernel_rfl
 t3:=Tryz.underlying3
 a3:=Tryz.isAgg3
 z3:=Tryz.sizeOf3
 v3:=Tryz.zeroValue3
 i3:=by kernel_rfl
 t4:=Tryz.underlying4
 a4:=Tryz.isAgg4
 z4:=Tryz.sizeOf4
 v4:=Tryz.zeroValue4
 i4:=by kernel_rfl
 t26:=Tryz.underlying105
 a26:=Tryz.isAgg105
 z26:=Tryz.sizeOf105
 v26:=Tryz.zeroValue105
 i26:=by kernel_rfl
 t37:=Tryz.underlying146
 a37:=Tryz.isAgg146
 z37:=Tryz.sizeOf146
 v37:=Tryz.zeroValue146
 i37:=by kernel_rfl
 t44:=Tryz.underlying150
 a44:=Tryz.isAgg150
 z44:=Tryz.sizeOf150
 v44:=Tryz.zeroValue150
 i44:=by kernel_rfl }
open Go.RowKit Go.Lib Go.Sort in
theorem Tryz.insertionSort_func_one {α:Type} [Inhabited α] (enc:α→Value) (lt:α→α→Bool) (g:Nat) (lb:Array Value) (sf:Nat) (sb:Array Value) (blk off a b:Nat) (d:Array α) (w:World) (eg:∀args w,(callFunc g args).run Tryz.prog w=.ok (.enter g args) w) (hless:LessReads Tryz.prog g lb enc lt blk off d.size w) (hswap:SwapSwaps Tryz.prog sf sb enc blk off d.size) (hH:Holds enc w blk off d) (hblk:blk<w.heap.size) (hab:a≤b) (hb:b≤d.size) (hsz:d.size<4611686018427387904) :
  Calls Tryz.prog 152 #[.agg #[.func (.func g) #[] lb,.func (.func sf) #[] sb],.int .i64 a,.int .i64 b] w fun e w' =>
   e=.returned (.tuple #[])∧∃n,w'=putRow enc (Sort.ahead (w.alloc (.cells #[.func (.func g) #[] lb,.func (.func sf) #[] sb] 150)) n) blk off (Sort.insertionSort lt d a b):=Any.insertionSort_func_one Tryz.laysGg26 enc lt g lb sf sb blk off a b d w eg hless hswap hH hblk hab hb hsz
open Go.RowKit Go.Lib Go.Sort in
theorem Tryz.insertionSort_func_none (lf:Fn) (la lb:Array Value) (f:Nat) (sb:Array Value) (a b:Nat) (h:b≤a+1) (ha:a<4611686018427387904) (w:World) :
  Calls Tryz.prog 152 #[.agg #[.func lf la lb,.func (.func f) #[] sb],.int .i64 a,.int .i64 b] w fun e w'=>e=.returned (.tuple #[])∧w'=w.alloc (.cells #[.func lf la lb,.func (.func f) #[] sb] 150):=Any.insertionSort_func_none Tryz.laysGg26 lf la lb f sb a b h ha w
open Go.RowKit Go.Lib Go.Sort in
theorem Tryz.insertionSort_func_w {α:Type} [Inhabited α] (enc:α→Value) (lt:α→α→Bool) (g:Nat) (lb:Array Value) (sf:Nat) (sb:Array Value) (blk off a b:Nat) (d:Array α) (w:World) (eg:∀args w,(callFunc g args).run Tryz.prog w=.ok (.enter g args) w) (hless:LessReads Tryz.prog g lb enc lt blk off d.size w) (hswap:SwapSwaps Tryz.prog sf sb enc blk off d.size) (hH:Holds enc w blk off d) (hblk:blk<w.heap.size) (hab:a≤b) (hb:b≤d.size) (hsz:d.size<4611686018427387904) :
  Calls Tryz.prog 152 #[.agg #[.func (.func g) #[] lb,.func (.func sf) #[] sb],.int .i64 a,.int .i64 b] w fun e w'=>e=.returned (.tuple #[])∧∃n os,w'=sortWorld enc w blk off n (Sort.insertionSort lt d a b) os:=Any.insertionSort_func_w Tryz.laysGg26 enc lt g lb sf sb blk off a b d w eg hless hswap hH hblk hab hb hsz
def Tryz.laysGt15_ren:Go.Shelf.Ren:=⟨fun | 15=>110 | 29=>152 | 30=>153 | 42=>177 | 49=>185 | n=>n,fun | 42=>150 | 3=>3 | 0=>0 | 4=>4 | 26=>105 | 38=>146 | 47=>152 | n=>n,fun | n=>n⟩
theorem Tryz.laysGt15:Go.Proofs.LaysGt.n15 Tryz.prog Tryz.laysGt15_ren:={
 mixed:=by kernel_rfl
 f15:=Tryz.func110.trans (congrArg some (by kernel_rfl))
 f29:=Tryz.func152.trans (congrArg some (by kernel_rfl))
 f30:=Tryz.func153.trans (congrArg some (by kernel_rfl))
 f42:=Tryz.func177.trans (congrArg some (by kernel_rfl))
 f49:=Tryz.func185.trans (congrArg some (by kernel_rfl))
 t0:=Tryz.underlying0
 a0:=Tryz.isAgg0
 z0:=Tryz.sizeOf0
 v0:=Tryz.zeroValue0
 i0:=by kernel_rfl
 t3:=Tryz.underlying3
 a3:=Tryz.isAgg3
 z3:=Tryz.sizeOf3
 v3:=Tryz.zeroValue3
 i3:=by kernel_rfl
 t4:=Tryz.underlying4
 a4:=Tryz.isAgg4
 z4:=Tryz.sizeOf4
 v4:=Tryz.zeroValue4
 i4:=by kernel_rfl
 t26:=Tryz.underlying105
 a26:=Tryz.isAgg105
 z26:=Tryz.sizeOf105
 v26:=Tryz.zeroValue105
 i26:=by kernel_rfl
 t38:=Tryz.underlying146
 a38:=Tryz.isAgg146
 z38:=Tryz.sizeOf146
 v38:=Tryz.zeroValue146
 i38:=by kernel_rfl
 t42:=Tryz.underlying150
 a42:=Tryz.isAgg150
 z42:=Tryz.sizeOf150
 v42:=Tryz.zeroValue150
 i42:=by kernel_rfl
 t47:=Tryz.underlying152
 a47:=Tryz.isAgg152
 z47:=Tryz.sizeOf152
 v47:=Tryz.zeroValue152
 i47:=by kernel_rfl }
open Go.RowKit Go.Lib Go.Sort in
theorem Tryz.stable_func_under20 {α:Type} [Inhabited α] (enc:α→Value) (lt:α→α→Bool) (g:Nat) (lb:Array Value) (sf:Nat) (sb:Array Value) (blk off:Nat) (d:Array α) (W:World) (eg:∀args w,(callFunc g args).run Tryz.prog w=.ok (.enter g args) w) (hless:LessReads Tryz.prog g lb enc lt blk off d.size W) (hswap:SwapSwaps Tryz.prog sf sb enc blk off d.size) (hH:Holds enc W blk off d) (hblk:blk<W.heap.size) (h20:d.size<20) :
  Calls Tryz.prog 110 #[.agg #[.func (.func g) #[] lb,.func (.func sf) #[] sb],.int .i64 d.size] W fun e w'=>e=.returned (.tuple #[])∧∃n os,w'=sortWorld enc W blk off n (Sort.insertionSort lt d 0 d.size) os:=Any.stable_func_under20 Tryz.laysGt15 enc lt g lb sf sb blk off d W eg hless hswap hH hblk h20
open Go.RowKit Go.Lib Go.Sort in
theorem Tryz.stable_func_at20 {α:Type} [Inhabited α] (enc:α→Value) (lt:α→α→Bool) (g:Nat) (lb:Array Value) (sf:Nat) (sb:Array Value) (blk off:Nat) (d:Array α) (W:World) (eg:∀args w,(callFunc g args).run Tryz.prog w=.ok (.enter g args) w) (hless:LessReads Tryz.prog g lb enc lt blk off d.size W) (hswap:SwapSwaps Tryz.prog sf sb enc blk off d.size) (hH:Holds enc W blk off d) (hblk:blk<W.heap.size) (h20:d.size=20) :
  Calls Tryz.prog 110 #[.agg #[.func (.func g) #[] lb,.func (.func sf) #[] sb],.int .i64 d.size] W fun e w'=>e=.returned (.tuple #[])∧∃n os,w'=sortWorld enc W blk off n (Sort.insertionSort lt d 0 d.size) os:=Any.stable_func_at20 Tryz.laysGt15 enc lt g lb sf sb blk off d W eg hless hswap hH hblk h20
open Go.RowKit Go.Lib Go.Sort in
theorem Tryz.stable_func_small {α:Type} [Inhabited α] (enc:α→Value) (lt:α→α→Bool) (g:Nat) (lb:Array Value) (sf:Nat) (sb:Array Value) (blk off:Nat) (d:Array α) (W:World) (eg:∀args w,(callFunc g args).run Tryz.prog w=.ok (.enter g args) w) (hless:LessReads Tryz.prog g lb enc lt blk off d.size W) (hswap:SwapSwaps Tryz.prog sf sb enc blk off d.size) (hH:Holds enc W blk off d) (hblk:blk<W.heap.size) (h20:d.size≤20) :
  Calls Tryz.prog 110 #[.agg #[.func (.func g) #[] lb,.func (.func sf) #[] sb],.int .i64 d.size] W fun e w'=>e=.returned (.tuple #[])∧∃n os,w'=sortWorld enc W blk off n (Sort.insertionSort lt d 0 d.size) os:=Any.stable_func_small Tryz.laysGt15 enc lt g lb sf sb blk off d W eg hless hswap hH hblk h20
open Go.RowKit Go.Lib Go.Sort in
theorem Tryz.stable_func_tiny {α:Type} [Inhabited α] (lf:Fn) (la lb:Array Value) (f:Nat) (sb:Array Value) (n:Nat) (hn:n≤1) (W:World) :
  Calls Tryz.prog 110 #[.agg #[.func lf la lb,.func (.func f) #[] sb],.int .i64 n] W fun e w'=>e=.returned (.tuple #[])∧∃os,w'=grow W os:=Any.stable_func_tiny Tryz.laysGt15 lf la lb f sb n hn W
def Tryz.laysGt8_ren:Go.Shelf.Ren:=⟨fun | 8=>67 | 13=>108 | 14=>109 | 16=>111 | 15=>110 | 29=>152 | 30=>153 | 42=>177 | 49=>185 | n=>n,fun | 20=>20 | 26=>105 | 36=>144 | 0=>0 | 38=>146 | 42=>150 | 3=>3 | 4=>4 | 47=>152 | 17=>17 | 33=>141 | 34=>142 | 89=>235 | 12=>12 | 56=>210 | 82=>228 | 5=>5 | 83=>229 | 84=>230 | 85=>231 | 86=>232 | 87=>233 | n=>n,fun | n=>n⟩
theorem Tryz.laysGt8:Go.Proofs.LaysGt.n8 Tryz.prog Tryz.laysGt8_ren:={
 mixed:=by kernel_rfl
 f8:=Tryz.func67.trans (congrArg some (by kernel_rfl))
 f13:=Tryz.func108.trans (congrArg some (by kernel_rfl))
 f14:=Tryz.func109.trans (congrArg some (by kernel_rfl))
 f15:=Tryz.func110.trans (congrArg some (by kernel_rfl))
 f16:=Tryz.func111.trans (congrArg some (by kernel_rfl))
 f29:=Tryz.func152.trans (congrArg some (by kernel_rfl))
 f30:=Tryz.func153.trans (congrArg some (by kernel_rfl))
 f42:=Tryz.func177.trans (congrArg some (by kernel_rfl))
 f49:=Tryz.func185.trans (congrArg some (by kernel_rfl))
 t0:=Tryz.underlying0
 a0:=Tryz.isAgg0
 z0:=Tryz.sizeOf0
 v0:=Tryz.zeroValue0
 i0:=by kernel_rfl
 t3:=Tryz.underlying3
 a3:=Tryz.isAgg3
 z3:=Tryz.sizeOf3
 v3:=Tryz.zeroValue3
 i3:=by kernel_rfl
 t4:=Tryz.underlying4
 a4:=Tryz.isAgg4
 z4:=Tryz.sizeOf4
 v4:=Tryz.zeroValue4
 i4:=by kernel_rfl
 t5:=Tryz.underlying5
 a5:=Tryz.isAgg5
 z5:=Tryz.sizeOf5
 v5:=Tryz.zeroValue5
 i5:=by kernel_rfl
 t12:=Tryz.underlying12
 a12:=Tryz.isAgg12
 z12:=Tryz.sizeOf12
 v12:=Tryz.zeroValue12
 i12:=by kernel_rfl
 t17:=Tryz.underlying17
 a17:=Tryz.isAgg17
 z17:=Tryz.sizeOf17
 v17:=Tryz.zeroValue17
 i17:=by kernel_rfl
 t20:=Tryz.underlying20
 a20:=Tryz.isAgg20
 z20:=Tryz.sizeOf20
 v20:=Tryz.zeroValue20
 i20:=by kernel_rfl
 t26:=Tryz.underlying105
 a26:=Tryz.isAgg105
 z26:=Tryz.sizeOf105
 v26:=Tryz.zeroValue105
 i26:=by kernel_rfl
 t33:=Tryz.underlying141
 a33:=Tryz.isAgg141
 z33:=Tryz.sizeOf141
 v33:=Tryz.zeroValue141
 i33:=by kernel_rfl
 t34:=Tryz.underlying142
 a34:=Tryz.isAgg142
 z34:=Tryz.sizeOf142
 v34:=Tryz.zeroValue142
 i34:=by kernel_rfl
 t36:=Tryz.underlying144
 a36:=Tryz.isAgg144
 z36:=Tryz.sizeOf144
 v36:=Tryz.zeroValue144
 i36:=by kernel_rfl
 t38:=Tryz.underlying146
 a38:=Tryz.isAgg146
 z38:=Tryz.sizeOf146
 v38:=Tryz.zeroValue146
 i38:=by kernel_rfl
 t42:=Tryz.underlying150
 a42:=Tryz.isAgg150
 z42:=Tryz.sizeOf150
 v42:=Tryz.zeroValue150
 i42:=by kernel_rfl
 t47:=Tryz.underlying152
 a47:=Tryz.isAgg152
 z47:=Tryz.sizeOf152
 v47:=Tryz.zeroValue152
 i47:=by kernel_rfl
 t56:=Tryz.underlying210
 a56:=Tryz.isAgg210
 z56:=Tryz.sizeOf210
 v56:=Tryz.zeroValue210
 i56:=by kernel_rfl
 t82:=Tryz.underlying228
 a82:=Tryz.isAgg228
 z82:=Tryz.sizeOf228
 v82:=Tryz.zeroValue228
 i82:=by kernel_rfl
 t83:=Tryz.underlying229
 a83:=Tryz.isAgg229
 z83:=Tryz.sizeOf229
 v83:=Tryz.zeroValue229
 i83:=by kernel_rfl
 t84:=Tryz.underlying230
 a84:=Tryz.isAgg230
 z84:=Tryz.sizeOf230
 v84:=Tryz.zeroValue230
 i84:=by kernel_rfl
 t85:=Tryz.underlying231
 a85:=Tryz.isAgg231
 z85:=Tryz.sizeOf231
 v85:=Tryz.zeroValue231
 i85:=by kernel_rfl
 t86:=Tryz.underlying232
 a86:=Tryz.isAgg232
 z86:=Tryz.sizeOf232
 v86:=Tryz.zeroValue232
 i86:=by kernel_rfl
 t87:=Tryz.underlying233
 a87:=Tryz.isAgg233
 z87:=Tryz.sizeOf233
 v87:=Tryz.zeroValue233
 i87:=by kernel_rfl
 t89:=Tryz.underlying235
 a89:=Tryz.isAgg235
 z89:=Tryz.sizeOf235
 v89:=Tryz.zeroValue235
 i89:=by kernel_rfl }
open Go.RowKit Go.Sort in
theorem Tryz.slices_Sort_int_none (p:Option Addr) (cap:Nat) (w:World) :
  Calls Tryz.prog 187 #[.slice p 0 cap] w fun e w'=>e=.returned (.tuple #[])∧w'=w:=Any.slices_Sort_int_none Tryz.lays189 p cap w
open Go.RowKit Go.Sort in
theorem Tryz.sort_Ints_none (p:Option Addr) (cap:Nat) (w:World) :
  Calls Tryz.prog 183 #[.slice p 0 cap] w fun e w'=>e=.returned (.tuple #[])∧w'=w:=Any.sort_Ints_none Tryz.lays191 p cap w
end Go.Proofs
