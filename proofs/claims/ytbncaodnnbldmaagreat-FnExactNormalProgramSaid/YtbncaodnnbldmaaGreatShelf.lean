import Derived.Shelf.Strconv.Itoa0
import Derived.Shelf.Sort.Plain
import Derived.Shelf.Slices.In.SortNone
import Derived.Shelf.Slices.In.SortNone2
import Derived.Test.YtbncaodnnbldmaaGreatProg
namespace Go.Proofs
open Go.Shelf
def Tryz.lays129_ren : Go.Shelf.Ren := ⟨fun | 129 => 205 | n => n, fun | 53 => 229 | 3 => 3 | 4 => 4 | 46 => 216 | 5 => 5 | 9 => 9 | n => n, fun | n => n⟩
theorem Tryz.lays129 : Go.Proofs.Lays.n129 Tryz.prog Tryz.lays129_ren := {
 mixed := by kernel_rfl
 f129 := Tryz.func205.trans (congrArg some (by kernel_rfl))
 t3 := Tryz.underlying3
 a3 := Tryz.isAgg3
 z3 := Tryz.sizeOf3
 v3 := Tryz.zeroValue3
 t4 := Tryz.underlying4
 a4 := Tryz.isAgg4
 z4 := Tryz.sizeOf4
 v4 := Tryz.zeroValue4
 t5 := Tryz.underlying5
 a5 := Tryz.isAgg5
 z5 := Tryz.sizeOf5
 v5 := Tryz.zeroValue5
 t9 := Tryz.underlying9
 a9 := Tryz.isAgg9
 z9 := Tryz.sizeOf9
 v9 := Tryz.zeroValue9
 t46 := Tryz.underlying216
 a46 := Tryz.isAgg216
 z46 := Tryz.sizeOf216
 v46 := Tryz.zeroValue216
 t53 := Tryz.underlying229
 a53 := Tryz.isAgg229
 z53 := Tryz.sizeOf229
 v53 := Tryz.zeroValue229 }
theorem Tryz.bits_Len64 (x : Int) (w : World) (h0 : 0 ≤ x) (h1 : x ≤ 18446744073709551615) :
  Calls Tryz.prog 205 #[.int .u64 x] w fun e w' => e = .returned (.int .i64 (Lib.bitLen x.toNat)) ∧ w' = w := Any.bits_Len64 Tryz.lays129 x w h0 h1
def Tryz.lays189_ren : Go.Shelf.Ren := ⟨fun | 189 => 189 | 125 => 194 | 257 => 193 | 128 => 204 | 129 => 205 | 294 => 195 | 295 => 196 | 296 => 197 | 297 => 198 | 298 => 199 | 299 => 200 | 216 => 201 | 300 => 202 | 301 => 203 | 328 => 206 | 329 => 207 | 330 => 208 | 331 => 209 | 332 => 210 | 215 => 211 | 343 => 212 | n => n, fun | 28 => 46 | 3 => 3 | 46 => 216 | 0 => 0 | 51 => 227 | 53 => 229 | 4 => 4 | 183 => 219 | 182 => 218 | 131 => 224 | 5 => 5 | 9 => 9 | 218 => 230 | 222 => 186 | 228 => 235 | 229 => 236 | n => n, fun | n => n⟩
theorem Tryz.lays189 : Go.Proofs.Lays.n189 Tryz.prog Tryz.lays189_ren := {
 mixed := by kernel_rfl
 f125 := Tryz.func194.trans (congrArg some (by kernel_rfl))
 f128 := Tryz.func204.trans (congrArg some (by kernel_rfl))
 f129 := Tryz.func205.trans (congrArg some (by kernel_rfl))
 f189 := Tryz.func189.trans (congrArg some (by kernel_rfl))
 f215 := Tryz.func211.trans (congrArg some (by kernel_rfl))
 f216 := Tryz.func201.trans (congrArg some (by kernel_rfl))
 f257 := Tryz.func193.trans (congrArg some (by kernel_rfl))
 f294 := Tryz.func195.trans (congrArg some (by kernel_rfl))
 f295 := Tryz.func196.trans (congrArg some (by kernel_rfl))
 f296 := Tryz.func197.trans (congrArg some (by kernel_rfl))
 f297 := Tryz.func198.trans (congrArg some (by kernel_rfl))
 f298 := Tryz.func199.trans (congrArg some (by kernel_rfl))
 f299 := Tryz.func200.trans (congrArg some (by kernel_rfl))
 f300 := Tryz.func202.trans (congrArg some (by kernel_rfl))
 f301 := Tryz.func203.trans (congrArg some (by kernel_rfl))
 f328 := Tryz.func206.trans (congrArg some (by kernel_rfl))
 f329 := Tryz.func207.trans (congrArg some (by kernel_rfl))
 f330 := Tryz.func208.trans (congrArg some (by kernel_rfl))
 f331 := Tryz.func209.trans (congrArg some (by kernel_rfl))
 f332 := Tryz.func210.trans (congrArg some (by kernel_rfl))
 f343 := Tryz.func212.trans (congrArg some (by kernel_rfl))
 t0 := Tryz.underlying0
 a0 := Tryz.isAgg0
 z0 := Tryz.sizeOf0
 v0 := Tryz.zeroValue0
 t3 := Tryz.underlying3
 a3 := Tryz.isAgg3
 z3 := Tryz.sizeOf3
 v3 := Tryz.zeroValue3
 t4 := Tryz.underlying4
 a4 := Tryz.isAgg4
 z4 := Tryz.sizeOf4
 v4 := Tryz.zeroValue4
 t5 := Tryz.underlying5
 a5 := Tryz.isAgg5
 z5 := Tryz.sizeOf5
 v5 := Tryz.zeroValue5
 t9 := Tryz.underlying9
 a9 := Tryz.isAgg9
 z9 := Tryz.sizeOf9
 v9 := Tryz.zeroValue9
 t28 := Tryz.underlying46
 a28 := Tryz.isAgg46
 z28 := Tryz.sizeOf46
 v28 := Tryz.zeroValue46
 t46 := Tryz.underlying216
 a46 := Tryz.isAgg216
 z46 := Tryz.sizeOf216
 v46 := Tryz.zeroValue216
 t51 := Tryz.underlying227
 a51 := Tryz.isAgg227
 z51 := Tryz.sizeOf227
 v51 := Tryz.zeroValue227
 t53 := Tryz.underlying229
 a53 := Tryz.isAgg229
 z53 := Tryz.sizeOf229
 v53 := Tryz.zeroValue229
 t131 := Tryz.underlying224
 a131 := Tryz.isAgg224
 z131 := Tryz.sizeOf224
 v131 := Tryz.zeroValue224
 t182 := Tryz.underlying218
 a182 := Tryz.isAgg218
 z182 := Tryz.sizeOf218
 v182 := Tryz.zeroValue218
 t183 := Tryz.underlying219
 a183 := Tryz.isAgg219
 z183 := Tryz.sizeOf219
 v183 := Tryz.zeroValue219
 t218 := Tryz.underlying230
 a218 := Tryz.isAgg230
 z218 := Tryz.sizeOf230
 v218 := Tryz.zeroValue230
 t222 := Tryz.underlying186
 a222 := Tryz.isAgg186
 z222 := Tryz.sizeOf186
 v222 := Tryz.zeroValue186
 t228 := Tryz.underlying235
 a228 := Tryz.isAgg235
 z228 := Tryz.sizeOf235
 v228 := Tryz.zeroValue235
 t229 := Tryz.underlying236
 a229 := Tryz.isAgg236
 z229 := Tryz.sizeOf236
 v229 := Tryz.zeroValue236 }
open Go.Sort Go.RowKit in
theorem Tryz.slices_Sort_int (blk off cap : Nat) (zs : List Int) (w : World) (hH : Holds (Value.int .i64) w blk off zs.toArray) (hblk : blk < w.heap.size) (hsz : zs.length < 4611686018427387904) :
  Calls Tryz.prog 189 #[.slice (some ⟨blk, off, none⟩) zs.length cap] w fun e w' =>
   e = .returned (.tuple #[]) ∧ ∃ n os, w' = grow (putRow (Value.int .i64) (Sort.ahead w n) blk off (zs.mergeSort fun x y => decide (x ≤ y)).toArray) os := Any.slices_Sort_int Tryz.lays189 blk off cap zs w hH hblk hsz
def Tryz.lays191_ren : Go.Shelf.Ren := ⟨fun | 191 => 177 | 189 => 189 | 125 => 194 | 257 => 193 | 128 => 204 | 129 => 205 | 294 => 195 | 295 => 196 | 296 => 197 | 297 => 198 | 298 => 199 | 299 => 200 | 216 => 201 | 300 => 202 | 301 => 203 | 328 => 206 | 329 => 207 | 330 => 208 | 331 => 209 | 332 => 210 | 215 => 211 | 343 => 212 | n => n, fun | 28 => 46 | 0 => 0 | 3 => 3 | 46 => 216 | 51 => 227 | 53 => 229 | 4 => 4 | 183 => 219 | 182 => 218 | 131 => 224 | 5 => 5 | 9 => 9 | 218 => 230 | 222 => 186 | 228 => 235 | 229 => 236 | n => n, fun | n => n⟩
theorem Tryz.lays191 : Go.Proofs.Lays.n191 Tryz.prog Tryz.lays191_ren := {
 mixed := by kernel_rfl
 f125 := Tryz.func194.trans (congrArg some (by kernel_rfl))
 f128 := Tryz.func204.trans (congrArg some (by kernel_rfl))
 f129 := Tryz.func205.trans (congrArg some (by kernel_rfl))
 f189 := Tryz.func189.trans (congrArg some (by kernel_rfl))
 f191 := Tryz.func177.trans (congrArg some (by kernel_rfl))
 f215 := Tryz.func211.trans (congrArg some (by kernel_rfl))
 f216 := Tryz.func201.trans (congrArg some (by kernel_rfl))
 f257 := Tryz.func193.trans (congrArg some (by kernel_rfl))
 f294 := Tryz.func195.trans (congrArg some (by kernel_rfl))
 f295 := Tryz.func196.trans (congrArg some (by kernel_rfl))
 f296 := Tryz.func197.trans (congrArg some (by kernel_rfl))
 f297 := Tryz.func198.trans (congrArg some (by kernel_rfl))
 f298 := Tryz.func199.trans (congrArg some (by kernel_rfl))
 f299 := Tryz.func200.trans (congrArg some (by kernel_rfl))
 f300 := Tryz.func202.trans (congrArg some (by kernel_rfl))
 f301 := Tryz.func203.trans (congrArg some (by kernel_rfl))
 f328 := Tryz.func206.trans (congrArg some (by kernel_rfl))
 f329 := Tryz.func207.trans (congrArg some (by kernel_rfl))
 f330 := Tryz.func208.trans (congrArg some (by kernel_rfl))
 f331 := Tryz.func209.trans (congrArg some (by kernel_rfl))
 f332 := Tryz.func210.trans (congrArg some (by kernel_rfl))
 f343 := Tryz.func212.trans (congrArg some (by kernel_rfl))
 t0 := Tryz.underlying0
 a0 := Tryz.isAgg0
 z0 := Tryz.sizeOf0
 v0 := Tryz.zeroValue0
 t3 := Tryz.underlying3
 a3 := Tryz.isAgg3
 z3 := Tryz.sizeOf3
 v3 := Tryz.zeroValue3
 t4 := Tryz.underlying4
 a4 := Tryz.isAgg4
 z4 := Tryz.sizeOf4
 v4 := Tryz.zeroValue4
 t5 := Tryz.underlying5
 a5 := Tryz.isAgg5
 z5 := Tryz.sizeOf5
 v5 := Tryz.zeroValue5
 t9 := Tryz.underlying9
 a9 := Tryz.isAgg9
 z9 := Tryz.sizeOf9
 v9 := Tryz.zeroValue9
 t28 := Tryz.underlying46
 a28 := Tryz.isAgg46
 z28 := Tryz.sizeOf46
 v28 := Tryz.zeroValue46
 t46 := Tryz.underlying216
 a46 := Tryz.isAgg216
 z46 := Tryz.sizeOf216
 v46 := Tryz.zeroValue216
 t51 := Tryz.underlying227
 a51 := Tryz.isAgg227
 z51 := Tryz.sizeOf227
 v51 := Tryz.zeroValue227
 t53 := Tryz.underlying229
 a53 := Tryz.isAgg229
 z53 := Tryz.sizeOf229
 v53 := Tryz.zeroValue229
 t131 := Tryz.underlying224
 a131 := Tryz.isAgg224
 z131 := Tryz.sizeOf224
 v131 := Tryz.zeroValue224
 t182 := Tryz.underlying218
 a182 := Tryz.isAgg218
 z182 := Tryz.sizeOf218
 v182 := Tryz.zeroValue218
 t183 := Tryz.underlying219
 a183 := Tryz.isAgg219
 z183 := Tryz.sizeOf219
 v183 := Tryz.zeroValue219
 t218 := Tryz.underlying230
 a218 := Tryz.isAgg230
 z218 := Tryz.sizeOf230
 v218 := Tryz.zeroValue230
 t222 := Tryz.underlying186
 a222 := Tryz.isAgg186
 z222 := Tryz.sizeOf186
 v222 := Tryz.zeroValue186
 t228 := Tryz.underlying235
 a228 := Tryz.isAgg235
 z228 := Tryz.sizeOf235
 v228 := Tryz.zeroValue235
 t229 := Tryz.underlying236
 a229 := Tryz.isAgg236
 z229 := Tryz.sizeOf236
 v229 := Tryz.zeroValue236 }
open Go.Sort Go.RowKit in
theorem Tryz.sort_Ints (blk off cap : Nat) (zs : List Int) (w : World) (hH : Holds (Value.int .i64) w blk off zs.toArray) (hblk : blk < w.heap.size) (hsz : zs.length < 4611686018427387904) :
  Calls Tryz.prog 177 #[.slice (some ⟨blk, off, none⟩) zs.length cap] w fun e w' =>
   e = .returned (.tuple #[]) ∧ ∃ n os, w' = grow (putRow (Value.int .i64) (Sort.ahead w n) blk off (zs.mergeSort fun x y => decide (x ≤ y)).toArray) os := Any.sort_Ints Tryz.lays191 blk off cap zs w hH hblk hsz
open Go.RowKit Go.Sort in
theorem Tryz.slices_Sort_int_none (p : Option Addr) (cap : Nat) (w : World) :
  Calls Tryz.prog 189 #[.slice p 0 cap] w fun e w' => e = .returned (.tuple #[]) ∧ w' = w := Any.slices_Sort_int_none Tryz.lays189 p cap w
open Go.RowKit Go.Sort in
theorem Tryz.sort_Ints_none (p : Option Addr) (cap : Nat) (w : World) :
  Calls Tryz.prog 177 #[.slice p 0 cap] w fun e w' => e = .returned (.tuple #[]) ∧ w' = w := Any.sort_Ints_none Tryz.lays191 p cap w
end Go.Proofs
