/-
  DERIVED: THE SHELF's CONTRACTS AT THIS DUMP, IN PLAIN WORDS (tools/lay-plain.mjs out of 'TryzShelf.lean', which tools/lay-shelf.mjs wrote): THE SAME DECLARATIONS UNDER THE SAME NAMES: 'import', 'namespace', 'open', 'def', 'theorem' AND NOTHING ELSE: no command of the shelf's: FOR A HAND-IN. Each laying: the table of numbers ('.._ren') and one theorem, a field a fact of the dump's own or the kernel's comparison; each contract: ONE APPLICATION.
-/
import Derived.Shelf.Sort.Plain
import Derived.Shelf.Slices.In.SortNone
import Derived.Shelf.Slices.In.SortNone2
import Derived.Test.YtmnbmpplndgfmaaGreatProg
namespace Go.Proofs
open Go.Shelf
def Tryz.lays189_ren : Go.Shelf.Ren := ⟨fun | 189 => 277 | 125 => 280 | 257 => 279 | 128 => 291 | 129 => 292 | 294 => 282 | 295 => 283 | 296 => 284 | 297 => 285 | 298 => 286 | 299 => 287 | 216 => 288 | 300 => 289 | 301 => 290 | 328 => 293 | 329 => 294 | 330 => 295 | 331 => 296 | 332 => 297 | 215 => 298 | 343 => 299 | n => n, fun | 28 => 78 | 3 => 3 | 46 => 277 | 0 => 0 | 51 => 289 | 53 => 291 | 4 => 4 | 183 => 282 | 182 => 281 | 131 => 286 | 5 => 5 | 9 => 9 | 218 => 292 | 222 => 202 | 228 => 297 | 229 => 298 | n => n, fun | n => n⟩
theorem Tryz.lays189 : Go.Proofs.Lays.n189 Tryz.prog Tryz.lays189_ren := {
  mixed := by kernel_rfl
  f125 := Tryz.func280.trans (congrArg some (by kernel_rfl))
  f128 := Tryz.func291.trans (congrArg some (by kernel_rfl))
  f129 := Tryz.func292.trans (congrArg some (by kernel_rfl))
  f189 := Tryz.func277.trans (congrArg some (by kernel_rfl))
  f215 := Tryz.func298.trans (congrArg some (by kernel_rfl))
  f216 := Tryz.func288.trans (congrArg some (by kernel_rfl))
  f257 := Tryz.func279.trans (congrArg some (by kernel_rfl))
  f294 := Tryz.func282.trans (congrArg some (by kernel_rfl))
  f295 := Tryz.func283.trans (congrArg some (by kernel_rfl))
  f296 := Tryz.func284.trans (congrArg some (by kernel_rfl))
  f297 := Tryz.func285.trans (congrArg some (by kernel_rfl))
  f298 := Tryz.func286.trans (congrArg some (by kernel_rfl))
  f299 := Tryz.func287.trans (congrArg some (by kernel_rfl))
  f300 := Tryz.func289.trans (congrArg some (by kernel_rfl))
  f301 := Tryz.func290.trans (congrArg some (by kernel_rfl))
  f328 := Tryz.func293.trans (congrArg some (by kernel_rfl))
  f329 := Tryz.func294.trans (congrArg some (by kernel_rfl))
  f330 := Tryz.func295.trans (congrArg some (by kernel_rfl))
  f331 := Tryz.func296.trans (congrArg some (by kernel_rfl))
  f332 := Tryz.func297.trans (congrArg some (by kernel_rfl))
  f343 := Tryz.func299.trans (congrArg some (by kernel_rfl))
  t0 := Tryz.underlying0
  a0 := Tryz.isAgg0
  z0 := Tryz.sizeOf0
  v0 := Tryz.zeroValue0
  t3 := Tryz.underlying3
  a3 := Tryz.isAgg3
  z3 := Tryz.sizeOf3
  v3 := Tryz.zeroValue3
  t4 := Tryz.underlying4
  a4 := Tryz.isAgg4
  z4 := Tryz.sizeOf4
  v4 := Tryz.zeroValue4
  t5 := Tryz.underlying5
  a5 := Tryz.isAgg5
  z5 := Tryz.sizeOf5
  v5 := Tryz.zeroValue5
  t9 := Tryz.underlying9
  a9 := Tryz.isAgg9
  z9 := Tryz.sizeOf9
  v9 := Tryz.zeroValue9
  t28 := Tryz.underlying78
  a28 := Tryz.isAgg78
  z28 := Tryz.sizeOf78
  v28 := Tryz.zeroValue78
  t46 := Tryz.underlying277
  a46 := Tryz.isAgg277
  z46 := Tryz.sizeOf277
  v46 := Tryz.zeroValue277
  t51 := Tryz.underlying289
  a51 := Tryz.isAgg289
  z51 := Tryz.sizeOf289
  v51 := Tryz.zeroValue289
  t53 := Tryz.underlying291
  a53 := Tryz.isAgg291
  z53 := Tryz.sizeOf291
  v53 := Tryz.zeroValue291
  t131 := Tryz.underlying286
  a131 := Tryz.isAgg286
  z131 := Tryz.sizeOf286
  v131 := Tryz.zeroValue286
  t182 := Tryz.underlying281
  a182 := Tryz.isAgg281
  z182 := Tryz.sizeOf281
  v182 := Tryz.zeroValue281
  t183 := Tryz.underlying282
  a183 := Tryz.isAgg282
  z183 := Tryz.sizeOf282
  v183 := Tryz.zeroValue282
  t218 := Tryz.underlying292
  a218 := Tryz.isAgg292
  z218 := Tryz.sizeOf292
  v218 := Tryz.zeroValue292
  t222 := Tryz.underlying202
  a222 := Tryz.isAgg202
  z222 := Tryz.sizeOf202
  v222 := Tryz.zeroValue202
  t228 := Tryz.underlying297
  a228 := Tryz.isAgg297
  z228 := Tryz.sizeOf297
  v228 := Tryz.zeroValue297
  t229 := Tryz.underlying298
  a229 := Tryz.isAgg298
  z229 := Tryz.sizeOf298
  v229 := Tryz.zeroValue298 }
open Go.Sort Go.RowKit in
theorem Tryz.slices_Sort_int (blk off cap : Nat) (zs : List Int) (w : World) (hH : Holds (Value.int .i64) w blk off zs.toArray) (hblk : blk < w.heap.size) (hsz : zs.length < 4611686018427387904) :
    Calls Tryz.prog 277 #[.slice (some ⟨blk, off, none⟩) zs.length cap] w fun e w' =>
      e = .returned (.tuple #[]) ∧ ∃ n os, w' = grow (putRow (Value.int .i64) (Sort.ahead w n) blk off (zs.mergeSort fun x y => decide (x ≤ y)).toArray) os := Any.slices_Sort_int Tryz.lays189 blk off cap zs w hH hblk hsz
def Tryz.lays191_ren : Go.Shelf.Ren := ⟨fun | 191 => 258 | 189 => 277 | 125 => 280 | 257 => 279 | 128 => 291 | 129 => 292 | 294 => 282 | 295 => 283 | 296 => 284 | 297 => 285 | 298 => 286 | 299 => 287 | 216 => 288 | 300 => 289 | 301 => 290 | 328 => 293 | 329 => 294 | 330 => 295 | 331 => 296 | 332 => 297 | 215 => 298 | 343 => 299 | n => n, fun | 28 => 78 | 0 => 0 | 3 => 3 | 46 => 277 | 51 => 289 | 53 => 291 | 4 => 4 | 183 => 282 | 182 => 281 | 131 => 286 | 5 => 5 | 9 => 9 | 218 => 292 | 222 => 202 | 228 => 297 | 229 => 298 | n => n, fun | n => n⟩
theorem Tryz.lays191 : Go.Proofs.Lays.n191 Tryz.prog Tryz.lays191_ren := {
  mixed := by kernel_rfl
  f125 := Tryz.func280.trans (congrArg some (by kernel_rfl))
  f128 := Tryz.func291.trans (congrArg some (by kernel_rfl))
  f129 := Tryz.func292.trans (congrArg some (by kernel_rfl))
  f189 := Tryz.func277.trans (congrArg some (by kernel_rfl))
  f191 := Tryz.func258.trans (congrArg some (by kernel_rfl))
  f215 := Tryz.func298.trans (congrArg some (by kernel_rfl))
  f216 := Tryz.func288.trans (congrArg some (by kernel_rfl))
  f257 := Tryz.func279.trans (congrArg some (by kernel_rfl))
  f294 := Tryz.func282.trans (congrArg some (by kernel_rfl))
  f295 := Tryz.func283.trans (congrArg some (by kernel_rfl))
  f296 := Tryz.func284.trans (congrArg some (by kernel_rfl))
  f297 := Tryz.func285.trans (congrArg some (by kernel_rfl))
  f298 := Tryz.func286.trans (congrArg some (by kernel_rfl))
  f299 := Tryz.func287.trans (congrArg some (by kernel_rfl))
  f300 := Tryz.func289.trans (congrArg some (by kernel_rfl))
  f301 := Tryz.func290.trans (congrArg some (by kernel_rfl))
  f328 := Tryz.func293.trans (congrArg some (by kernel_rfl))
  f329 := Tryz.func294.trans (congrArg some (by kernel_rfl))
  f330 := Tryz.func295.trans (congrArg some (by kernel_rfl))
  f331 := Tryz.func296.trans (congrArg some (by kernel_rfl))
  f332 := Tryz.func297.trans (congrArg some (by kernel_rfl))
  f343 := Tryz.func299.trans (congrArg some (by kernel_rfl))
  t0 := Tryz.underlying0
  a0 := Tryz.isAgg0
  z0 := Tryz.sizeOf0
  v0 := Tryz.zeroValue0
  t3 := Tryz.underlying3
  a3 := Tryz.isAgg3
  z3 := Tryz.sizeOf3
  v3 := Tryz.zeroValue3
  t4 := Tryz.underlying4
  a4 := Tryz.isAgg4
  z4 := Tryz.sizeOf4
  v4 := Tryz.zeroValue4
  t5 := Tryz.underlying5
  a5 := Tryz.isAgg5
  z5 := Tryz.sizeOf5
  v5 := Tryz.zeroValue5
  t9 := Tryz.underlying9
  a9 := Tryz.isAgg9
  z9 := Tryz.sizeOf9
  v9 := Tryz.zeroValue9
  t28 := Tryz.underlying78
  a28 := Tryz.isAgg78
  z28 := Tryz.sizeOf78
  v28 := Tryz.zeroValue78
  t46 := Tryz.underlying277
  a46 := Tryz.isAgg277
  z46 := Tryz.sizeOf277
  v46 := Tryz.zeroValue277
  t51 := Tryz.underlying289
  a51 := Tryz.isAgg289
  z51 := Tryz.sizeOf289
  v51 := Tryz.zeroValue289
  t53 := Tryz.underlying291
  a53 := Tryz.isAgg291
  z53 := Tryz.sizeOf291
  v53 := Tryz.zeroValue291
  t131 := Tryz.underlying286
  a131 := Tryz.isAgg286
  z131 := Tryz.sizeOf286
  v131 := Tryz.zeroValue286
  t182 := Tryz.underlying281
  a182 := Tryz.isAgg281
  z182 := Tryz.sizeOf281
  v182 := Tryz.zeroValue281
  t183 := Tryz.underlying282
  a183 := Tryz.isAgg282
  z183 := Tryz.sizeOf282
  v183 := Tryz.zeroValue282
  t218 := Tryz.underlying292
  a218 := Tryz.isAgg292
  z218 := Tryz.sizeOf292
  v218 := Tryz.zeroValue292
  t222 := Tryz.underlying202
  a222 := Tryz.isAgg202
  z222 := Tryz.sizeOf202
  v222 := Tryz.zeroValue202
  t228 := Tryz.underlying297
  a228 := Tryz.isAgg297
  z228 := Tryz.sizeOf297
  v228 := Tryz.zeroValue297
  t229 := Tryz.underlying298
  a229 := Tryz.isAgg298
  z229 := Tryz.sizeOf298
  v229 := Tryz.zeroValue298 }
open Go.Sort Go.RowKit in
theorem Tryz.sort_Ints (blk off cap : Nat) (zs : List Int) (w : World) (hH : Holds (Value.int .i64) w blk off zs.toArray) (hblk : blk < w.heap.size) (hsz : zs.length < 4611686018427387904) :
    Calls Tryz.prog 258 #[.slice (some ⟨blk, off, none⟩) zs.length cap] w fun e w' =>
      e = .returned (.tuple #[]) ∧ ∃ n os, w' = grow (putRow (Value.int .i64) (Sort.ahead w n) blk off (zs.mergeSort fun x y => decide (x ≤ y)).toArray) os := Any.sort_Ints Tryz.lays191 blk off cap zs w hH hblk hsz
open Go.RowKit Go.Sort in
/-- .. and plain. (LAID: no walk: one application.) -/
theorem Tryz.slices_Sort_int_none (p : Option Addr) (cap : Nat) (w : World) :
    Calls Tryz.prog 277 #[.slice p 0 cap] w fun e w' => e = .returned (.tuple #[]) ∧ w' = w := Any.slices_Sort_int_none Tryz.lays189 p cap w
open Go.RowKit Go.Sort in
/-- .. and plain. (LAID: no walk: one application.) -/
theorem Tryz.sort_Ints_none (p : Option Addr) (cap : Nat) (w : World) :
    Calls Tryz.prog 258 #[.slice p 0 cap] w fun e w' => e = .returned (.tuple #[]) ∧ w' = w := Any.sort_Ints_none Tryz.lays191 p cap w
end Go.Proofs
