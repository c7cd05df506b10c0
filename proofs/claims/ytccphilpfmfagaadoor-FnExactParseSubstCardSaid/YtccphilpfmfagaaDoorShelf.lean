import Derived.Shelf.Strings.Builder1
import Derived.Shelf.Strconv.Atoi
import Derived.Shelf.Strconv.Itoa0
import Derived.Shelf.Strconv.Itoa1
import Derived.Shelf.LaysM
import Derived.Shelf.Strconv.Itoa2
import Derived.Shelf.Strconv.Itoa3
import Derived.Shelf.Strconv.AtoiErrFast
import Derived.Shelf.Strconv.ParseIntEmpty
import Derived.Shelf.Strconv.AtoiFail
import Derived.Shelf.Strconv.Clone
import Derived.Shelf.Strconv.SyntaxError
import Derived.Shelf.LaysC
import Derived.Shelf.Strconv.ToError
import Derived.Shelf.Strconv.AtoiErr
import Derived.Shelf.Strconv.ErrVar
import Derived.Shelf.Strconv.Lower
import Derived.Shelf.Strconv.ParseUint10
import Derived.Shelf.Strconv.ParseUint10Empty
import Derived.Shelf.Strconv.ParseUint10Any
import Derived.Shelf.Strconv.ParseInt10
import Derived.Shelf.Strconv.AtoiLong
import Derived.Shelf.Strconv.AtoiInnerAll
import Derived.Shelf.Strconv.RangeError
import Derived.Shelf.Strconv.ToErrorRange
import Derived.Shelf.Strconv.AtoiAll
import Derived.Test.YtccphilpfmfagaaDoorProg
namespace Go.Proofs
open Go.Shelf
def Tryd.laysM171_ren : Go.Shelf.Ren := ⟨fun | 171 => 75 | 243 => 85 | 246 => 90 | 283 => 97 | 284 => 98 | 285 => 99 | 286 => 100 | 129 => 105 | 317 => 104 | 318 => 106 | 319 => 107 | 320 => 108 | 337 => 111 | 338 => 112 | n => n, fun | 3 => 3 | 9 => 9 | 2 => 2 | 4 => 4 | 171 => 110 | 0 => 0 | 53 => 111 | 37 => 22 | 5 => 5 | 173 => 114 | 212 => 124 | 51 => 125 | 20 => 20 | 213 => 126 | 46 => 91 | 232 => 133 | 233 => 134 | n => n, fun | 17 => 2 | 18 => 3 | 19 => 4 | n => n⟩
theorem Tryd.laysM171 : Go.Proofs.LaysM.n171 Tryd.prog Tryd.laysM171_ren := {
 mixed := by kernel_rfl
 f129 := Tryd.func105.trans (congrArg some (by kernel_rfl))
 f171 := Tryd.func75.trans (congrArg some (by kernel_rfl))
 f243 := Tryd.func85.trans (congrArg some (by kernel_rfl))
 f246 := Tryd.func90.trans (congrArg some (by kernel_rfl))
 f283 := Tryd.func97.trans (congrArg some (by kernel_rfl))
 f284 := Tryd.func98.trans (congrArg some (by kernel_rfl))
 f285 := Tryd.func99.trans (congrArg some (by kernel_rfl))
 f286 := Tryd.func100.trans (congrArg some (by kernel_rfl))
 f317 := Tryd.func104.trans (congrArg some (by kernel_rfl))
 f318 := Tryd.func106.trans (congrArg some (by kernel_rfl))
 f319 := Tryd.func107.trans (congrArg some (by kernel_rfl))
 f320 := Tryd.func108.trans (congrArg some (by kernel_rfl))
 f337 := Tryd.func111.trans (congrArg some (by kernel_rfl))
 f338 := Tryd.func112.trans (congrArg some (by kernel_rfl))
 t0 := Tryd.underlying0
 a0 := Tryd.isAgg0
 z0 := Tryd.sizeOf0
 v0 := Tryd.zeroValue0
 t2 := Tryd.underlying2
 a2 := Tryd.isAgg2
 z2 := Tryd.sizeOf2
 v2 := Tryd.zeroValue2
 t3 := Tryd.underlying3
 a3 := Tryd.isAgg3
 z3 := Tryd.sizeOf3
 v3 := Tryd.zeroValue3
 t4 := Tryd.underlying4
 a4 := Tryd.isAgg4
 z4 := Tryd.sizeOf4
 v4 := Tryd.zeroValue4
 t5 := Tryd.underlying5
 a5 := Tryd.isAgg5
 z5 := Tryd.sizeOf5
 v5 := Tryd.zeroValue5
 t9 := Tryd.underlying9
 a9 := Tryd.isAgg9
 z9 := Tryd.sizeOf9
 v9 := Tryd.zeroValue9
 t20 := Tryd.underlying20
 a20 := Tryd.isAgg20
 z20 := Tryd.sizeOf20
 v20 := Tryd.zeroValue20
 t37 := Tryd.underlying22
 a37 := Tryd.isAgg22
 z37 := Tryd.sizeOf22
 v37 := Tryd.zeroValue22
 t46 := Tryd.underlying91
 a46 := Tryd.isAgg91
 z46 := Tryd.sizeOf91
 v46 := Tryd.zeroValue91
 t51 := Tryd.underlying125
 a51 := Tryd.isAgg125
 z51 := Tryd.sizeOf125
 v51 := Tryd.zeroValue125
 t53 := Tryd.underlying111
 a53 := Tryd.isAgg111
 z53 := Tryd.sizeOf111
 v53 := Tryd.zeroValue111
 t171 := Tryd.underlying110
 a171 := Tryd.isAgg110
 z171 := Tryd.sizeOf110
 v171 := Tryd.zeroValue110
 t173 := Tryd.underlying114
 a173 := Tryd.isAgg114
 z173 := Tryd.sizeOf114
 v173 := Tryd.zeroValue114
 t212 := Tryd.underlying124
 a212 := Tryd.isAgg124
 z212 := Tryd.sizeOf124
 v212 := Tryd.zeroValue124
 t213 := Tryd.underlying126
 a213 := Tryd.isAgg126
 z213 := Tryd.sizeOf126
 t232 := Tryd.underlying133
 a232 := Tryd.isAgg133
 z232 := Tryd.sizeOf133
 v232 := Tryd.zeroValue133
 t233 := Tryd.underlying134
 a233 := Tryd.isAgg134
 z233 := Tryd.sizeOf134
 v233 := Tryd.zeroValue134
 g17 := by kernel_rfl
 g18 := by kernel_rfl
 g19 := by kernel_rfl
 i0 := by kernel_rfl
 i2 := by kernel_rfl
 i3 := by kernel_rfl
 i4 := by kernel_rfl
 i5 := by kernel_rfl
 i9 := by kernel_rfl
 i20 := by kernel_rfl
 i37 := by kernel_rfl
 i46 := by kernel_rfl
 i51 := by kernel_rfl
 i53 := by kernel_rfl
 i171 := by kernel_rfl
 i173 := by kernel_rfl
 i212 := by kernel_rfl
 i232 := by kernel_rfl
 i233 := by kernel_rfl
 m17 := by kernel_rfl
 m18 := by kernel_rfl
 m19 := by kernel_rfl }
open Go.RowKit Go.Sort Go.Lib in
theorem Tryd.strconv_Itoa (n : Int) (h0 : -9223372036854775808 ≤ n) (h1 : n ≤ 9223372036854775807) (w : World) (htab : Lib.TabIs Tryd.prog w "internal/strconv.uint64pow10" .u64 Lib.pow10Tab) :
  Calls Tryd.prog 75 #[.int .i64 n] w fun e w' => e = .returned (.string ⟨(Lib.itoa n).toArray⟩) ∧ ∃ k os, w' = grow (w.drewN k) os := Any.strconv_Itoa Tryd.laysM171 n h0 h1 w htab
def Tryd.laysC172_ren : Go.Shelf.Ren := ⟨fun | 172 => 83 | 244 => 88 | 245 => 89 | 247 => 92 | 279 => 93 | 280 => 94 | 281 => 95 | 282 => 96 | 287 => 101 | 316 => 102 | 171 => 75 | 205 => 103 | 321 => 109 | 322 => 110 | 243 => 85 | 246 => 90 | 283 => 97 | 284 => 98 | 285 => 99 | 286 => 100 | 129 => 105 | 317 => 104 | 318 => 106 | 319 => 107 | 320 => 108 | 337 => 111 | 338 => 112 | n => n, fun | 9 => 9 | 3 => 3 | 75 => 76 | 76 => 77 | 4 => 4 | 5 => 5 | 167 => 104 | 37 => 22 | 0 => 0 | 85 => 105 | 2 => 2 | 168 => 107 | 53 => 111 | 175 => 116 | 46 => 91 | 210 => 120 | 127 => 79 | 145 => 131 | 143 => 129 | 21 => 21 | 171 => 110 | 173 => 114 | 212 => 124 | 51 => 125 | 20 => 20 | 213 => 126 | 232 => 133 | 233 => 134 | 80 => 59 | n => n, fun | 15 => 0 | 16 => 1 | 17 => 2 | 18 => 3 | 19 => 4 | n => n⟩
theorem Tryd.laysC172 : Go.Proofs.LaysC.n172 Tryd.prog Tryd.laysC172_ren := {
 mixed := by kernel_rfl
 f129 := Tryd.func105.trans (congrArg some (by kernel_rfl))
 f171 := Tryd.func75.trans (congrArg some (by kernel_rfl))
 f172 := Tryd.func83.trans (congrArg some (by kernel_rfl))
 f205 := Tryd.func103.trans (congrArg some (by kernel_rfl))
 f243 := Tryd.func85.trans (congrArg some (by kernel_rfl))
 f244 := Tryd.func88.trans (congrArg some (by kernel_rfl))
 f245 := Tryd.func89.trans (congrArg some (by kernel_rfl))
 f246 := Tryd.func90.trans (congrArg some (by kernel_rfl))
 f247 := Tryd.func92.trans (congrArg some (by kernel_rfl))
 f279 := Tryd.func93.trans (congrArg some (by kernel_rfl))
 f280 := Tryd.func94.trans (congrArg some (by kernel_rfl))
 f281 := Tryd.func95.trans (congrArg some (by kernel_rfl))
 f282 := Tryd.func96.trans (congrArg some (by kernel_rfl))
 f283 := Tryd.func97.trans (congrArg some (by kernel_rfl))
 f284 := Tryd.func98.trans (congrArg some (by kernel_rfl))
 f285 := Tryd.func99.trans (congrArg some (by kernel_rfl))
 f286 := Tryd.func100.trans (congrArg some (by kernel_rfl))
 f287 := Tryd.func101.trans (congrArg some (by kernel_rfl))
 f316 := Tryd.func102.trans (congrArg some (by kernel_rfl))
 f317 := Tryd.func104.trans (congrArg some (by kernel_rfl))
 f318 := Tryd.func106.trans (congrArg some (by kernel_rfl))
 f319 := Tryd.func107.trans (congrArg some (by kernel_rfl))
 f320 := Tryd.func108.trans (congrArg some (by kernel_rfl))
 f321 := Tryd.func109.trans (congrArg some (by kernel_rfl))
 f322 := Tryd.func110.trans (congrArg some (by kernel_rfl))
 f337 := Tryd.func111.trans (congrArg some (by kernel_rfl))
 f338 := Tryd.func112.trans (congrArg some (by kernel_rfl))
 t0 := Tryd.underlying0
 a0 := Tryd.isAgg0
 z0 := Tryd.sizeOf0
 v0 := Tryd.zeroValue0
 t2 := Tryd.underlying2
 a2 := Tryd.isAgg2
 z2 := Tryd.sizeOf2
 v2 := Tryd.zeroValue2
 t3 := Tryd.underlying3
 a3 := Tryd.isAgg3
 z3 := Tryd.sizeOf3
 v3 := Tryd.zeroValue3
 t4 := Tryd.underlying4
 a4 := Tryd.isAgg4
 z4 := Tryd.sizeOf4
 v4 := Tryd.zeroValue4
 t5 := Tryd.underlying5
 a5 := Tryd.isAgg5
 z5 := Tryd.sizeOf5
 v5 := Tryd.zeroValue5
 t9 := Tryd.underlying9
 a9 := Tryd.isAgg9
 z9 := Tryd.sizeOf9
 v9 := Tryd.zeroValue9
 t20 := Tryd.underlying20
 a20 := Tryd.isAgg20
 z20 := Tryd.sizeOf20
 v20 := Tryd.zeroValue20
 t21 := Tryd.underlying21
 a21 := Tryd.isAgg21
 z21 := Tryd.sizeOf21
 v21 := Tryd.zeroValue21
 t37 := Tryd.underlying22
 a37 := Tryd.isAgg22
 z37 := Tryd.sizeOf22
 v37 := Tryd.zeroValue22
 t46 := Tryd.underlying91
 a46 := Tryd.isAgg91
 z46 := Tryd.sizeOf91
 v46 := Tryd.zeroValue91
 t51 := Tryd.underlying125
 a51 := Tryd.isAgg125
 z51 := Tryd.sizeOf125
 v51 := Tryd.zeroValue125
 t53 := Tryd.underlying111
 a53 := Tryd.isAgg111
 z53 := Tryd.sizeOf111
 v53 := Tryd.zeroValue111
 t75 := Tryd.underlying76
 a75 := Tryd.isAgg76
 z75 := Tryd.sizeOf76
 v75 := Tryd.zeroValue76
 t76 := Tryd.underlying77
 a76 := Tryd.isAgg77
 z76 := Tryd.sizeOf77
 v76 := Tryd.zeroValue77
 t85 := Tryd.underlying105
 a85 := Tryd.isAgg105
 z85 := Tryd.sizeOf105
 v85 := Tryd.zeroValue105
 t127 := Tryd.underlying79
 a127 := Tryd.isAgg79
 z127 := Tryd.sizeOf79
 v127 := Tryd.zeroValue79
 t143 := Tryd.underlying129
 a143 := Tryd.isAgg129
 z143 := Tryd.sizeOf129
 v143 := Tryd.zeroValue129
 t145 := Tryd.underlying131
 a145 := Tryd.isAgg131
 z145 := Tryd.sizeOf131
 v145 := Tryd.zeroValue131
 t167 := Tryd.underlying104
 a167 := Tryd.isAgg104
 z167 := Tryd.sizeOf104
 v167 := Tryd.zeroValue104
 t168 := Tryd.underlying107
 a168 := Tryd.isAgg107
 z168 := Tryd.sizeOf107
 v168 := Tryd.zeroValue107
 t171 := Tryd.underlying110
 a171 := Tryd.isAgg110
 z171 := Tryd.sizeOf110
 v171 := Tryd.zeroValue110
 t173 := Tryd.underlying114
 a173 := Tryd.isAgg114
 z173 := Tryd.sizeOf114
 v173 := Tryd.zeroValue114
 t175 := Tryd.underlying116
 a175 := Tryd.isAgg116
 z175 := Tryd.sizeOf116
 v175 := Tryd.zeroValue116
 t210 := Tryd.underlying120
 a210 := Tryd.isAgg120
 z210 := Tryd.sizeOf120
 v210 := Tryd.zeroValue120
 t212 := Tryd.underlying124
 a212 := Tryd.isAgg124
 z212 := Tryd.sizeOf124
 v212 := Tryd.zeroValue124
 t213 := Tryd.underlying126
 a213 := Tryd.isAgg126
 z213 := Tryd.sizeOf126
 t232 := Tryd.underlying133
 a232 := Tryd.isAgg133
 z232 := Tryd.sizeOf133
 v232 := Tryd.zeroValue133
 t233 := Tryd.underlying134
 a233 := Tryd.isAgg134
 z233 := Tryd.sizeOf134
 v233 := Tryd.zeroValue134
 g15 := by kernel_rfl
 g16 := by kernel_rfl
 g17 := by kernel_rfl
 g18 := by kernel_rfl
 g19 := by kernel_rfl
 t80 := Tryd.underlying59
 a80 := Tryd.isAgg59
 z80 := Tryd.sizeOf59
 v80 := Tryd.zeroValue59
 i0 := by kernel_rfl
 i2 := by kernel_rfl
 i3 := by kernel_rfl
 i4 := by kernel_rfl
 i5 := by kernel_rfl
 i9 := by kernel_rfl
 i20 := by kernel_rfl
 i21 := by kernel_rfl
 i37 := by kernel_rfl
 i46 := by kernel_rfl
 i51 := by kernel_rfl
 i53 := by kernel_rfl
 i75 := by kernel_rfl
 i76 := by kernel_rfl
 i80 := by kernel_rfl
 i85 := by kernel_rfl
 i127 := by kernel_rfl
 i143 := by kernel_rfl
 i145 := by kernel_rfl
 i167 := by kernel_rfl
 i168 := by kernel_rfl
 i171 := by kernel_rfl
 i173 := by kernel_rfl
 i175 := by kernel_rfl
 i210 := by kernel_rfl
 i212 := by kernel_rfl
 i232 := by kernel_rfl
 i233 := by kernel_rfl
 m15 := by kernel_rfl
 m16 := by kernel_rfl
 m17 := by kernel_rfl
 m18 := by kernel_rfl
 m19 := by kernel_rfl
 c0 := by kernel_rfl
 c2 := by kernel_rfl
 c3 := by kernel_rfl
 c4 := by kernel_rfl
 c5 := by kernel_rfl
 c9 := by kernel_rfl
 c20 := by kernel_rfl
 c21 := by kernel_rfl
 c37 := by kernel_rfl
 c46 := by kernel_rfl
 c51 := by kernel_rfl
 c53 := by kernel_rfl
 c75 := by kernel_rfl
 c76 := by kernel_rfl
 c80 := by kernel_rfl
 c85 := by kernel_rfl
 c127 := by kernel_rfl
 c143 := by kernel_rfl
 c145 := by kernel_rfl
 c167 := by kernel_rfl
 c168 := by kernel_rfl
 c171 := by kernel_rfl
 c173 := by kernel_rfl
 c175 := by kernel_rfl
 c210 := by kernel_rfl
 c212 := by kernel_rfl
 c213 := by kernel_rfl
 c232 := by kernel_rfl
 c233 := by kernel_rfl }
open Go.RowKit in
theorem Tryd.strconv_Atoi_ok (s : ByteArray) (hmax : s.size ≤ 9223372036854775806) (v : Int) (h : Lib.atoiAll s.data.toList = .ok v) (w : World) :
  Calls Tryd.prog 83 #[.string s] w fun e w' => e = .returned (.tuple #[.int .i64 v, .nilIface]) ∧ (w' = w ∨ ∃ t, w' = Lib.bytesWorld w 5 t) := Any.strconv_Atoi_ok Tryd.laysC172 s hmax v h w
open Go.RowKit in
theorem Tryd.strconv_Atoi_syntax (s : ByteArray) (hlim : s.size ≤ 281474976710656) (h : Lib.atoiAll s.data.toList = Lib.NumEnd.syntax) (ev : Value) (w : World) (hv : w.cell? ⟨0, 0, none⟩ = some ev) (hev : ev = .nilIface ∨ ∃ te pe, ev = .iface te pe) :
  Calls Tryd.prog 83 #[.string s] w fun e w' => ∃ N, e = .returned (.tuple #[.int .i64 (0), .iface 107 (.pointer (some ⟨N, 0, none⟩))]) ∧ w.heap.size ≤ N ∧ w'.heap[N]? = some (.cells #[.string ⟨#[65, 116, 111, 105]⟩, .string s, ev] 120 (0, 0)) ∧ Below w.heap.size w w' := Any.strconv_Atoi_syntax Tryd.laysC172 s hlim h ev w hv hev
open Go.RowKit in
theorem Tryd.strconv_Atoi_range (s : ByteArray) (hlim : s.size ≤ 281474976710656) (h : Lib.atoiAll s.data.toList = .range) (ev : Value) (w : World) (hv : w.cell? ⟨1, 0, none⟩ = some ev) (hev : ev = .nilIface ∨ ∃ te pe, ev = .iface te pe) :
  Calls Tryd.prog 83 #[.string s] w fun e w' => ∃ N, e = .returned (.tuple #[.int .i64 (Lib.atoiSat s.data.toList), .iface 107 (.pointer (some ⟨N, 0, none⟩))]) ∧ w.heap.size ≤ N ∧ w'.heap[N]? = some (.cells #[.string ⟨#[65, 116, 111, 105]⟩, .string s, ev] 120 (0, 0)) ∧ Below w.heap.size w w' := Any.strconv_Atoi_range Tryd.laysC172 s hlim h ev w hv hev
end Go.Proofs
