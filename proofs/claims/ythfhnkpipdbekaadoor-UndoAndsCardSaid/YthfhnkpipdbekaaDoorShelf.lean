-- CUT by a program of this session: what the claim does not use is left out
import Derived.Shelf.Strings.Builder1
import Derived.Shelf.Strconv.Atoi
import Derived.Shelf.Strconv.Itoa0
import Derived.Shelf.Strconv.Itoa1
import Derived.Shelf.LaysM
import Derived.Shelf.Strconv.Itoa2
import Derived.Shelf.Strconv.Itoa3
import Derived.Shelf.Strconv.AtoiErrFast
import Derived.Shelf.Strconv.ParseIntEmpty
import Derived.Shelf.Strconv.AtoiFail
import Derived.Shelf.Strconv.Clone
import Derived.Shelf.Strconv.SyntaxError
import Derived.Shelf.LaysC
import Derived.Shelf.Strconv.ToError
import Derived.Shelf.Strconv.Lower
import Derived.Shelf.Strconv.ParseUint10
import Derived.Shelf.Strconv.ParseUint10Empty
import Derived.Shelf.Strconv.ParseUint10Any
import Derived.Shelf.Strconv.ParseInt10
import Derived.Shelf.Strconv.AtoiLong
import Derived.Shelf.Strconv.AtoiInnerAll
import Derived.Shelf.Strconv.RangeError
import Derived.Shelf.Strconv.ToErrorRange
import Derived.Shelf.Strconv.AtoiAll
import Derived.Shelf.Strconv.ErrVarAll
import Derived.Shelf.Strings.Search1
import Derived.Shelf.Strings.Search2
import Derived.Shelf.Strings.Search3
import Derived.Shelf.Strings.Count
import Derived.Shelf.Strings.Shaped
import Derived.Shelf.Strings.Split
import Derived.Shelf.Strings.Fields
import Derived.Shelf.Strings.SplitShaped
import Derived.Shelf.Unicode.Latin
import Derived.Shelf.Unicode.DecodeSlow
import Derived.Shelf.Unicode.Is16White
import Derived.Shelf.Unicode.IsSpaceAny
import Derived.Shelf.Unicode.Is16WhiteD
import Derived.Shelf.Unicode.IsSpaceAnyD
import Derived.Shelf.Strings.FieldsAny
import Derived.Shelf.Strings.FieldsFuncAny
import Derived.Shelf.Unicode.Is16Any
import Derived.Shelf.Unicode.Is32Any
import Derived.Shelf.Unicode.ExclAny
import Derived.Test.YthfhnkpipdbekaaDoorProg
namespace Go.Proofs
open Go.Shelf
def Tryd.lays169_ren : Go.Shelf.Ren := ⟨fun | 169 => 87 | n => n, fun | 70 => 109 | 9 => 9 | 0 => 0 | 72 => 111 | 37 => 83 | 127 => 128 | 3 => 3 | 5 => 5 | n => n, fun | n => n⟩
theorem Tryd.lays169 : Go.Proofs.Lays.n169 Tryd.prog Tryd.lays169_ren := {
 mixed := by kernel_rfl
 f169 := Tryd.func87.trans (congrArg some (by kernel_rfl))
 t0 := Tryd.underlying0
 a0 := Tryd.isAgg0
 z0 := Tryd.sizeOf0
 v0 := Tryd.zeroValue0
 t3 := Tryd.underlying3
 a3 := Tryd.isAgg3
 z3 := Tryd.sizeOf3
 v3 := Tryd.zeroValue3
 t9 := Tryd.underlying9
 a9 := Tryd.isAgg9
 z9 := Tryd.sizeOf9
 v9 := Tryd.zeroValue9
 t37 := Tryd.underlying83
 a37 := Tryd.isAgg83
 z37 := Tryd.sizeOf83
 v37 := Tryd.zeroValue83
 t70 := Tryd.underlying109
 a70 := Tryd.isAgg109
 z70 := Tryd.sizeOf109
 v70 := Tryd.zeroValue109
 t72 := Tryd.underlying111
 a72 := Tryd.isAgg111
 z72 := Tryd.sizeOf111
 v72 := Tryd.zeroValue111
 t127 := Tryd.underlying128
 a127 := Tryd.isAgg128
 z127 := Tryd.sizeOf128
 v127 := Tryd.zeroValue128 }
theorem Tryd.Builder_Extra_169 : Builder.Extra Tryd.prog Tryd.lays169_ren := {
 sizeBuilder := by kernel_rfl
 liesBuilder := by kernel_rfl
 t5 := Tryd.underlying5
 a5 := Tryd.isAgg5
 z5 := Tryd.sizeOf5
 v5 := Tryd.zeroValue5
 infoByte := by kernel_rfl
 cellsByte := by kernel_rfl
 sizeByte := by kernel_rfl
 neB5 := by decide }
open Go.RowKit in
theorem Tryd.Builder_String_any (B b : Nat) (l : List UInt8) (w : World) (h : Lib.IsBuilder 111 5 B b (Lib.byteCells l) w) (hBw : B ≤ w.heap.size) :
  Calls Tryd.prog 87 #[.pointer (some ⟨b, 0, none⟩)] w fun e w' => e = .returned (.string ⟨l.toArray⟩) ∧ Below B w w' := Any.Builder_String_any Tryd.lays169 Tryd.Builder_Extra_169 B b l w h hBw
def Tryd.laysM171_ren : Go.Shelf.Ren := ⟨fun | 171 => 83 | 243 => 99 | 246 => 111 | 283 => 123 | 284 => 124 | 285 => 125 | 286 => 126 | 129 => 132 | 317 => 131 | 318 => 133 | 319 => 134 | 320 => 135 | 337 => 136 | 338 => 137 | n => n, fun | 3 => 3 | 9 => 9 | 2 => 2 | 4 => 4 | 171 => 160 | 0 => 0 | 53 => 153 | 37 => 83 | 5 => 5 | 173 => 163 | 212 => 177 | 51 => 125 | 20 => 20 | 213 => 178 | 46 => 152 | 232 => 181 | 233 => 182 | n => n, fun | 17 => 7 | 18 => 8 | 19 => 9 | n => n⟩
theorem Tryd.laysM171 : Go.Proofs.LaysM.n171 Tryd.prog Tryd.laysM171_ren := {
 mixed := by kernel_rfl
 f129 := Tryd.func132.trans (congrArg some (by kernel_rfl))
 f171 := Tryd.func83.trans (congrArg some (by kernel_rfl))
 f243 := Tryd.func99.trans (congrArg some (by kernel_rfl))
 f246 := Tryd.func111.trans (congrArg some (by kernel_rfl))
 f283 := Tryd.func123.trans (congrArg some (by kernel_rfl))
 f284 := Tryd.func124.trans (congrArg some (by kernel_rfl))
 f285 := Tryd.func125.trans (congrArg some (by kernel_rfl))
 f286 := Tryd.func126.trans (congrArg some (by kernel_rfl))
 f317 := Tryd.func131.trans (congrArg some (by kernel_rfl))
 f318 := Tryd.func133.trans (congrArg some (by kernel_rfl))
 f319 := Tryd.func134.trans (congrArg some (by kernel_rfl))
 f320 := Tryd.func135.trans (congrArg some (by kernel_rfl))
 f337 := Tryd.func136.trans (congrArg some (by kernel_rfl))
 f338 := Tryd.func137.trans (congrArg some (by kernel_rfl))
 t0 := Tryd.underlying0
 a0 := Tryd.isAgg0
 z0 := Tryd.sizeOf0
 v0 := Tryd.zeroValue0
 t2 := Tryd.underlying2
 a2 := Tryd.isAgg2
 z2 := Tryd.sizeOf2
 v2 := Tryd.zeroValue2
 t3 := Tryd.underlying3
 a3 := Tryd.isAgg3
 z3 := Tryd.sizeOf3
 v3 := Tryd.zeroValue3
 t4 := Tryd.underlying4
 a4 := Tryd.isAgg4
 z4 := Tryd.sizeOf4
 v4 := Tryd.zeroValue4
 t5 := Tryd.underlying5
 a5 := Tryd.isAgg5
 z5 := Tryd.sizeOf5
 v5 := Tryd.zeroValue5
 t9 := Tryd.underlying9
 a9 := Tryd.isAgg9
 z9 := Tryd.sizeOf9
 v9 := Tryd.zeroValue9
 t20 := Tryd.underlying20
 a20 := Tryd.isAgg20
 z20 := Tryd.sizeOf20
 v20 := Tryd.zeroValue20
 t37 := Tryd.underlying83
 a37 := Tryd.isAgg83
 z37 := Tryd.sizeOf83
 v37 := Tryd.zeroValue83
 t46 := Tryd.underlying152
 a46 := Tryd.isAgg152
 z46 := Tryd.sizeOf152
 v46 := Tryd.zeroValue152
 t51 := Tryd.underlying125
 a51 := Tryd.isAgg125
 z51 := Tryd.sizeOf125
 v51 := Tryd.zeroValue125
 t53 := Tryd.underlying153
 a53 := Tryd.isAgg153
 z53 := Tryd.sizeOf153
 v53 := Tryd.zeroValue153
 t171 := Tryd.underlying160
 a171 := Tryd.isAgg160
 z171 := Tryd.sizeOf160
 v171 := Tryd.zeroValue160
 t173 := Tryd.underlying163
 a173 := Tryd.isAgg163
 z173 := Tryd.sizeOf163
 v173 := Tryd.zeroValue163
 t212 := Tryd.underlying177
 a212 := Tryd.isAgg177
 z212 := Tryd.sizeOf177
 v212 := Tryd.zeroValue177
 t213 := Tryd.underlying178
 a213 := Tryd.isAgg178
 z213 := Tryd.sizeOf178
 t232 := Tryd.underlying181
 a232 := Tryd.isAgg181
 z232 := Tryd.sizeOf181
 v232 := Tryd.zeroValue181
 t233 := Tryd.underlying182
 a233 := Tryd.isAgg182
 z233 := Tryd.sizeOf182
 v233 := Tryd.zeroValue182
 g17 := by kernel_rfl
 g18 := by kernel_rfl
 g19 := by kernel_rfl
 i0 := by kernel_rfl
 i2 := by kernel_rfl
 i3 := by kernel_rfl
 i4 := by kernel_rfl
 i5 := by kernel_rfl
 i9 := by kernel_rfl
 i20 := by kernel_rfl
 i37 := by kernel_rfl
 i46 := by kernel_rfl
 i51 := by kernel_rfl
 i53 := by kernel_rfl
 i171 := by kernel_rfl
 i173 := by kernel_rfl
 i212 := by kernel_rfl
 i232 := by kernel_rfl
 i233 := by kernel_rfl
 m17 := by kernel_rfl
 m18 := by kernel_rfl
 m19 := by kernel_rfl }
open Go.RowKit Go.Sort Go.Lib in
theorem Tryd.strconv_Itoa (n : Int) (h0 : -9223372036854775808 ≤ n) (h1 : n ≤ 9223372036854775807) (w : World) (htab : Lib.TabIs Tryd.prog w "internal/strconv.uint64pow10" .u64 Lib.pow10Tab) :
  Calls Tryd.prog 83 #[.int .i64 n] w fun e w' => e = .returned (.string ⟨(Lib.itoa n).toArray⟩) ∧ ∃ k os, w' = grow (w.drewN k) os := Any.strconv_Itoa Tryd.laysM171 n h0 h1 w htab
def Tryd.laysC172_ren : Go.Shelf.Ren := ⟨fun | 172 => 82 | 244 => 97 | 245 => 98 | 247 => 106 | 279 => 107 | 280 => 108 | 281 => 109 | 282 => 110 | 287 => 120 | 316 => 121 | 171 => 83 | 205 => 122 | 321 => 129 | 322 => 130 | 243 => 99 | 246 => 111 | 283 => 123 | 284 => 124 | 285 => 125 | 286 => 126 | 129 => 132 | 317 => 131 | 318 => 133 | 319 => 134 | 320 => 135 | 337 => 136 | 338 => 137 | n => n, fun | 9 => 9 | 3 => 3 | 75 => 103 | 76 => 104 | 4 => 4 | 5 => 5 | 167 => 132 | 37 => 83 | 0 => 0 | 85 => 133 | 2 => 2 | 168 => 135 | 53 => 153 | 175 => 154 | 46 => 152 | 210 => 158 | 127 => 128 | 145 => 175 | 143 => 173 | 21 => 21 | 171 => 160 | 173 => 163 | 212 => 177 | 51 => 125 | 20 => 20 | 213 => 178 | 232 => 181 | 233 => 182 | 80 => 112 | n => n, fun | 15 => 3 | 16 => 4 | 17 => 7 | 18 => 8 | 19 => 9 | n => n⟩
theorem Tryd.laysC172 : Go.Proofs.LaysC.n172 Tryd.prog Tryd.laysC172_ren := {
 mixed := by kernel_rfl
 f129 := Tryd.func132.trans (congrArg some (by kernel_rfl))
 f171 := Tryd.func83.trans (congrArg some (by kernel_rfl))
 f172 := Tryd.func82.trans (congrArg some (by kernel_rfl))
 f205 := Tryd.func122.trans (congrArg some (by kernel_rfl))
 f243 := Tryd.func99.trans (congrArg some (by kernel_rfl))
 f244 := Tryd.func97.trans (congrArg some (by kernel_rfl))
 f245 := Tryd.func98.trans (congrArg some (by kernel_rfl))
 f246 := Tryd.func111.trans (congrArg some (by kernel_rfl))
 f247 := Tryd.func106.trans (congrArg some (by kernel_rfl))
 f279 := Tryd.func107.trans (congrArg some (by kernel_rfl))
 f280 := Tryd.func108.trans (congrArg some (by kernel_rfl))
 f281 := Tryd.func109.trans (congrArg some (by kernel_rfl))
 f282 := Tryd.func110.trans (congrArg some (by kernel_rfl))
 f283 := Tryd.func123.trans (congrArg some (by kernel_rfl))
 f284 := Tryd.func124.trans (congrArg some (by kernel_rfl))
 f285 := Tryd.func125.trans (congrArg some (by kernel_rfl))
 f286 := Tryd.func126.trans (congrArg some (by kernel_rfl))
 f287 := Tryd.func120.trans (congrArg some (by kernel_rfl))
 f316 := Tryd.func121.trans (congrArg some (by kernel_rfl))
 f317 := Tryd.func131.trans (congrArg some (by kernel_rfl))
 f318 := Tryd.func133.trans (congrArg some (by kernel_rfl))
 f319 := Tryd.func134.trans (congrArg some (by kernel_rfl))
 f320 := Tryd.func135.trans (congrArg some (by kernel_rfl))
 f321 := Tryd.func129.trans (congrArg some (by kernel_rfl))
 f322 := Tryd.func130.trans (congrArg some (by kernel_rfl))
 f337 := Tryd.func136.trans (congrArg some (by kernel_rfl))
 f338 := Tryd.func137.trans (congrArg some (by kernel_rfl))
 t0 := Tryd.underlying0
 a0 := Tryd.isAgg0
 z0 := Tryd.sizeOf0
 v0 := Tryd.zeroValue0
 t2 := Tryd.underlying2
 a2 := Tryd.isAgg2
 z2 := Tryd.sizeOf2
 v2 := Tryd.zeroValue2
 t3 := Tryd.underlying3
 a3 := Tryd.isAgg3
 z3 := Tryd.sizeOf3
 v3 := Tryd.zeroValue3
 t4 := Tryd.underlying4
 a4 := Tryd.isAgg4
 z4 := Tryd.sizeOf4
 v4 := Tryd.zeroValue4
 t5 := Tryd.underlying5
 a5 := Tryd.isAgg5
 z5 := Tryd.sizeOf5
 v5 := Tryd.zeroValue5
 t9 := Tryd.underlying9
 a9 := Tryd.isAgg9
 z9 := Tryd.sizeOf9
 v9 := Tryd.zeroValue9
 t20 := Tryd.underlying20
 a20 := Tryd.isAgg20
 z20 := Tryd.sizeOf20
 v20 := Tryd.zeroValue20
 t21 := Tryd.underlying21
 a21 := Tryd.isAgg21
 z21 := Tryd.sizeOf21
 v21 := Tryd.zeroValue21
 t37 := Tryd.underlying83
 a37 := Tryd.isAgg83
 z37 := Tryd.sizeOf83
 v37 := Tryd.zeroValue83
 t46 := Tryd.underlying152
 a46 := Tryd.isAgg152
 z46 := Tryd.sizeOf152
 v46 := Tryd.zeroValue152
 t51 := Tryd.underlying125
 a51 := Tryd.isAgg125
 z51 := Tryd.sizeOf125
 v51 := Tryd.zeroValue125
 t53 := Tryd.underlying153
 a53 := Tryd.isAgg153
 z53 := Tryd.sizeOf153
 v53 := Tryd.zeroValue153
 t75 := Tryd.underlying103
 a75 := Tryd.isAgg103
 z75 := Tryd.sizeOf103
 v75 := Tryd.zeroValue103
 t76 := Tryd.underlying104
 a76 := Tryd.isAgg104
 z76 := Tryd.sizeOf104
 v76 := Tryd.zeroValue104
 t85 := Tryd.underlying133
 a85 := Tryd.isAgg133
 z85 := Tryd.sizeOf133
 v85 := Tryd.zeroValue133
 t127 := Tryd.underlying128
 a127 := Tryd.isAgg128
 z127 := Tryd.sizeOf128
 v127 := Tryd.zeroValue128
 t143 := Tryd.underlying173
 a143 := Tryd.isAgg173
 z143 := Tryd.sizeOf173
 v143 := Tryd.zeroValue173
 t145 := Tryd.underlying175
 a145 := Tryd.isAgg175
 z145 := Tryd.sizeOf175
 v145 := Tryd.zeroValue175
 t167 := Tryd.underlying132
 a167 := Tryd.isAgg132
 z167 := Tryd.sizeOf132
 v167 := Tryd.zeroValue132
 t168 := Tryd.underlying135
 a168 := Tryd.isAgg135
 z168 := Tryd.sizeOf135
 v168 := Tryd.zeroValue135
 t171 := Tryd.underlying160
 a171 := Tryd.isAgg160
 z171 := Tryd.sizeOf160
 v171 := Tryd.zeroValue160
 t173 := Tryd.underlying163
 a173 := Tryd.isAgg163
 z173 := Tryd.sizeOf163
 v173 := Tryd.zeroValue163
 t175 := Tryd.underlying154
 a175 := Tryd.isAgg154
 z175 := Tryd.sizeOf154
 v175 := Tryd.zeroValue154
 t210 := Tryd.underlying158
 a210 := Tryd.isAgg158
 z210 := Tryd.sizeOf158
 v210 := Tryd.zeroValue158
 t212 := Tryd.underlying177
 a212 := Tryd.isAgg177
 z212 := Tryd.sizeOf177
 v212 := Tryd.zeroValue177
 t213 := Tryd.underlying178
 a213 := Tryd.isAgg178
 z213 := Tryd.sizeOf178
 t232 := Tryd.underlying181
 a232 := Tryd.isAgg181
 z232 := Tryd.sizeOf181
 v232 := Tryd.zeroValue181
 t233 := Tryd.underlying182
 a233 := Tryd.isAgg182
 z233 := Tryd.sizeOf182
 v233 := Tryd.zeroValue182
 g15 := by kernel_rfl
 g16 := by kernel_rfl
 g17 := by kernel_rfl
 g18 := by kernel_rfl
 g19 := by kernel_rfl
 t80 := Tryd.underlying112
 a80 := Tryd.isAgg112
 z80 := Tryd.sizeOf112
 v80 := Tryd.zeroValue112
 i0 := by kernel_rfl
 i2 := by kernel_rfl
 i3 := by kernel_rfl
 i4 := by kernel_rfl
 i5 := by kernel_rfl
 i9 := by kernel_rfl
 i20 := by kernel_rfl
 i21 := by kernel_rfl
 i37 := by kernel_rfl
 i46 := by kernel_rfl
 i51 := by kernel_rfl
 i53 := by kernel_rfl
 i75 := by kernel_rfl
 i76 := by kernel_rfl
 i80 := by kernel_rfl
 i85 := by kernel_rfl
 i127 := by kernel_rfl
 i143 := by kernel_rfl
 i145 := by kernel_rfl
 i167 := by kernel_rfl
 i168 := by kernel_rfl
 i171 := by kernel_rfl
 i173 := by kernel_rfl
 i175 := by kernel_rfl
 i210 := by kernel_rfl
 i212 := by kernel_rfl
 i232 := by kernel_rfl
 i233 := by kernel_rfl
 m15 := by kernel_rfl
 m16 := by kernel_rfl
 m17 := by kernel_rfl
 m18 := by kernel_rfl
 m19 := by kernel_rfl
 c0 := by kernel_rfl
 c2 := by kernel_rfl
 c3 := by kernel_rfl
 c4 := by kernel_rfl
 c5 := by kernel_rfl
 c9 := by kernel_rfl
 c20 := by kernel_rfl
 c21 := by kernel_rfl
 c37 := by kernel_rfl
 c46 := by kernel_rfl
 c51 := by kernel_rfl
 c53 := by kernel_rfl
 c75 := by kernel_rfl
 c76 := by kernel_rfl
 c80 := by kernel_rfl
 c85 := by kernel_rfl
 c127 := by kernel_rfl
 c143 := by kernel_rfl
 c145 := by kernel_rfl
 c167 := by kernel_rfl
 c168 := by kernel_rfl
 c171 := by kernel_rfl
 c173 := by kernel_rfl
 c175 := by kernel_rfl
 c210 := by kernel_rfl
 c212 := by kernel_rfl
 c213 := by kernel_rfl
 c232 := by kernel_rfl
 c233 := by kernel_rfl }
open Go.RowKit in
theorem Tryd.strconv_Atoi_ok (s : ByteArray) (hmax : s.size ≤ 9223372036854775806) (v : Int) (h : Lib.atoiAll s.data.toList = .ok v) (w : World) :
  Calls Tryd.prog 82 #[.string s] w fun e w' => e = .returned (.tuple #[.int .i64 v, .nilIface]) ∧ (w' = w ∨ ∃ t, w' = Lib.bytesWorld w 5 t) := Any.strconv_Atoi_ok Tryd.laysC172 s hmax v h w
open Go.RowKit in
theorem Tryd.strconv_Atoi_syntax (s : ByteArray) (hlim : s.size ≤ 281474976710656) (h : Lib.atoiAll s.data.toList = Lib.NumEnd.syntax) (ev : Value) (w : World) (hv : w.cell? ⟨3, 0, none⟩ = some ev) (hev : ev = .nilIface ∨ ∃ te pe, ev = .iface te pe) :
  Calls Tryd.prog 82 #[.string s] w fun e w' => ∃ N, e = .returned (.tuple #[.int .i64 (0), .iface 135 (.pointer (some ⟨N, 0, none⟩))]) ∧ w.heap.size ≤ N ∧ w'.heap[N]? = some (.cells #[.string ⟨#[65, 116, 111, 105]⟩, .string s, ev] 158 (0, 0)) ∧ Below w.heap.size w w' := Any.strconv_Atoi_syntax Tryd.laysC172 s hlim h ev w hv hev
open Go.RowKit in
theorem Tryd.strconv_Atoi_range (s : ByteArray) (hlim : s.size ≤ 281474976710656) (h : Lib.atoiAll s.data.toList = .range) (ev : Value) (w : World) (hv : w.cell? ⟨4, 0, none⟩ = some ev) (hev : ev = .nilIface ∨ ∃ te pe, ev = .iface te pe) :
  Calls Tryd.prog 82 #[.string s] w fun e w' => ∃ N, e = .returned (.tuple #[.int .i64 (Lib.atoiSat s.data.toList), .iface 135 (.pointer (some ⟨N, 0, none⟩))]) ∧ w.heap.size ≤ N ∧ w'.heap[N]? = some (.cells #[.string ⟨#[65, 116, 111, 105]⟩, .string s, ev] 158 (0, 0)) ∧ Below w.heap.size w w' := Any.strconv_Atoi_range Tryd.laysC172 s hlim h ev w hv hev
def Tryd.lays146_ren : Go.Shelf.Ren := ⟨fun | 146 => 47 | 221 => 81 | 268 => 94 | 138 => 95 | 143 => 96 | 195 => 102 | 197 => 103 | 218 => 104 | 219 => 105 | 260 => 115 | 217 => 116 | 225 => 117 | 224 => 118 | 267 => 119 | 266 => 127 | 314 => 128 | n => n, fun | 9 => 9 | 31 => 63 | 3 => 3 | 4 => 4 | 0 => 0 | 105 => 129 | 21 => 21 | 5 => 5 | 46 => 152 | 119 => 106 | 139 => 169 | 138 => 168 | 146 => 170 | 51 => 125 | n => n, fun | 1 => 2 | 3 => 5 | 4 => 6 | n => n⟩
theorem Tryd.lays146 : Go.Proofs.Lays.n146 Tryd.prog Tryd.lays146_ren := {
 mixed := by kernel_rfl
 f138 := Tryd.func95.trans (congrArg some (by kernel_rfl))
 f143 := Tryd.func96.trans (congrArg some (by kernel_rfl))
 f146 := Tryd.func47.trans (congrArg some (by kernel_rfl))
 f195 := Tryd.func102.trans (congrArg some (by kernel_rfl))
 f197 := Tryd.func103.trans (congrArg some (by kernel_rfl))
 f217 := Tryd.func116.trans (congrArg some (by kernel_rfl))
 f218 := Tryd.func104.trans (congrArg some (by kernel_rfl))
 f219 := Tryd.func105.trans (congrArg some (by kernel_rfl))
 f221 := Tryd.func81.trans (congrArg some (by kernel_rfl))
 f224 := Tryd.func118.trans (congrArg some (by kernel_rfl))
 f225 := Tryd.func117.trans (congrArg some (by kernel_rfl))
 f260 := Tryd.func115.trans (congrArg some (by kernel_rfl))
 f266 := Tryd.func127.trans (congrArg some (by kernel_rfl))
 f267 := Tryd.func119.trans (congrArg some (by kernel_rfl))
 f268 := Tryd.func94.trans (congrArg some (by kernel_rfl))
 f314 := Tryd.func128.trans (congrArg some (by kernel_rfl))
 t0 := Tryd.underlying0
 a0 := Tryd.isAgg0
 z0 := Tryd.sizeOf0
 v0 := Tryd.zeroValue0
 t3 := Tryd.underlying3
 a3 := Tryd.isAgg3
 z3 := Tryd.sizeOf3
 v3 := Tryd.zeroValue3
 t4 := Tryd.underlying4
 a4 := Tryd.isAgg4
 z4 := Tryd.sizeOf4
 v4 := Tryd.zeroValue4
 t5 := Tryd.underlying5
 a5 := Tryd.isAgg5
 z5 := Tryd.sizeOf5
 v5 := Tryd.zeroValue5
 t9 := Tryd.underlying9
 a9 := Tryd.isAgg9
 z9 := Tryd.sizeOf9
 v9 := Tryd.zeroValue9
 t21 := Tryd.underlying21
 a21 := Tryd.isAgg21
 z21 := Tryd.sizeOf21
 v21 := Tryd.zeroValue21
 t31 := Tryd.underlying63
 a31 := Tryd.isAgg63
 z31 := Tryd.sizeOf63
 v31 := Tryd.zeroValue63
 t46 := Tryd.underlying152
 a46 := Tryd.isAgg152
 z46 := Tryd.sizeOf152
 v46 := Tryd.zeroValue152
 t51 := Tryd.underlying125
 a51 := Tryd.isAgg125
 z51 := Tryd.sizeOf125
 v51 := Tryd.zeroValue125
 t105 := Tryd.underlying129
 a105 := Tryd.isAgg129
 z105 := Tryd.sizeOf129
 v105 := Tryd.zeroValue129
 t119 := Tryd.underlying106
 a119 := Tryd.isAgg106
 z119 := Tryd.sizeOf106
 t138 := Tryd.underlying168
 a138 := Tryd.isAgg168
 z138 := Tryd.sizeOf168
 v138 := Tryd.zeroValue168
 t139 := Tryd.underlying169
 a139 := Tryd.isAgg169
 z139 := Tryd.sizeOf169
 v139 := Tryd.zeroValue169
 t146 := Tryd.underlying170
 a146 := Tryd.isAgg170
 z146 := Tryd.sizeOf170
 v146 := Tryd.zeroValue170
 g1 := by kernel_rfl
 g3 := by kernel_rfl
 g4 := by kernel_rfl }
open Go.RowKit Go.Lib in
theorem Tryd.strings_Split (s sep : ByteArray) (m : Int) (w : World) (hs : s.size < 4294967281) (hm : w.cell? ⟨2, 0, none⟩ = some (.int .i64 m)) (h1 : 1 ≤ sep.size) :
  Calls Tryd.prog 47 #[.string s, .string sep] w fun e w' =>
   e = .returned (.slice (some ⟨w.heap.size, 0, none⟩) (Lib.countB s sep + 1) (Lib.countB s sep + 1)) ∧ w' = w.alloc (.cells ((Lib.splitB sep 0 (Lib.countB s sep) s).map Value.string).toArray 9) := Any.strings_Split Tryd.lays146 (by kernel_rfl) s sep m w hs hm h1
def Tryd.laysM157_ren : Go.Shelf.Ren := ⟨fun | 157 => 50 | 229 => 84 | 199 => 85 | 261 => 100 | 311 => 112 | 312 => 113 | n => n, fun | 9 => 9 | 31 => 63 | 3 => 3 | 5 => 5 | 4 => 4 | 119 => 106 | 0 => 0 | 40 => 108 | 152 => 122 | 21 => 21 | 154 => 124 | 51 => 125 | 141 => 127 | 196 => 142 | 193 => 139 | 198 => 145 | 49 => 143 | 194 => 140 | 201 => 148 | 226 => 165 | 46 => 152 | 227 => 166 | n => n, fun | 0 => 0 | 6 => 1 | n => n⟩
theorem Tryd.laysM157 : Go.Proofs.LaysM.n157 Tryd.prog Tryd.laysM157_ren := {
 mixed := by kernel_rfl
 f157 := Tryd.func50.trans (congrArg some (by kernel_rfl))
 f199 := Tryd.func85.trans (congrArg some (by kernel_rfl))
 f229 := Tryd.func84.trans (congrArg some (by kernel_rfl))
 f261 := Tryd.func100.trans (congrArg some (by kernel_rfl))
 f311 := Tryd.func112.trans (congrArg some (by kernel_rfl))
 f312 := Tryd.func113.trans (congrArg some (by kernel_rfl))
 t0 := Tryd.underlying0
 a0 := Tryd.isAgg0
 z0 := Tryd.sizeOf0
 v0 := Tryd.zeroValue0
 t3 := Tryd.underlying3
 a3 := Tryd.isAgg3
 z3 := Tryd.sizeOf3
 v3 := Tryd.zeroValue3
 t4 := Tryd.underlying4
 a4 := Tryd.isAgg4
 z4 := Tryd.sizeOf4
 v4 := Tryd.zeroValue4
 t5 := Tryd.underlying5
 a5 := Tryd.isAgg5
 z5 := Tryd.sizeOf5
 v5 := Tryd.zeroValue5
 t9 := Tryd.underlying9
 a9 := Tryd.isAgg9
 z9 := Tryd.sizeOf9
 v9 := Tryd.zeroValue9
 t21 := Tryd.underlying21
 a21 := Tryd.isAgg21
 z21 := Tryd.sizeOf21
 v21 := Tryd.zeroValue21
 t31 := Tryd.underlying63
 a31 := Tryd.isAgg63
 z31 := Tryd.sizeOf63
 v31 := Tryd.zeroValue63
 t40 := Tryd.underlying108
 a40 := Tryd.isAgg108
 z40 := Tryd.sizeOf108
 v40 := Tryd.zeroValue108
 t46 := Tryd.underlying152
 a46 := Tryd.isAgg152
 z46 := Tryd.sizeOf152
 v46 := Tryd.zeroValue152
 t49 := Tryd.underlying143
 a49 := Tryd.isAgg143
 z49 := Tryd.sizeOf143
 v49 := Tryd.zeroValue143
 t51 := Tryd.underlying125
 a51 := Tryd.isAgg125
 z51 := Tryd.sizeOf125
 v51 := Tryd.zeroValue125
 t119 := Tryd.underlying106
 a119 := Tryd.isAgg106
 z119 := Tryd.sizeOf106
 t141 := Tryd.underlying127
 a141 := Tryd.isAgg127
 z141 := Tryd.sizeOf127
 v141 := Tryd.zeroValue127
 t152 := Tryd.underlying122
 a152 := Tryd.isAgg122
 z152 := Tryd.sizeOf122
 v152 := Tryd.zeroValue122
 t154 := Tryd.underlying124
 a154 := Tryd.isAgg124
 z154 := Tryd.sizeOf124
 v154 := Tryd.zeroValue124
 t193 := Tryd.underlying139
 a193 := Tryd.isAgg139
 z193 := Tryd.sizeOf139
 v193 := Tryd.zeroValue139
 t194 := Tryd.underlying140
 a194 := Tryd.isAgg140
 z194 := Tryd.sizeOf140
 v194 := Tryd.zeroValue140
 t196 := Tryd.underlying142
 a196 := Tryd.isAgg142
 z196 := Tryd.sizeOf142
 v196 := Tryd.zeroValue142
 t198 := Tryd.underlying145
 a198 := Tryd.isAgg145
 z198 := Tryd.sizeOf145
 v198 := Tryd.zeroValue145
 t201 := Tryd.underlying148
 a201 := Tryd.isAgg148
 z201 := Tryd.sizeOf148
 v201 := Tryd.zeroValue148
 t226 := Tryd.underlying165
 a226 := Tryd.isAgg165
 z226 := Tryd.sizeOf165
 v226 := Tryd.zeroValue165
 t227 := Tryd.underlying166
 a227 := Tryd.isAgg166
 z227 := Tryd.sizeOf166
 v227 := Tryd.zeroValue166
 g0 := by kernel_rfl
 g6 := by kernel_rfl
 i0 := by kernel_rfl
 i3 := by kernel_rfl
 i4 := by kernel_rfl
 i5 := by kernel_rfl
 i9 := by kernel_rfl
 i21 := by kernel_rfl
 i31 := by kernel_rfl
 i40 := by kernel_rfl
 i46 := by kernel_rfl
 i49 := by kernel_rfl
 i51 := by kernel_rfl
 i141 := by kernel_rfl
 i152 := by kernel_rfl
 i154 := by kernel_rfl
 i193 := by kernel_rfl
 i194 := by kernel_rfl
 i196 := by kernel_rfl
 i198 := by kernel_rfl
 i201 := by kernel_rfl
 i226 := by kernel_rfl
 i227 := by kernel_rfl
 m0 := by kernel_rfl
 m6 := by kernel_rfl }
open Go.RowKit Go.Lib in
theorem Tryd.strings_Fields_laid (s : ByteArray) (w : World) (hs : s.size < 4294967281) (hascii : ∀ (j : Nat) b, s.data.toList[j]? = some b → b.toNat < 128) (htab : Lib.TabIs Tryd.prog w "strings.asciiSpace" .u8 Lib.asciiSpaceTab) :
  Calls Tryd.prog 50 #[.string s] w fun e w' =>
   e = .returned (.slice (some ⟨w.heap.size, 0, none⟩) (Lib.fields s.data.toList).length (Lib.fields s.data.toList).length) ∧ w' = w.alloc (.cells ((Lib.fields s.data.toList).map fun l => Value.string ⟨l.toArray⟩).toArray 9) := Any.strings_Fields_laid Tryd.laysM157 s w hs hascii htab
end Go.Proofs
