/- SH GT XV GS XW XZ VA VB. -/
import Derived.Test.YtomkgfdigldhcaaGreatDoorLIE
import Derived.Shelf.Strings.Trim
import Derived.Shelf.Small.Bits
import Derived.Shelf.Small.Strs
import Derived.Shelf.Small.Wraps
import Derived.Shelf.Strconv.Itoa3
import Derived.Shelf.Strconv.Itoa4
import Derived.Shelf.Strings.Cut
import Derived.Shelf.Sort.Plain
import Derived.Shelf.Strings.Prefix
import Derived.Shelf.Strings.Runes
import Derived.Shelf.Bits.Mul64
import Derived.Shelf.Strings.Repeat
import Derived.Shelf.Slices.Turned
import Derived.Shelf.Slices.CompactS
import Derived.Shelf.Slices.In.SortNone
import Derived.Test.YtomkgfdigldhcaaGreatDoorProg
import Derived.Sort.OwnSorted
import Derived.RangeFuncRecord
set_option maxRecDepth 100000
namespace Go.Proofs
open Go.Shelf
def Tryz.lays162_ren : Go.Shelf.Ren := ⟨fun | 162 => 119 | 232 => 172 | 227 => 173 | 234 => 174 | 236 => 175 | 228 => 263 | 271 => 264 | 151 => 265 | 120 => 306 | 197 => 307 | 152 => 308 | 260 => 323 | 137 => 170 | 119 => 324 | 224 => 325 | 225 => 326 | 217 => 258 | 266 => 301 | n => n, fun | 9 => 9 | 4 => 4 | 3 => 3 | 5 => 5 | 117 => 218 | 116 => 217 | 0 => 0 | 124 => 221 | 21 => 21 | 105 => 269 | 46 => 172 | 119 => 331 | 139 => 334 | 138 => 333 | n => n, fun | 3 => 8 | 4 => 9 | n => n⟩
theorem Tryz.lays162 : Go.Proofs.Lays.n162 Tryz.prog Tryz.lays162_ren := {
 mixed := by kernel_rfl
 f119 := Tryz.func324.trans (congrArg some (by kernel_rfl))
 f120 := Tryz.func306.trans (congrArg some (by kernel_rfl))
 f137 := Tryz.func170.trans (congrArg some (by kernel_rfl))
 f151 := Tryz.func265.trans (congrArg some (by kernel_rfl))
 f152 := Tryz.func308.trans (congrArg some (by kernel_rfl))
 f162 := Tryz.func119.trans (congrArg some (by kernel_rfl))
 f197 := Tryz.func307.trans (congrArg some (by kernel_rfl))
 f217 := Tryz.func258.trans (congrArg some (by kernel_rfl))
 f224 := Tryz.func325.trans (congrArg some (by kernel_rfl))
 f225 := Tryz.func326.trans (congrArg some (by kernel_rfl))
 f227 := Tryz.func173.trans (congrArg some (by kernel_rfl))
 f228 := Tryz.func263.trans (congrArg some (by kernel_rfl))
 f232 := Tryz.func172.trans (congrArg some (by kernel_rfl))
 f234 := Tryz.func174.trans (congrArg some (by kernel_rfl))
 f236 := Tryz.func175.trans (congrArg some (by kernel_rfl))
 f260 := Tryz.func323.trans (congrArg some (by kernel_rfl))
 f266 := Tryz.func301.trans (congrArg some (by kernel_rfl))
 f271 := Tryz.func264.trans (congrArg some (by kernel_rfl))
 t0 := Tryz.underlying0
 a0 := Tryz.isAgg0
 z0 := Tryz.sizeOf0
 v0 := Tryz.zeroValue0
 t3 := Tryz.underlying3
 a3 := Tryz.isAgg3
 z3 := Tryz.sizeOf3
 v3 := Tryz.zeroValue3
 t4 := Tryz.underlying4
 a4 := Tryz.isAgg4
 z4 := Tryz.sizeOf4
 v4 := Tryz.zeroValue4
 t5 := Tryz.underlying5
 a5 := Tryz.isAgg5
 z5 := Tryz.sizeOf5
 v5 := Tryz.zeroValue5
 t9 := Tryz.underlying9
 a9 := Tryz.isAgg9
 z9 := Tryz.sizeOf9
 v9 := Tryz.zeroValue9
 t21 := Tryz.underlying21
 a21 := Tryz.isAgg21
 z21 := Tryz.sizeOf21
 v21 := Tryz.zeroValue21
 t46 := Tryz.underlying172
 a46 := Tryz.isAgg172
 z46 := Tryz.sizeOf172
 v46 := Tryz.zeroValue172
 t105 := Tryz.underlying269
 a105 := Tryz.isAgg269
 z105 := Tryz.sizeOf269
 v105 := Tryz.zeroValue269
 t116 := Tryz.underlying217
 a116 := Tryz.isAgg217
 z116 := Tryz.sizeOf217
 t117 := Tryz.underlying218
 a117 := Tryz.isAgg218
 z117 := Tryz.sizeOf218
 v117 := Tryz.zeroValue218
 t119 := Tryz.underlying331
 a119 := Tryz.isAgg331
 z119 := Tryz.sizeOf331
 t124 := Tryz.underlying221
 a124 := Tryz.isAgg221
 z124 := Tryz.sizeOf221
 v124 := Tryz.zeroValue221
 t138 := Tryz.underlying333
 a138 := Tryz.isAgg333
 z138 := Tryz.sizeOf333
 v138 := Tryz.zeroValue333
 t139 := Tryz.underlying334
 a139 := Tryz.isAgg334
 z139 := Tryz.sizeOf334
 v139 := Tryz.zeroValue334
 g3 := by kernel_rfl
 g4 := by kernel_rfl }
open Go.RowKit in
theorem Tryz.strings_TrimRight_one (s : ByteArray) (c : UInt8) (hc : c.toNat < 128) (w : World) (hs : s.size ≤ 9223372036854775807) :
 Calls Tryz.prog 119 #[.string s, .string ⟨#[c]⟩] w fun e w' => e = .returned (.string ⟨(Lib.trimRightB s.data.toList c).toArray⟩) ∧ w' = w := Any.strings_TrimRight_one Tryz.lays162 s c hc w hs
def Tryz.lays134_ren : Go.Shelf.Ren := ⟨fun | 134 => 319 | 129 => 186 | n => n, fun | 53 => 234 | 3 => 3 | 4 => 4 | 46 => 172 | 5 => 5 | 9 => 9 | n => n, fun | n => n⟩
theorem Tryz.lays134 : Go.Proofs.Lays.n134 Tryz.prog Tryz.lays134_ren := {
 mixed := by kernel_rfl
 f129 := Tryz.func186.trans (congrArg some (by kernel_rfl))
 f134 := Tryz.func319.trans (congrArg some (by kernel_rfl))
 t3 := Tryz.underlying3
 a3 := Tryz.isAgg3
 z3 := Tryz.sizeOf3
 v3 := Tryz.zeroValue3
 t4 := Tryz.underlying4
 a4 := Tryz.isAgg4
 z4 := Tryz.sizeOf4
 v4 := Tryz.zeroValue4
 t5 := Tryz.underlying5
 a5 := Tryz.isAgg5
 z5 := Tryz.sizeOf5
 v5 := Tryz.zeroValue5
 t9 := Tryz.underlying9
 a9 := Tryz.isAgg9
 z9 := Tryz.sizeOf9
 v9 := Tryz.zeroValue9
 t46 := Tryz.underlying172
 a46 := Tryz.isAgg172
 z46 := Tryz.sizeOf172
 v46 := Tryz.zeroValue172
 t53 := Tryz.underlying234
 a53 := Tryz.isAgg234
 z53 := Tryz.sizeOf234
 v53 := Tryz.zeroValue234 }
theorem Tryz.bits_LeadingZeros64 (x : Int) (w : World) (h0 : 0 ≤ x) (h1 : x ≤ 18446744073709551615) :
 Calls Tryz.prog 319 #[.int .u64 x] w fun e w' => e = .returned (.int .i64 (64 - (Lib.bitLen x.toNat : Int))) ∧ w' = w := Any.bits_LeadingZeros64 Tryz.lays134 x w h0 h1
def Tryz.lays106_ren : Go.Shelf.Ren := ⟨fun | 106 => 154 | 213 => 224 | 265 => 286 | n => n, fun | 9 => 9 | 3 => 3 | n => n, fun | n => n⟩
theorem Tryz.lays106 : Go.Proofs.Lays.n106 Tryz.prog Tryz.lays106_ren := {
 mixed := by kernel_rfl
 f106 := Tryz.func154.trans (congrArg some (by kernel_rfl))
 f213 := Tryz.func224.trans (congrArg some (by kernel_rfl))
 f265 := Tryz.func286.trans (congrArg some (by kernel_rfl))
 t3 := Tryz.underlying3
 a3 := Tryz.isAgg3
 z3 := Tryz.sizeOf3
 v3 := Tryz.zeroValue3
 t9 := Tryz.underlying9
 a9 := Tryz.isAgg9
 z9 := Tryz.sizeOf9
 v9 := Tryz.zeroValue9 }
open Go.RowKit in
theorem Tryz.strings_Compare (a b : ByteArray) (w : World) :
 Calls Tryz.prog 154 #[.string a, .string b] w fun e w' => e = .returned (.int .i64 (Lib.compareBytes a.data.toList b.data.toList)) ∧ w' = w := Any.strings_Compare Tryz.lays106 a b w
def Tryz.lays137_ren : Go.Shelf.Ren := ⟨fun | 137 => 170 | 217 => 258 | 266 => 301 | n => n, fun | 9 => 9 | 5 => 5 | 3 => 3 | n => n, fun | n => n⟩
theorem Tryz.lays137 : Go.Proofs.Lays.n137 Tryz.prog Tryz.lays137_ren := {
 mixed := by kernel_rfl
 f137 := Tryz.func170.trans (congrArg some (by kernel_rfl))
 f217 := Tryz.func258.trans (congrArg some (by kernel_rfl))
 f266 := Tryz.func301.trans (congrArg some (by kernel_rfl))
 t3 := Tryz.underlying3
 a3 := Tryz.isAgg3
 z3 := Tryz.sizeOf3
 v3 := Tryz.zeroValue3
 t5 := Tryz.underlying5
 a5 := Tryz.isAgg5
 z5 := Tryz.sizeOf5
 v5 := Tryz.zeroValue5
 t9 := Tryz.underlying9
 a9 := Tryz.isAgg9
 z9 := Tryz.sizeOf9
 v9 := Tryz.zeroValue9 }
open Go.RowKit in
theorem Tryz.strings_IndexByte (s : ByteArray) (c : Int) (w : World) :
 Calls Tryz.prog 170 #[.string s, .int .u8 c] w fun e w' => e = .returned (.int .i64 (Lib.indexByte s.data.toList c.toNat.toUInt8)) ∧ w' = w := Any.strings_IndexByte Tryz.lays137 s c w
def Tryz.lays103_ren : Go.Shelf.Ren := ⟨fun | 103 => 332 | 210 => 343 | 206 => 300 | n => n, fun | 9 => 9 | 4 => 4 | 24 => 210 | 3 => 3 | n => n, fun | n => n⟩
theorem Tryz.lays103 : Go.Proofs.Lays.n103 Tryz.prog Tryz.lays103_ren := {
 mixed := by kernel_rfl
 f103 := Tryz.func332.trans (congrArg some (by kernel_rfl))
 f206 := Tryz.func300.trans (congrArg some (by kernel_rfl))
 f210 := Tryz.func343.trans (congrArg some (by kernel_rfl))
 t3 := Tryz.underlying3
 a3 := Tryz.isAgg3
 z3 := Tryz.sizeOf3
 v3 := Tryz.zeroValue3
 t4 := Tryz.underlying4
 a4 := Tryz.isAgg4
 z4 := Tryz.sizeOf4
 v4 := Tryz.zeroValue4
 t9 := Tryz.underlying9
 a9 := Tryz.isAgg9
 z9 := Tryz.sizeOf9
 v9 := Tryz.zeroValue9
 t24 := Tryz.underlying210
 a24 := Tryz.isAgg210
 z24 := Tryz.sizeOf210
 v24 := Tryz.zeroValue210 }
open Go.RowKit in
theorem Tryz.strings_CutPrefix (s p : ByteArray) (w : World) :
 Calls Tryz.prog 332 #[.string s, .string p] w fun e w' => e = .returned (.tuple #[.string ⟨(Lib.trimPrefix s.data.toList p.data.toList).toArray⟩, .bool (Lib.hasPrefix s.data.toList p.data.toList)]) ∧ w' = w := Any.strings_CutPrefix Tryz.lays103 s p w
def Tryz.laysM173_ren : Go.Shelf.Ren := ⟨fun | 173 => 118 | 246 => 171 | 283 => 259 | 284 => 260 | 285 => 261 | 286 => 262 | 129 => 186 | 317 => 302 | 318 => 303 | 319 => 304 | 320 => 305 | 337 => 321 | 338 => 322 | n => n, fun | 2 => 2 | 3 => 3 | 9 => 9 | 4 => 4 | 171 => 264 | 0 => 0 | 53 => 234 | 37 => 266 | 5 => 5 | 173 => 267 | 212 => 304 | 51 => 232 | 20 => 20 | 213 => 305 | 46 => 172 | 232 => 329 | 233 => 330 | n => n, fun | 17 => 3 | 18 => 6 | 19 => 7 | n => n⟩
theorem Tryz.laysM173 : Go.Proofs.LaysM.n173 Tryz.prog Tryz.laysM173_ren := {
 mixed := by kernel_rfl
 f129 := Tryz.func186.trans (congrArg some (by kernel_rfl))
 f173 := Tryz.func118.trans (congrArg some (by kernel_rfl))
 f246 := Tryz.func171.trans (congrArg some (by kernel_rfl))
 f283 := Tryz.func259.trans (congrArg some (by kernel_rfl))
 f284 := Tryz.func260.trans (congrArg some (by kernel_rfl))
 f285 := Tryz.func261.trans (congrArg some (by kernel_rfl))
 f286 := Tryz.func262.trans (congrArg some (by kernel_rfl))
 f317 := Tryz.func302.trans (congrArg some (by kernel_rfl))
 f318 := Tryz.func303.trans (congrArg some (by kernel_rfl))
 f319 := Tryz.func304.trans (congrArg some (by kernel_rfl))
 f320 := Tryz.func305.trans (congrArg some (by kernel_rfl))
 f337 := Tryz.func321.trans (congrArg some (by kernel_rfl))
 f338 := Tryz.func322.trans (congrArg some (by kernel_rfl))
 t0 := Tryz.underlying0
 a0 := Tryz.isAgg0
 z0 := Tryz.sizeOf0
 v0 := Tryz.zeroValue0
 t2 := Tryz.underlying2
 a2 := Tryz.isAgg2
 z2 := Tryz.sizeOf2
 v2 := Tryz.zeroValue2
 t3 := Tryz.underlying3
 a3 := Tryz.isAgg3
 z3 := Tryz.sizeOf3
 v3 := Tryz.zeroValue3
 t4 := Tryz.underlying4
 a4 := Tryz.isAgg4
 z4 := Tryz.sizeOf4
 v4 := Tryz.zeroValue4
 t5 := Tryz.underlying5
 a5 := Tryz.isAgg5
 z5 := Tryz.sizeOf5
 v5 := Tryz.zeroValue5
 t9 := Tryz.underlying9
 a9 := Tryz.isAgg9
 z9 := Tryz.sizeOf9
 v9 := Tryz.zeroValue9
 t20 := Tryz.underlying20
 a20 := Tryz.isAgg20
 z20 := Tryz.sizeOf20
 v20 := Tryz.zeroValue20
 t37 := Tryz.underlying266
 a37 := Tryz.isAgg266
 z37 := Tryz.sizeOf266
 v37 := Tryz.zeroValue266
 t46 := Tryz.underlying172
 a46 := Tryz.isAgg172
 z46 := Tryz.sizeOf172
 v46 := Tryz.zeroValue172
 t51 := Tryz.underlying232
 a51 := Tryz.isAgg232
 z51 := Tryz.sizeOf232
 v51 := Tryz.zeroValue232
 t53 := Tryz.underlying234
 a53 := Tryz.isAgg234
 z53 := Tryz.sizeOf234
 v53 := Tryz.zeroValue234
 t171 := Tryz.underlying264
 a171 := Tryz.isAgg264
 z171 := Tryz.sizeOf264
 v171 := Tryz.zeroValue264
 t173 := Tryz.underlying267
 a173 := Tryz.isAgg267
 z173 := Tryz.sizeOf267
 v173 := Tryz.zeroValue267
 t212 := Tryz.underlying304
 a212 := Tryz.isAgg304
 z212 := Tryz.sizeOf304
 v212 := Tryz.zeroValue304
 t213 := Tryz.underlying305
 a213 := Tryz.isAgg305
 z213 := Tryz.sizeOf305
 t232 := Tryz.underlying329
 a232 := Tryz.isAgg329
 z232 := Tryz.sizeOf329
 v232 := Tryz.zeroValue329
 t233 := Tryz.underlying330
 a233 := Tryz.isAgg330
 z233 := Tryz.sizeOf330
 v233 := Tryz.zeroValue330
 g17 := by kernel_rfl
 g18 := by kernel_rfl
 g19 := by kernel_rfl
 i0 := by kernel_rfl
 i2 := by kernel_rfl
 i3 := by kernel_rfl
 i4 := by kernel_rfl
 i5 := by kernel_rfl
 i9 := by kernel_rfl
 i20 := by kernel_rfl
 i37 := by kernel_rfl
 i46 := by kernel_rfl
 i51 := by kernel_rfl
 i53 := by kernel_rfl
 i171 := by kernel_rfl
 i173 := by kernel_rfl
 i212 := by kernel_rfl
 i232 := by kernel_rfl
 i233 := by kernel_rfl
 m17 := by kernel_rfl
 m18 := by kernel_rfl
 m19 := by kernel_rfl }
open Go.RowKit Go.Sort Go.Lib in
theorem Tryz.strconv_FormatInt_10 (n : Int) (h0 : -9223372036854775808 ≤ n) (h1 : n ≤ 9223372036854775807) (w : World) (htab : Lib.TabIs Tryz.prog w "internal/strconv.uint64pow10" .u64 Lib.pow10Tab) :
 Calls Tryz.prog 118 #[.int .i64 n, .int .i64 10] w fun e w' => e = .returned (.string ⟨(Lib.itoa n).toArray⟩) ∧ ∃ k os, w' = grow (w.drewN k) os := Any.strconv_FormatInt_10 Tryz.laysM173 n h0 h1 w htab
def Tryz.laysPu14_ren : Go.Shelf.Ren := ⟨fun | 14 => 334 | 16 => 345 | 17 => 346 | 19 => 353 | 20 => 354 | 21 => 355 | 22 => 356 | 23 => 357 | 24 => 358 | 25 => 363 | 27 => 365 | 26 => 364 | 28 => 369 | 29 => 171 | 30 => 259 | 31 => 260 | 32 => 261 | 33 => 262 | 35 => 186 | 34 => 302 | 36 => 303 | 37 => 304 | 38 => 305 | 39 => 321 | 40 => 322 | n => n, fun | 9 => 9 | 3 => 3 | 22 => 234 | 24 => 318 | 25 => 326 | 4 => 4 | 34 => 345 | 5 => 5 | 36 => 172 | 37 => 266 | 0 => 0 | 39 => 347 | 21 => 21 | 44 => 353 | 47 => 350 | 50 => 361 | 48 => 359 | 2 => 2 | 52 => 264 | 55 => 267 | 59 => 304 | 60 => 232 | 20 => 20 | 61 => 305 | 65 => 329 | 66 => 330 | 67 => 118 | n => n, fun | 0 => 10 | 1 => 11 | 2 => 3 | 3 => 6 | 4 => 7 | n => n⟩
theorem Tryz.laysPu14 : Go.Proofs.LaysPu.n14 Tryz.prog Tryz.laysPu14_ren := {
 mixed := by kernel_rfl
 f14 := Tryz.func334.trans (congrArg some (by kernel_rfl))
 f16 := Tryz.func345.trans (congrArg some (by kernel_rfl))
 f17 := Tryz.func346.trans (congrArg some (by kernel_rfl))
 f19 := Tryz.func353.trans (congrArg some (by kernel_rfl))
 f20 := Tryz.func354.trans (congrArg some (by kernel_rfl))
 f21 := Tryz.func355.trans (congrArg some (by kernel_rfl))
 f22 := Tryz.func356.trans (congrArg some (by kernel_rfl))
 f23 := Tryz.func357.trans (congrArg some (by kernel_rfl))
 f24 := Tryz.func358.trans (congrArg some (by kernel_rfl))
 f25 := Tryz.func363.trans (congrArg some (by kernel_rfl))
 f26 := Tryz.func364.trans (congrArg some (by kernel_rfl))
 f27 := Tryz.func365.trans (congrArg some (by kernel_rfl))
 f28 := Tryz.func369.trans (congrArg some (by kernel_rfl))
 f29 := Tryz.func171.trans (congrArg some (by kernel_rfl))
 f30 := Tryz.func259.trans (congrArg some (by kernel_rfl))
 f31 := Tryz.func260.trans (congrArg some (by kernel_rfl))
 f32 := Tryz.func261.trans (congrArg some (by kernel_rfl))
 f33 := Tryz.func262.trans (congrArg some (by kernel_rfl))
 f34 := Tryz.func302.trans (congrArg some (by kernel_rfl))
 f35 := Tryz.func186.trans (congrArg some (by kernel_rfl))
 f36 := Tryz.func303.trans (congrArg some (by kernel_rfl))
 f37 := Tryz.func304.trans (congrArg some (by kernel_rfl))
 f38 := Tryz.func305.trans (congrArg some (by kernel_rfl))
 f39 := Tryz.func321.trans (congrArg some (by kernel_rfl))
 f40 := Tryz.func322.trans (congrArg some (by kernel_rfl))
 t0 := Tryz.underlying0
 a0 := Tryz.isAgg0
 z0 := Tryz.sizeOf0
 v0 := Tryz.zeroValue0
 i0 := by kernel_rfl
 t2 := Tryz.underlying2
 a2 := Tryz.isAgg2
 z2 := Tryz.sizeOf2
 v2 := Tryz.zeroValue2
 i2 := by kernel_rfl
 t3 := Tryz.underlying3
 a3 := Tryz.isAgg3
 z3 := Tryz.sizeOf3
 v3 := Tryz.zeroValue3
 i3 := by kernel_rfl
 t4 := Tryz.underlying4
 a4 := Tryz.isAgg4
 z4 := Tryz.sizeOf4
 v4 := Tryz.zeroValue4
 i4 := by kernel_rfl
 t5 := Tryz.underlying5
 a5 := Tryz.isAgg5
 z5 := Tryz.sizeOf5
 v5 := Tryz.zeroValue5
 i5 := by kernel_rfl
 t9 := Tryz.underlying9
 a9 := Tryz.isAgg9
 z9 := Tryz.sizeOf9
 v9 := Tryz.zeroValue9
 i9 := by kernel_rfl
 t20 := Tryz.underlying20
 a20 := Tryz.isAgg20
 z20 := Tryz.sizeOf20
 v20 := Tryz.zeroValue20
 i20 := by kernel_rfl
 t21 := Tryz.underlying21
 a21 := Tryz.isAgg21
 z21 := Tryz.sizeOf21
 v21 := Tryz.zeroValue21
 i21 := by kernel_rfl
 t22 := Tryz.underlying234
 a22 := Tryz.isAgg234
 z22 := Tryz.sizeOf234
 v22 := Tryz.zeroValue234
 i22 := by kernel_rfl
 t24 := Tryz.underlying318
 a24 := Tryz.isAgg318
 z24 := Tryz.sizeOf318
 v24 := Tryz.zeroValue318
 i24 := by kernel_rfl
 t25 := Tryz.underlying326
 a25 := Tryz.isAgg326
 z25 := Tryz.sizeOf326
 v25 := Tryz.zeroValue326
 i25 := by kernel_rfl
 t34 := Tryz.underlying345
 a34 := Tryz.isAgg345
 z34 := Tryz.sizeOf345
 v34 := Tryz.zeroValue345
 i34 := by kernel_rfl
 c34 := by kernel_rfl
 t36 := Tryz.underlying172
 a36 := Tryz.isAgg172
 z36 := Tryz.sizeOf172
 v36 := Tryz.zeroValue172
 i36 := by kernel_rfl
 t37 := Tryz.underlying266
 a37 := Tryz.isAgg266
 z37 := Tryz.sizeOf266
 v37 := Tryz.zeroValue266
 i37 := by kernel_rfl
 t39 := Tryz.underlying347
 a39 := Tryz.isAgg347
 z39 := Tryz.sizeOf347
 v39 := Tryz.zeroValue347
 i39 := by kernel_rfl
 t44 := Tryz.underlying353
 a44 := Tryz.isAgg353
 z44 := Tryz.sizeOf353
 v44 := Tryz.zeroValue353
 i44 := by kernel_rfl
 t47 := Tryz.underlying350
 a47 := Tryz.isAgg350
 z47 := Tryz.sizeOf350
 v47 := Tryz.zeroValue350
 i47 := by kernel_rfl
 t48 := Tryz.underlying359
 a48 := Tryz.isAgg359
 z48 := Tryz.sizeOf359
 v48 := Tryz.zeroValue359
 i48 := by kernel_rfl
 t50 := Tryz.underlying361
 a50 := Tryz.isAgg361
 z50 := Tryz.sizeOf361
 v50 := Tryz.zeroValue361
 i50 := by kernel_rfl
 t52 := Tryz.underlying264
 a52 := Tryz.isAgg264
 z52 := Tryz.sizeOf264
 v52 := Tryz.zeroValue264
 i52 := by kernel_rfl
 t55 := Tryz.underlying267
 a55 := Tryz.isAgg267
 z55 := Tryz.sizeOf267
 v55 := Tryz.zeroValue267
 i55 := by kernel_rfl
 t59 := Tryz.underlying304
 a59 := Tryz.isAgg304
 z59 := Tryz.sizeOf304
 v59 := Tryz.zeroValue304
 i59 := by kernel_rfl
 t60 := Tryz.underlying232
 a60 := Tryz.isAgg232
 z60 := Tryz.sizeOf232
 v60 := Tryz.zeroValue232
 i60 := by kernel_rfl
 t61 := Tryz.underlying305
 a61 := Tryz.isAgg305
 z61 := Tryz.sizeOf305
 t65 := Tryz.underlying329
 a65 := Tryz.isAgg329
 z65 := Tryz.sizeOf329
 v65 := Tryz.zeroValue329
 i65 := by kernel_rfl
 t66 := Tryz.underlying330
 a66 := Tryz.isAgg330
 z66 := Tryz.sizeOf330
 v66 := Tryz.zeroValue330
 i66 := by kernel_rfl
 t67 := Tryz.underlying118
 a67 := Tryz.isAgg118
 z67 := Tryz.sizeOf118
 v67 := Tryz.zeroValue118
 i67 := by kernel_rfl
 g0 := by kernel_rfl
 m0 := by kernel_rfl
 g1 := by kernel_rfl
 m1 := by kernel_rfl
 g2 := by kernel_rfl
 m2 := by kernel_rfl
 g3 := by kernel_rfl
 m3 := by kernel_rfl
 g4 := by kernel_rfl
 m4 := by kernel_rfl }
def Tryz.lays145_ren : Go.Shelf.Ren := ⟨fun | 145 => 333 | 220 => 344 | 219 => 352 | 217 => 258 | 225 => 326 | 224 => 325 | 267 => 362 | 266 => 301 | 314 => 368 | n => n, fun | 9 => 9 | 4 => 4 | 59 => 324 | 3 => 3 | 5 => 5 | 46 => 172 | 146 => 292 | 51 => 232 | n => n, fun | 1 => 2 | n => n⟩
theorem Tryz.lays145 : Go.Proofs.Lays.n145 Tryz.prog Tryz.lays145_ren := {
 mixed := by kernel_rfl
 f145 := Tryz.func333.trans (congrArg some (by kernel_rfl))
 f217 := Tryz.func258.trans (congrArg some (by kernel_rfl))
 f219 := Tryz.func352.trans (congrArg some (by kernel_rfl))
 f220 := Tryz.func344.trans (congrArg some (by kernel_rfl))
 f224 := Tryz.func325.trans (congrArg some (by kernel_rfl))
 f225 := Tryz.func326.trans (congrArg some (by kernel_rfl))
 f266 := Tryz.func301.trans (congrArg some (by kernel_rfl))
 f267 := Tryz.func362.trans (congrArg some (by kernel_rfl))
 f314 := Tryz.func368.trans (congrArg some (by kernel_rfl))
 t3 := Tryz.underlying3
 a3 := Tryz.isAgg3
 z3 := Tryz.sizeOf3
 v3 := Tryz.zeroValue3
 t4 := Tryz.underlying4
 a4 := Tryz.isAgg4
 z4 := Tryz.sizeOf4
 v4 := Tryz.zeroValue4
 t5 := Tryz.underlying5
 a5 := Tryz.isAgg5
 z5 := Tryz.sizeOf5
 v5 := Tryz.zeroValue5
 t9 := Tryz.underlying9
 a9 := Tryz.isAgg9
 z9 := Tryz.sizeOf9
 v9 := Tryz.zeroValue9
 t46 := Tryz.underlying172
 a46 := Tryz.isAgg172
 z46 := Tryz.sizeOf172
 v46 := Tryz.zeroValue172
 t51 := Tryz.underlying232
 a51 := Tryz.isAgg232
 z51 := Tryz.sizeOf232
 v51 := Tryz.zeroValue232
 t59 := Tryz.underlying324
 a59 := Tryz.isAgg324
 z59 := Tryz.sizeOf324
 v59 := Tryz.zeroValue324
 t146 := Tryz.underlying292
 a146 := Tryz.isAgg292
 z146 := Tryz.sizeOf292
 v146 := Tryz.zeroValue292
 g1 := by kernel_rfl }
open Go.RowKit Go.Lib in
theorem Tryz.strings_Cut (s sep : ByteArray) (m : Int) (w : World) (hs : s.size < 4294967281) (hm : w.cell? ⟨2, 0, none⟩ = some (.int .i64 m)) :
 Calls Tryz.prog 333 #[.string s, .string sep] w fun e w' => e = .returned (.tuple #[.string ⟨(Lib.cut s.data.toList sep.data.toList).1.toArray⟩, .string ⟨(Lib.cut s.data.toList sep.data.toList).2.1.toArray⟩, .bool (Lib.cut s.data.toList sep.data.toList).2.2]) ∧ ∃ n, w' = w.drewN n := Any.strings_Cut Tryz.lays145 s sep m w hs hm
def Tryz.lays190_ren : Go.Shelf.Ren := ⟨fun | 190 => 68 | 125 => 121 | 258 => 120 | 128 => 185 | 129 => 186 | 302 => 176 | 303 => 177 | 304 => 178 | 305 => 179 | 306 => 180 | 307 => 181 | 308 => 182 | 309 => 183 | 310 => 184 | 333 => 266 | 329 => 267 | 330 => 268 | 334 => 269 | 335 => 270 | 336 => 271 | 344 => 309 | n => n, fun | 31 => 48 | 9 => 9 | 3 => 3 | 46 => 172 | 0 => 0 | 51 => 232 | 53 => 234 | 4 => 4 | 183 => 224 | 182 => 223 | 131 => 229 | 5 => 5 | 218 => 272 | 222 => 276 | 228 => 308 | 229 => 309 | n => n, fun | n => n⟩
theorem Tryz.lays190 : Go.Proofs.Lays.n190 Tryz.prog Tryz.lays190_ren := {
 mixed := by kernel_rfl
 f125 := Tryz.func121.trans (congrArg some (by kernel_rfl))
 f128 := Tryz.func185.trans (congrArg some (by kernel_rfl))
 f129 := Tryz.func186.trans (congrArg some (by kernel_rfl))
 f190 := Tryz.func68.trans (congrArg some (by kernel_rfl))
 f258 := Tryz.func120.trans (congrArg some (by kernel_rfl))
 f302 := Tryz.func176.trans (congrArg some (by kernel_rfl))
 f303 := Tryz.func177.trans (congrArg some (by kernel_rfl))
 f304 := Tryz.func178.trans (congrArg some (by kernel_rfl))
 f305 := Tryz.func179.trans (congrArg some (by kernel_rfl))
 f306 := Tryz.func180.trans (congrArg some (by kernel_rfl))
 f307 := Tryz.func181.trans (congrArg some (by kernel_rfl))
 f308 := Tryz.func182.trans (congrArg some (by kernel_rfl))
 f309 := Tryz.func183.trans (congrArg some (by kernel_rfl))
 f310 := Tryz.func184.trans (congrArg some (by kernel_rfl))
 f329 := Tryz.func267.trans (congrArg some (by kernel_rfl))
 f330 := Tryz.func268.trans (congrArg some (by kernel_rfl))
 f333 := Tryz.func266.trans (congrArg some (by kernel_rfl))
 f334 := Tryz.func269.trans (congrArg some (by kernel_rfl))
 f335 := Tryz.func270.trans (congrArg some (by kernel_rfl))
 f336 := Tryz.func271.trans (congrArg some (by kernel_rfl))
 f344 := Tryz.func309.trans (congrArg some (by kernel_rfl))
 t0 := Tryz.underlying0
 a0 := Tryz.isAgg0
 z0 := Tryz.sizeOf0
 v0 := Tryz.zeroValue0
 t3 := Tryz.underlying3
 a3 := Tryz.isAgg3
 z3 := Tryz.sizeOf3
 v3 := Tryz.zeroValue3
 t4 := Tryz.underlying4
 a4 := Tryz.isAgg4
 z4 := Tryz.sizeOf4
 v4 := Tryz.zeroValue4
 t5 := Tryz.underlying5
 a5 := Tryz.isAgg5
 z5 := Tryz.sizeOf5
 v5 := Tryz.zeroValue5
 t9 := Tryz.underlying9
 a9 := Tryz.isAgg9
 z9 := Tryz.sizeOf9
 v9 := Tryz.zeroValue9
 t31 := Tryz.underlying48
 a31 := Tryz.isAgg48
 z31 := Tryz.sizeOf48
 v31 := Tryz.zeroValue48
 t46 := Tryz.underlying172
 a46 := Tryz.isAgg172
 z46 := Tryz.sizeOf172
 v46 := Tryz.zeroValue172
 t51 := Tryz.underlying232
 a51 := Tryz.isAgg232
 z51 := Tryz.sizeOf232
 v51 := Tryz.zeroValue232
 t53 := Tryz.underlying234
 a53 := Tryz.isAgg234
 z53 := Tryz.sizeOf234
 v53 := Tryz.zeroValue234
 t131 := Tryz.underlying229
 a131 := Tryz.isAgg229
 z131 := Tryz.sizeOf229
 v131 := Tryz.zeroValue229
 t182 := Tryz.underlying223
 a182 := Tryz.isAgg223
 z182 := Tryz.sizeOf223
 v182 := Tryz.zeroValue223
 t183 := Tryz.underlying224
 a183 := Tryz.isAgg224
 z183 := Tryz.sizeOf224
 v183 := Tryz.zeroValue224
 t218 := Tryz.underlying272
 a218 := Tryz.isAgg272
 z218 := Tryz.sizeOf272
 v218 := Tryz.zeroValue272
 t222 := Tryz.underlying276
 a222 := Tryz.isAgg276
 z222 := Tryz.sizeOf276
 v222 := Tryz.zeroValue276
 t228 := Tryz.underlying308
 a228 := Tryz.isAgg308
 z228 := Tryz.sizeOf308
 v228 := Tryz.zeroValue308
 t229 := Tryz.underlying309
 a229 := Tryz.isAgg309
 z229 := Tryz.sizeOf309
 v229 := Tryz.zeroValue309 }
open Go.Sort Go.RowKit in
theorem Tryz.slices_Sort_string (blk off cap : Nat) (ss : List (List UInt8)) (w : World) (hH : Holds encStr w blk off ss.toArray) (hblk : blk < w.heap.size) (hsz : ss.length < 4611686018427387904) :
 Calls Tryz.prog 68 #[.slice (some ⟨blk, off, none⟩) ss.length cap] w fun e w' =>
  e = .returned (.tuple #[]) ∧ ∃ n os, w' = grow (putRow encStr (Sort.ahead w n) blk off (ss.mergeSort fun x y => decide (x ≤ y)).toArray) os := Any.slices_Sort_string Tryz.lays190 blk off cap ss w hH hblk hsz
def Tryz.lays99_ren : Go.Shelf.Ren := ⟨fun | 99 => 257 | 206 => 300 | n => n, fun | 9 => 9 | 4 => 4 | 3 => 3 | n => n, fun | n => n⟩
theorem Tryz.lays99 : Go.Proofs.Lays.n99 Tryz.prog Tryz.lays99_ren := {
 mixed := by kernel_rfl
 f99 := Tryz.func257.trans (congrArg some (by kernel_rfl))
 f206 := Tryz.func300.trans (congrArg some (by kernel_rfl))
 t3 := Tryz.underlying3
 a3 := Tryz.isAgg3
 z3 := Tryz.sizeOf3
 v3 := Tryz.zeroValue3
 t4 := Tryz.underlying4
 a4 := Tryz.isAgg4
 z4 := Tryz.sizeOf4
 v4 := Tryz.zeroValue4
 t9 := Tryz.underlying9
 a9 := Tryz.isAgg9
 z9 := Tryz.sizeOf9
 v9 := Tryz.zeroValue9 }
open Go.RowKit Go.Lib in
theorem Tryz.strings_HasPrefix (s p : ByteArray) (w : World) :
 Calls Tryz.prog 257 #[.string s, .string p] w fun e w' => e = .returned (.bool (Lib.hasPrefix s.data.toList p.data.toList)) ∧ w' = w := Any.strings_HasPrefix Tryz.lays99 s p w
def Tryz.lays264_ren : Go.Shelf.Ren := ⟨fun | 264 => 288 | n => n, fun | 53 => 234 | 46 => 172 | n => n, fun | n => n⟩
theorem Tryz.lays264 : Go.Proofs.Lays.n264 Tryz.prog Tryz.lays264_ren := {
 mixed := by kernel_rfl
 f264 := Tryz.func288.trans (congrArg some (by kernel_rfl))
 t46 := Tryz.underlying172
 a46 := Tryz.isAgg172
 z46 := Tryz.sizeOf172
 v46 := Tryz.zeroValue172
 t53 := Tryz.underlying234
 a53 := Tryz.isAgg234
 z53 := Tryz.sizeOf234
 v53 := Tryz.zeroValue234 }
open Go.RowKit Go.Lib in
theorem Tryz.bits_Mul64 (x y : Nat) (hx : x < 18446744073709551616) (hy : y < 18446744073709551616) (w : World) :
 Calls Tryz.prog 288 #[.int .u64 x, .int .u64 y] w fun e w' => e = .returned (.tuple #[.int .u64 ((x * y / 18446744073709551616 : Nat) : Int), .int .u64 ((x * y % 18446744073709551616 : Nat) : Int)]) ∧ w' = w := Any.bits_Mul64 Tryz.lays264 x y hx hy w
def Tryz.lays105_ren : Go.Shelf.Ren := ⟨fun | 105 => 335 | 212 => 225 | 99 => 257 | 165 => 347 | 166 => 348 | 170 => 349 | 169 => 350 | 263 => 287 | 264 => 288 | 206 => 300 | 240 => 359 | 241 => 360 | 276 => 366 | 277 => 367 | n => n, fun | 9 => 9 | 3 => 3 | 4 => 4 | 20 => 20 | 0 => 0 | 46 => 172 | 109 => 251 | 5 => 5 | 72 => 341 | 76 => 342 | 51 => 232 | 146 => 292 | 53 => 234 | 148 => 294 | 70 => 339 | 37 => 266 | 75 => 318 | 127 => 350 | 164 => 355 | 80 => 118 | n => n, fun | n => n⟩
theorem Tryz.lays105 : Go.Proofs.Lays.n105 Tryz.prog Tryz.lays105_ren := {
 mixed := by kernel_rfl
 f99 := Tryz.func257.trans (congrArg some (by kernel_rfl))
 f105 := Tryz.func335.trans (congrArg some (by kernel_rfl))
 f165 := Tryz.func347.trans (congrArg some (by kernel_rfl))
 f166 := Tryz.func348.trans (congrArg some (by kernel_rfl))
 f169 := Tryz.func350.trans (congrArg some (by kernel_rfl))
 f170 := Tryz.func349.trans (congrArg some (by kernel_rfl))
 f206 := Tryz.func300.trans (congrArg some (by kernel_rfl))
 f212 := Tryz.func225.trans (congrArg some (by kernel_rfl))
 f240 := Tryz.func359.trans (congrArg some (by kernel_rfl))
 f241 := Tryz.func360.trans (congrArg some (by kernel_rfl))
 f263 := Tryz.func287.trans (congrArg some (by kernel_rfl))
 f264 := Tryz.func288.trans (congrArg some (by kernel_rfl))
 f276 := Tryz.func366.trans (congrArg some (by kernel_rfl))
 f277 := Tryz.func367.trans (congrArg some (by kernel_rfl))
 t0 := Tryz.underlying0
 a0 := Tryz.isAgg0
 z0 := Tryz.sizeOf0
 v0 := Tryz.zeroValue0
 t3 := Tryz.underlying3
 a3 := Tryz.isAgg3
 z3 := Tryz.sizeOf3
 v3 := Tryz.zeroValue3
 t4 := Tryz.underlying4
 a4 := Tryz.isAgg4
 z4 := Tryz.sizeOf4
 v4 := Tryz.zeroValue4
 t5 := Tryz.underlying5
 a5 := Tryz.isAgg5
 z5 := Tryz.sizeOf5
 v5 := Tryz.zeroValue5
 t9 := Tryz.underlying9
 a9 := Tryz.isAgg9
 z9 := Tryz.sizeOf9
 v9 := Tryz.zeroValue9
 t20 := Tryz.underlying20
 a20 := Tryz.isAgg20
 z20 := Tryz.sizeOf20
 v20 := Tryz.zeroValue20
 t37 := Tryz.underlying266
 a37 := Tryz.isAgg266
 z37 := Tryz.sizeOf266
 v37 := Tryz.zeroValue266
 t46 := Tryz.underlying172
 a46 := Tryz.isAgg172
 z46 := Tryz.sizeOf172
 v46 := Tryz.zeroValue172
 t51 := Tryz.underlying232
 a51 := Tryz.isAgg232
 z51 := Tryz.sizeOf232
 v51 := Tryz.zeroValue232
 t53 := Tryz.underlying234
 a53 := Tryz.isAgg234
 z53 := Tryz.sizeOf234
 v53 := Tryz.zeroValue234
 t70 := Tryz.underlying339
 a70 := Tryz.isAgg339
 z70 := Tryz.sizeOf339
 v70 := Tryz.zeroValue339
 t72 := Tryz.underlying341
 a72 := Tryz.isAgg341
 z72 := Tryz.sizeOf341
 v72 := Tryz.zeroValue341
 t75 := Tryz.underlying318
 a75 := Tryz.isAgg318
 z75 := Tryz.sizeOf318
 v75 := Tryz.zeroValue318
 t76 := Tryz.underlying342
 a76 := Tryz.isAgg342
 z76 := Tryz.sizeOf342
 v76 := Tryz.zeroValue342
 t109 := Tryz.underlying251
 a109 := Tryz.isAgg251
 z109 := Tryz.sizeOf251
 v109 := Tryz.zeroValue251
 t127 := Tryz.underlying350
 a127 := Tryz.isAgg350
 z127 := Tryz.sizeOf350
 v127 := Tryz.zeroValue350
 t146 := Tryz.underlying292
 a146 := Tryz.isAgg292
 z146 := Tryz.sizeOf292
 v146 := Tryz.zeroValue292
 t148 := Tryz.underlying294
 a148 := Tryz.isAgg294
 z148 := Tryz.sizeOf294
 v148 := Tryz.zeroValue294
 t164 := Tryz.underlying355
 a164 := Tryz.isAgg355
 z164 := Tryz.sizeOf355
 v164 := Tryz.zeroValue355 }
theorem Tryz.Builder_Extra_105 : Builder.Extra Tryz.prog Tryz.lays105_ren := {
 sizeBuilder := by kernel_rfl
 liesBuilder := by kernel_rfl
 t5 := Tryz.underlying5
 a5 := Tryz.isAgg5
 z5 := Tryz.sizeOf5
 v5 := Tryz.zeroValue5
 infoByte := by kernel_rfl
 cellsByte := by kernel_rfl
 sizeByte := by kernel_rfl
 neB5 := by decide }
open Go.RowKit Go.Lib in
theorem Tryz.strings_Repeat_main (s : ByteArray) (c : Nat) (w : World) (hc2 : 2 ≤ c) (hc : c ≤ 9223372036854775807) (hlen : s.size * c ≤ 140737488355328) (h0 : 0 < s.size) :
 Calls Tryz.prog 335 #[.string s, .int .i64 c] w fun e w' => e = .returned (.string ⟨(Lib.repeatL s.data.toList c).toArray⟩) ∧ Below w.heap.size w w' := Any.strings_Repeat_main Tryz.lays105 Tryz.Builder_Extra_105 s c w hc2 hc hlen h0
open Go.RowKit Go.Lib in
theorem Tryz.strings_Repeat_zero (s : ByteArray) (w : World) :
 Calls Tryz.prog 335 #[.string s, .int .i64 0] w fun e w' => e = .returned (.string ⟨#[]⟩) ∧ w' = w := Any.strings_Repeat_zero Tryz.lays105 s w
open Go.RowKit Go.Lib in
theorem Tryz.strings_Repeat_one (s : ByteArray) (w : World) :
 Calls Tryz.prog 335 #[.string s, .int .i64 1] w fun e w' => e = .returned (.string s) ∧ w' = w := Any.strings_Repeat_one Tryz.lays105 s w
def Tryz.lays194_ren : Go.Shelf.Ren := ⟨fun | 194 => 69 | n => n, fun | 31 => 48 | 9 => 9 | 3 => 3 | 4 => 4 | 0 => 0 | n => n, fun | n => n⟩
theorem Tryz.lays194 : Go.Proofs.Lays.n194 Tryz.prog Tryz.lays194_ren := {
 mixed := by kernel_rfl
 f194 := Tryz.func69.trans (congrArg some (by kernel_rfl))
 t0 := Tryz.underlying0
 a0 := Tryz.isAgg0
 z0 := Tryz.sizeOf0
 v0 := Tryz.zeroValue0
 t3 := Tryz.underlying3
 a3 := Tryz.isAgg3
 z3 := Tryz.sizeOf3
 v3 := Tryz.zeroValue3
 t4 := Tryz.underlying4
 a4 := Tryz.isAgg4
 z4 := Tryz.sizeOf4
 v4 := Tryz.zeroValue4
 t9 := Tryz.underlying9
 a9 := Tryz.isAgg9
 z9 := Tryz.sizeOf9
 v9 := Tryz.zeroValue9
 t31 := Tryz.underlying48
 a31 := Tryz.isAgg48
 z31 := Tryz.sizeOf48
 v31 := Tryz.zeroValue48 }
open Go.RowKit Go.Lib Go.Sort in
theorem Tryz.slices_Compact_string (blk off cap : Nat) (zs : List (List UInt8)) (w : World) (hH : Holds encStr w blk off zs.toArray) (hsz : zs.length ≤ 9223372036854775807) (hcap : zs.length ≤ cap) :
 Calls Tryz.prog 69 #[.slice (some ⟨blk, off, none⟩) zs.length cap] w fun e w' => e = .returned (.slice (some ⟨blk, off, none⟩) (Lib.compact zs).length cap) ∧ ∃ q, w' = putRow encStr (Sort.ahead w q) blk off (Lib.compact zs ++ List.replicate (zs.length - (Lib.compact zs).length) []).toArray := Any.slices_Compact_string Tryz.lays194 blk off cap zs w hH hsz hcap
open Go.RowKit Go.Lib Go.Sort in
theorem Tryz.slices_Compact_string_empty (a : Option Addr) (cap : Nat) (w : World) :
 Calls Tryz.prog 69 #[.slice a 0 cap] w fun e w' => e = .returned (.slice a 0 cap) ∧ w' = w := Any.slices_Compact_string_empty Tryz.lays194 a cap w
open Go.RowKit Go.Sort in
theorem Tryz.slices_Sort_string_none (p : Option Addr) (cap : Nat) (w : World) :
 Calls Tryz.prog 68 #[.slice p 0 cap] w fun e w' => e = .returned (.tuple #[]) ∧ w' = w := Any.slices_Sort_string_none Tryz.lays190 p cap w
end Go.Proofs
namespace Go.Proofs.YtomkgfdigldhcaaGreatDoor
open Go.KX Go.RowKit Go.Sort
structure PX (w : World) : Prop where
 pow10 : Lib.TabIs Tryz.prog w "internal/strconv.uint64pow10" .u64 Lib.pow10Tab
 maxlen : ∃ m, w.cell? ⟨2, 0, none⟩ = some (.int .i64 m)
 esyn : ∃ ev, w.cell? ⟨10, 0, none⟩ = some ev ∧ (ev = .nilIface ∨ ∃ te pe, ev = .iface te pe)
 signs : ∀ (j : Nat) x, bJ[j]? = some x → w.cell? ⟨1, j, none⟩ = some (str x)
 levels : ∀ (j : Nat) ls, bY[j]? = some ls → ∃ b o c, w.cell? ⟨0, j, none⟩ = some (.slice (some ⟨b, o, none⟩) ls.length c) ∧ ls.length ≤ c ∧ ∀ (k : Nat) x, ls[k]? = some x → w.cell? ⟨b, o + k, none⟩ = some (str x)
theorem PX.below {w w' : World} (h : PX w) (hb : Below w.heap.size w w') : PX w' :=
 ⟨tab_below (b := 3) (by kernel_rfl) h.pow10 hb, h.maxlen.elim fun m hm => ⟨m, KX.cell_below hb hm⟩, h.esyn.elim fun ev he => ⟨ev, KX.cell_below hb he.1, he.2⟩,
  fun j x hj => KX.cell_below hb (h.signs j x hj), fun j ls hj => by
   obtain ⟨b, o, c, h1, h2, h3⟩ := h.levels j ls hj
   exact ⟨b, o, c, KX.cell_below hb h1, h2, fun k x hk => KX.cell_below hb (h3 k x hk)⟩⟩
abbrev gT : List MF := [I9 PX]
theorem glf {g : GW} (h : dF gT g) : PX g.w := O8 (fun _ _ => PX.below) (h _ (.head _))
theorem X0 {n : Int} (h0 : -9223372036854775808 ≤ n) (h1 : n ≤ 9223372036854775807) : Fc Tryz.prog gT 118 [nI n, nI 10] (.str (Lib.itoa n)) :=
 jJ ⟨_, Tryz.func118, rfl, by kernel_rfl⟩ fun ρ g vs hf ha => by
  rw [jK (xs := [.int .i64 n, .int .i64 10]) rfl ha]
  refine (Tryz.strconv_FormatInt_10 n h0 h1 g.w (glf hf).pow10).mono ?_
  rintro e w' ⟨rfl, k, os, rfl⟩
  exact ⟨_, rfl, (below_drewN _ k).trans (show Below g.w.heap.size _ _ from below_grow (g.w.drewN k) os), fun _ _ => .str⟩
theorem aA0 {p : Int} {x : Nat} (hp : p = x) (hx : x < 10000000000000000) : Fc Tryz.prog gT 118 [nI p, nI 10] (.str (Lib.decDigits x)) := by
 subst hp
 rw [← Lib.itoa_nonneg]
 exact X0 (by omega) (by omega)
theorem PY {s : Bytes} (hs : s.length ≤ 9223372036854775807) : Fc Tryz.prog gT 119 [.str s, .str [48]] (.str (Lib.trimRightB s 48)) :=
 jJ ⟨_, Tryz.func119, rfl, by kernel_rfl⟩ fun ρ g vs hf ha => by
  rw [jK (xs := [str s, str [48]]) rfl ha]
  refine (Tryz.strings_TrimRight_one ⟨s.toArray⟩ 48 (by decide) g.w (by simpa [ByteArray.size] using hs)).mono ?_
  rintro e w' ⟨rfl, rfl⟩
  exact ⟨_, rfl, Below.refl _ _, fun _ _ => .str⟩
theorem UO {s p : Bytes} : Fc Tryz.prog gT 332 [.str s, .str p] (.t [.str (Lib.trimPrefix s p), bS (Lib.hasPrefix s p)]) :=
 jJ ⟨_, Tryz.func332, rfl, by kernel_rfl⟩ fun ρ g vs hf ha => by
  rw [jK (xs := [str s, str p]) rfl ha]
  refine (Tryz.strings_CutPrefix ⟨s.toArray⟩ ⟨p.toArray⟩ g.w).mono ?_
  rintro e w' ⟨rfl, rfl⟩
  exact ⟨_, rfl, Below.refl _ _, fun _ _ => .t [_, _] rfl (aI.cons .str (aI.cons .v aI.nil)).2⟩
theorem X1 {s p : Bytes} (hs : s.length < 4294967281) : Fc Tryz.prog gT 333 [.str s, .str p] (.t [.str (Lib.cut s p).1, .str (Lib.cut s p).2.1, bS (Lib.cut s p).2.2]) :=
 jJ ⟨_, Tryz.func333, rfl, by kernel_rfl⟩ fun ρ g vs hf ha => by
  rw [jK (xs := [str s, str p]) rfl ha]
  obtain ⟨m, hm⟩ := (glf hf).maxlen
  refine (Tryz.strings_Cut ⟨s.toArray⟩ ⟨p.toArray⟩ m g.w (by simpa [ByteArray.size] using hs) hm).mono ?_
  rintro e w' ⟨rfl, n, rfl⟩
  exact ⟨_, rfl, below_drewN _ n, fun _ _ => .t [_, _, _] rfl (aI.cons .str (aI.cons .str (aI.cons .v aI.nil))).2⟩
abbrev nU (n : Int) : SV := .v (.int .u64 n)
theorem wH {x y : Nat} (hx : x < 18446744073709551616) (hy : y < 18446744073709551616) : Fc Tryz.prog gT 288 [nU x, nU y] (.t [nU ((x * y / 18446744073709551616 : Nat) : Int), nU ((x * y % 18446744073709551616 : Nat) : Int)]) :=
 jJ ⟨_, Tryz.func288, rfl, by kernel_rfl⟩ fun ρ g vs hf ha => by
  rw [jK (xs := [.int .u64 x, .int .u64 y]) rfl ha]
  refine (Tryz.bits_Mul64 x y hx hy g.w).mono ?_
  rintro e w' ⟨rfl, rfl⟩
  exact ⟨_, rfl, Below.refl _ _, fun _ _ => .t [_, _] rfl (aI.cons .v (aI.cons .v aI.nil)).2⟩
theorem ME {p q : Int} {x y : Nat} (hp : p = x) (hq : q = y) (hx : x < 18446744073709551616) (hy : y < 18446744073709551616) : Fc Tryz.prog gT 288 [nU p, nU q] (.t [nU ((x * y / 18446744073709551616 : Nat) : Int), nU ((x * y % 18446744073709551616 : Nat) : Int)]) := by
 subst hp hq
 exact wH hx hy
theorem MG : Fc Tryz.prog gT 319 [nU 1000] (nI 54) :=
 jJ ⟨_, Tryz.func319, rfl, by kernel_rfl⟩ fun ρ g vs hf ha => by
  rw [jK (xs := [.int .u64 1000]) rfl ha]
  refine (Tryz.bits_LeadingZeros64 1000 g.w (by decide) (by decide)).mono ?_
  rintro e w' ⟨rfl, rfl⟩
  exact ⟨_, rfl, Below.refl _ _, fun _ _ => by rw [show (64 : Int) - Lib.bitLen (1000 : Int).toNat = 54 by decide]; exact .v⟩
theorem PZ {s : Bytes} {c : Nat} (hlen : s.length * c ≤ 140737488355328) (hc : c ≤ 9223372036854775807) (h0 : 0 < s.length) : Fc Tryz.prog gT 335 [.str s, nI c] (.str (Lib.repeatL s c)) :=
 jJ ⟨_, Tryz.func335, rfl, by kernel_rfl⟩ fun ρ g vs hf ha => by
  rw [jK (xs := [str s, .int .i64 c]) rfl ha]
  rcases c with _ | _ | c
  ·refine (Tryz.strings_Repeat_zero ⟨s.toArray⟩ g.w).mono ?_
   rintro e w' ⟨rfl, rfl⟩
   exact ⟨_, rfl, Below.refl _ _, fun _ _ => .str⟩
  ·refine (Tryz.strings_Repeat_one ⟨s.toArray⟩ g.w).mono ?_
   rintro e w' ⟨rfl, rfl⟩
   exact ⟨_, rfl, Below.refl _ _, fun _ _ => by rw [show Lib.repeatL s (0 + 1) = s by simp [Lib.repeatL]]; exact .str⟩
  ·refine (Tryz.strings_Repeat_main ⟨s.toArray⟩ (c + 2) g.w (by omega) hc (by simpa [ByteArray.size] using hlen) (by simpa [ByteArray.size] using h0)).mono ?_
   rintro e w' ⟨rfl, hb⟩
   exact ⟨_, rfl, hb, fun _ _ => .str⟩
theorem aA1 {g : GW} (h : dF gT g) {b o : Nat} (hc : ∀ w, PX w → ∃ v, w.cell? ⟨b, o, none⟩ = some v) : g.fz b := by
 obtain ⟨w0, h1, h2, h3⟩ := h (I9 PX) (.head _)
 obtain ⟨v, hv⟩ := hc w0 h1
 exact h3 b (World.block_lt_of_cell? w0 _ hv)
theorem MH : ∀ g ρ, dF gT g → bC g ρ (.p (bJ.map .str)) (.pointer (some ⟨1, 0, none⟩)) := fun g ρ h => by
 refine .p (bJ.map str) (by simp) (aA1 (o := 0) h fun w hw => ⟨_, hw.signs 0 _ rfl⟩) (fun k x hk => ?_) (fun ρ' j sv x h1 h2 => ?_)
 ·simp only [List.getElem?_map, Option.map_eq_some_iff] at hk
  obtain ⟨s, hs, rfl⟩ := hk
  have := (glf h).signs k s hs
  simpa using this
 ·simp only [List.getElem?_map, Option.map_eq_some_iff] at h1 h2
  obtain ⟨s, hs, rfl⟩ := h1
  obtain ⟨s', hs', rfl⟩ := h2
  rw [hs] at hs'
  cases hs'
  exact .str
theorem HO : ∀ g ρ, dF gT g → bC g ρ (.p (bY.map rB)) (.pointer (some ⟨0, 0, none⟩)) := fun g ρ h => by
 obtain ⟨w0, h1, h2, h3⟩ := h (I9 PX) (.head _)
 have key : ∀ (j : Nat) ls, bY[j]? = some ls → ∃ v, g.w.cell? ⟨0, j, none⟩ = some v ∧ ∀ ρ', bC g ρ' (rB ls) v := by
  intro j ls hj
  obtain ⟨b, o, c, e1, e2, e3⟩ := h1.levels j ls hj
  have hlen : ls.length ≤ 6 ∧ ls ≠ [] := by
   have : ∀ ls ∈ bY, ls.length ≤ 6 ∧ ls ≠ [] := by decide
   exact this ls (List.mem_of_getElem? hj)
  obtain ⟨s0, hs0⟩ : ∃ s0, ls[0]? = some s0 := by
   cases ls with
   | nil => exact absurd rfl hlen.2
   | cons a _ => exact ⟨a, rfl⟩
  have hfz : g.fz b := h3 b (World.block_lt_of_cell? w0 _ (e3 0 s0 hs0))
  refine ⟨_, KX.cell_below h2 e1, fun ρ' => ?_⟩
  have : bC g ρ' (.s 1 (ls.map fun s => [.str s])) (.slice (some ⟨b, o, none⟩) (ls.map fun s => [SV.str s]).length c) := .s (ls.map str) (by simp [maxLen]; omega) (by simpa using e2) (by simp) (fun r hr => by
   obtain ⟨s, _, rfl⟩ := List.mem_map.1 hr
   rfl) ⟨fun u hu => by
   obtain ⟨s, _, rfl⟩ := List.mem_map.1 hu
   rfl, fun h => absurd h (by decide)⟩ (fun _ => ⟨b, o, rfl, hfz, fun k x hk => ?_⟩) (fun ρ'' i j r sv x hi hj hx => ?_)
  ·simpa using this
  ·simp only [List.getElem?_map, Option.map_eq_some_iff] at hk
   obtain ⟨s, hs, rfl⟩ := hk
   exact KX.cell_below h2 (e3 k s hs)
  ·simp only [List.getElem?_map, Option.map_eq_some_iff] at hi
   obtain ⟨s, hs, rfl⟩ := hi
   cases j with
   | zero =>
     simp only [List.getElem?_cons_zero, Option.some.injEq] at hj
     subst hj
     simp only [Nat.mul_one, Nat.add_zero, List.getElem?_map, hs, Option.map_some, Option.some.injEq] at hx
     subst hx
     exact .str
   | succ j => simp at hj
 have hx : ∃ xs : List Value, xs.length = 5 ∧ ∀ (j : Nat) ls x, bY[j]? = some ls → xs[j]? = some x → g.w.cell? ⟨0, j, none⟩ = some x ∧ ∀ ρ', bC g ρ' (rB ls) x := by
  obtain ⟨v0, a0, b0⟩ := key 0 _ rfl
  obtain ⟨v1, a1, b1⟩ := key 1 _ rfl
  obtain ⟨v2, a2, b2⟩ := key 2 _ rfl
  obtain ⟨v3, a3, b3⟩ := key 3 _ rfl
  obtain ⟨v4, a4, b4⟩ := key 4 _ rfl
  refine ⟨[v0, v1, v2, v3, v4], rfl, fun j ls x hj hx => ?_⟩
  match j, hj, hx with
  | 0, hj, hx => cases hj; cases hx; exact ⟨a0, b0⟩
  | 1, hj, hx => cases hj; cases hx; exact ⟨a1, b1⟩
  | 2, hj, hx => cases hj; cases hx; exact ⟨a2, b2⟩
  | 3, hj, hx => cases hj; cases hx; exact ⟨a3, b3⟩
  | 4, hj, hx => cases hj; cases hx; exact ⟨a4, b4⟩
  | n + 5, hj, hx => simp at hx
 obtain ⟨xs, hxl, hxs⟩ := hx
 have at5 : ∀ {j : Nat} {x : Value}, xs[j]? = some x → ∃ ls, bY[j]? = some ls := by
  intro j x hj
  have : j < xs.length := by
   rcases Nat.lt_or_ge j xs.length with h | h
   ·exact h
   ·rw [List.getElem?_eq_none h] at hj; cases hj
  have h5 : j < bY.length := by rw [hxl] at this; exact this
  exact ⟨bY[j], List.getElem?_eq_getElem h5⟩
 refine .p xs (by rw [hxl]; rfl) (aA1 (o := 0) h fun w hw => (hw.levels 0 _ rfl).elim fun b hb => hb.elim fun o ho => ho.elim fun c hc => ⟨_, hc.1⟩) (fun k x hk => ?_) (fun ρ' j sv x h1 h2 => ?_)
 ·obtain ⟨ls, hls⟩ := at5 hk
  have := (hxs k ls x hls hk).1
  simpa using this
 ·simp only [List.getElem?_map, Option.map_eq_some_iff] at h1
  obtain ⟨ls, hls, rfl⟩ := h1
  exact (hxs j ls x hls h2).2 ρ'
theorem JH {g : Bytes} {n : Int} {c : UInt8} (hn : n = c.toNat) : Fc Tryz.prog gT 170 [.str g, .v (.int .u8 n)] (nI (Lib.indexByte g c)) :=
 jJ ⟨_, Tryz.func170, rfl, by kernel_rfl⟩ fun ρ w vs hf ha => by
  rw [jK (xs := [str g, .int .u8 n]) rfl ha]
  refine (Tryz.strings_IndexByte ⟨g.toArray⟩ n w.w).mono ?_
  rintro e w' ⟨rfl, rfl⟩
  exact ⟨_, rfl, Below.refl _ _, fun _ _ => by rw [hn, show ((c.toNat : Int)).toNat.toUInt8 = c by simp]; exact .v⟩
theorem aA2 {s p : Bytes} : Fc Tryz.prog gT 257 [.str s, .str p] (bS (Lib.hasPrefix s p)) :=
 jJ ⟨_, Tryz.func257, rfl, by kernel_rfl⟩ fun ρ w vs hf ha => by
  rw [jK (xs := [str s, str p]) rfl ha]
  refine (Tryz.strings_HasPrefix ⟨s.toArray⟩ ⟨p.toArray⟩ w.w).mono ?_
  rintro e w' ⟨rfl, rfl⟩
  exact ⟨_, rfl, Below.refl _ _, fun _ _ => .v⟩
theorem P0 {t : Bytes} {n : Nat} (h0 : t ≠ []) (h16 : t.length ≤ 16) (h : Lib.parseUintM HI 0 t = .ok n) : Fc Tryz.prog gT 334 [.str t, nI 10, nI 62] (.t [nU n, .v .nilIface]) :=
 jJ ⟨_, Tryz.func334, rfl, by kernel_rfl⟩ fun ρ w vs hf ha => by
  rw [jK (xs := [str t, .int .i64 10, .int .i64 62]) rfl ha]
  refine (UN Tryz.laysPu14 ⟨t.toArray⟩ (by simpa [ByteArray.size] using h0) (by simpa [ByteArray.size] using h16) n (by simpa using h) w.w).mono ?_
  rintro e w' ⟨rfl, rfl⟩
  exact ⟨_, rfl, Lib.bytesWorld_below _ _ _, fun _ _ => .t [_, _] rfl (aI.cons .v (aI.cons .v aI.nil)).2⟩
theorem MI {t : Bytes} (h0 : t ≠ []) (h16 : t.length ≤ 16) (h : Lib.parseUintM HI 0 t = UM) : Fc Tryz.prog gT 334 [.str t, nI 10, nI 62] (.t [nU 0, .ni]) :=
 jJ ⟨_, Tryz.func334, rfl, by kernel_rfl⟩ fun ρ w vs hf ha => by
  rw [jK (xs := [str t, .int .i64 10, .int .i64 62]) rfl ha]
  obtain ⟨ev, hv, hev⟩ := (glf hf).esyn
  refine (PW Tryz.laysPu14 ⟨t.toArray⟩ (by simpa [ByteArray.size] using h0) (by simpa [ByteArray.size] using h16) (by simpa using h) ev w.w hv hev).mono ?_
  rintro e w' ⟨v, rfl, hb⟩
  exact ⟨_, rfl, hb, fun _ _ => .t [_, _] rfl (aI.cons .v (aI.cons .ni aI.nil)).2⟩
end Go.Proofs.YtomkgfdigldhcaaGreatDoor
namespace Go.KX
def UP (i : Nat) : List Nat → SL → SL
 | _, [] => []
 | seen, (t, sv) :: r => match seen.elem t with
   | true => UP i seen r
   | false => match yG i sv with
     | true => UP i (t :: seen) r
     | false => (t, sv) :: UP i (t :: seen) r
theorem wI {i : Nat} : ∀ {L : SL} {seen : List Nat} {t : Nat} {sv : SV}, aF (UP i seen L) t = some sv → seen.elem t = false ∧ aF L t = some sv ∧ yG i sv = false
 | [], seen, t, sv, h => by simp [UP, aF] at h
 | (u, x) :: r, seen, t, sv, h => by
  unfold UP at h
  cases hs : seen.elem u with
  | true =>
    rw [hs] at h
    obtain ⟨h1, h2, h3⟩ := wI (L := r) h
    have htu : t ≠ u := by rintro rfl; rw [hs] at h1; cases h1
    exact ⟨h1, by rw [bX _ _ htu]; exact h2, h3⟩
  | false =>
    rw [hs] at h
    cases ho : yG i x with
    | true =>
      rw [ho] at h
      obtain ⟨h1, h2, h3⟩ := wI (L := r) h
      have htu : t ≠ u := by rintro rfl; simp at h1
      have h4 : seen.elem t = false := by simp at h1 ⊢; exact h1.2
      exact ⟨h4, by rw [bX _ _ htu]; exact h2, h3⟩
    | false =>
      rw [ho] at h
      by_cases htu : t = u
      ·subst htu
       simp only [bF] at h
       cases h
       exact ⟨hs, bF _ _ _, ho⟩
      ·simp only at h
       rw [bX _ _ htu] at h
       obtain ⟨h1, h2, h3⟩ := wI (L := r) h
       have h4 : seen.elem t = false := by simp at h1 ⊢; exact h1.2
       exact ⟨h4, by rw [bX _ _ htu]; exact h2, h3⟩
def JI (i : Nat) : SM → Bool
 | [] => false
 | (j, m) :: r => match Nat.beq i j with
  | true => !(eM i r)
  | false => !(eM i [(j, m)]) && JI i r
theorem aR.setU {g : GW} {ρ : Nat → Lc} : ∀ {M : SM} {ms : List aH} {i : Nat} {mb : MB}, JI i M = true → aR g ρ M ms → fZ M i = some mb → ∃ r m1 m2, ms = m1 ++ r :: m2 ∧ bQ g ρ i mb r ∧
 ∀ {β : Type} {mb' : MB} {K : SM → Option β} {res : β}, fU M i mb' K = some res → ∃ M', K M' = some res ∧ ∀ g' y r', aR g' ρ M (m1 ++ r :: m2) → bQ g' (fun j => if j = i then y else ρ j) i mb' r' → aR g' (fun j => if j = i then y else ρ j) M' (m1 ++ r' :: m2)
 | [], _, _, _, ho, _, _ => by cases ho
 | (j, m) :: M, _, i, mb, ho, @aR.cons _ _ _ _ _ r0 ms0 hb t, h => by
  unfold fZ at h
  unfold JI at ho
  cases hij : Nat.beq i j with
  | true =>
    rw [hij] at h ho
    simp only [Option.some.injEq] at h
    subst h
    have hj := Nat.eq_of_beq_eq_true hij
    subst hj
    refine ⟨r0, [], ms0, rfl, hb, fun {β mb' K res} hu => ?_⟩
    simp only [fU, hij] at hu
    exact ⟨_, hu, fun g' y r' hM hB => by
     cases hM with
     | cons _ t' => exact .cons hB (dH t' (by simpa using ho))⟩
  | false =>
    rw [hij] at h ho
    simp only [Bool.and_eq_true, Bool.not_eq_true'] at ho
    obtain ⟨r, m1, m2, rfl, hB, hu⟩ := aR.setU (M := M) ho.2 t h
    refine ⟨r, r0 :: m1, m2, rfl, hB, fun {β mb' K res} hu' => ?_⟩
    simp only [fU, hij] at hu'
    obtain ⟨M', h1, h2⟩ := hu hu'
    exact ⟨_, h1, fun g' y r' hM hB => by
     cases hM with
     | cons hb' t' =>
       have := dH (y := y) (.cons hb' .nil : aR g' ρ [(j, m)] [r0]) ho.1
       cases this with
       | cons hb2 _ => exact .cons hb2 (h2 g' y r' t' hB)⟩
theorem chunks {sz : Nat} (hz : 0 < sz) : ∀ (n : Nat) (xs : List Value), xs.length = n * sz → (∀ u ∈ xs, u.oneCell' = true) → ∃ ys : List (Row sz), ys.length = n ∧ flat (aC sz hz) ys = xs
 | 0, xs, hl, _ => ⟨[], rfl, by
    have : xs = [] := List.eq_nil_of_length_eq_zero (by simpa using hl)
    rw [this]; rfl⟩
 | n + 1, xs, hl, h1 => by
   have hs : (n + 1) * sz = n * sz + sz := Nat.succ_mul n sz
   obtain ⟨ys, h2, h3⟩ := chunks hz n (xs.drop sz) (by rw [List.length_drop]; omega) (fun u hu => h1 u (List.mem_of_mem_drop hu))
   refine ⟨⟨xs.take sz, by rw [List.length_take]; omega, fun u hu => h1 u (List.mem_of_mem_take hu)⟩ :: ys, by simp [h2], ?_⟩
   simp only [flat, List.flatMap_cons] at h3 ⊢
   rw [h3]
   exact List.take_append_drop _ _
section
variable {X : Kx} {k : List It} {L : SL} {M : SM} {fs : List MF} {own : List aH} {arr : Array Oper} {l : List Oper} {o : Oper}
theorem MJ (t i T sz : Nat) (h : ES X arr l k ((t, .o i 0) :: L) ((i, .r T sz []) :: M) fs own) (hi : aF L t = some (.s 0 []) := by rfl) (hoc : (cU i L || eM i M) = false := by rfl) (hlt : Nat.blt i 1000 = true := by rfl) (hz : 0 < sz := by decide) : ES X arr l k L M fs own := by
 intro g a s
 obtain ⟨ρ, ms, h1, h2, h3⟩ := s
 simp only [Bool.or_eq_false_iff] at hoc
 have hlt : i < 1000 := by simpa [Nat.blt_eq] using hlt
 let y : Lc := ⟨0, none, 0⟩
 have hB : bQ g (fun j => if j = i then y else ρ j) i (.r T sz []) (aH.arr (aC sz hz) T ((fun j => if j = i then y else ρ j) i).ad ((fun j => if j = i then y else ρ j) i).c []) := .r hz [] rfl (fun ρ' k x r h => by simp at h)
 simp only [if_pos] at hB
 refine h g a ⟨fun j => if j = i then y else ρ j, aH.arr (aC sz hz) T none 0 [] :: ms, ⟨h1.kn, h1.all, h1.own.arr_nil (aC sz hz) T, h1.ext, h1.new⟩, .cons hB (dH h2 hoc.2), fun j hj => ?_, fun u sv hu => ?_⟩
 ·have : j ≠ i := by omega
  simp only [if_neg this]; exact h3.pin j hj
 ·by_cases hut : u = t
  ·subst hut
   rw [bF] at hu
   cases hu
   obtain ⟨x, hx, dx⟩ := h3.val u _ hi
   refine ⟨x, hx, ?_⟩
   cases dx with
   | s xs _ _ _ _ ho _ _ =>
     obtain ⟨rfl, rfl⟩ := ho.2 rfl
     have : bC g (fun j => if j = i then y else ρ j) (.o i 0) (.slice ((fun j => if j = i then y else ρ j) i).ad 0 ((fun j => if j = i then y else ρ j) i).c) := .o
     simpa [y] using this
  ·rw [bX _ _ hut] at hu
   obtain ⟨x, hx, dx⟩ := h3.val u sv hu
   exact ⟨x, hx, dx.upd (c8 hoc.1 u sv hu)⟩
theorem HQ (t i T sz : Nat) (h : E X k ((t, .o i 0) :: L) ((i, .r T sz []) :: M) fs own) (hi : aF L t = some (.s 0 []) := by rfl) (hoc : (cU i L || eM i M) = false := by rfl) (hlt : Nat.blt i 1000 = true := by rfl) (hz : 0 < sz := by decide) : E X k L M fs own :=
 MJ (arr := #[]) (l := []) t i T sz (jI h) hi hoc hlt hz |> fun h => h
def gP {sz : Nat} (ys : List (Row sz)) (rows : List (List SV)) : MF := ⟨fun g => ∀ (ρ' : Nat → Lc) (k : Nat) x r, ys[k]? = some x → rows[k]? = some r → aI g ρ' r x.1, fun e h ρ' k x r h1 h2 => (h ρ' k x r h1 h2).mono e⟩
theorem BH (t : Nat) {i n T sz : Nat} {rows : List (List SV)} (hn : n = rows.length) (h : ES X arr l k ((t, .s sz rows) :: L) (G7 i (.r T sz rows) M) fs own) (hi : aF L t = some (.o i n) := by rfl) (hm : fZ M i = some (.r T sz rows) := by rfl) (hr : ∀ r ∈ rows, r.length = sz) : ES X arr l k L M fs own := by
 intro g a s
 obtain ⟨ρ, ms, st⟩ := s.open
 have hM : aR g ρ M ms := st.all _ (.head _)
 obtain ⟨r, m1, m2, rfl, hB, hu⟩ := hM.take hm
 have hp : (m1 ++ r :: m2 ++ own).Perm (r :: (m1 ++ m2 ++ own)) := by
  simp only [List.append_assoc, List.cons_append]
  exact List.perm_middle
 cases hB with
 | r hz ys hl hd =>
   have stp0 := st.perm hp
   have stp : St X.toCx [] (gP ys rows :: F1 ρ M _ :: F2 X ρ L a :: fs) _ g a := ⟨stp0.kn, dF.cons hd stp0.all, stp0.own, stp0.ext, stp0.new⟩
   obtain ⟨g', hw, s'⟩ := stp.publish .head
   have hd' : (gP ys rows).p g' := s'.all _ (.tail _ (.head _))
   have hsm : (TU (aC sz hz) (ρ i).ad (ρ i).c ys).p g' := s'.all _ (.head _)
   have hSl : Sl X ρ L a g' := s'.all (F2 X ρ L a) (.tail _ (.tail _ (.tail _ (.head _))))
   ·have hM2 : aR g' ρ M (m1 ++ _ :: m2) := s'.all (F1 ρ M _) (.tail _ (.tail _ (.head _)))
    refine hw ▸ h g' a ⟨ρ, m1 ++ m2, ⟨s'.kn, fun f hf => s'.all f (.tail _ (.tail _ (.tail _ (.tail _ hf)))), s'.own, s'.ext, s'.new⟩, hu g' hM2, hSl.pin, fun u sv hu' => ?_⟩
    by_cases hut : u = t
    ·subst hut
     rw [bF] at hu'
     cases hu'
     obtain ⟨x, hx, dx⟩ := hSl.val u _ hi
     refine ⟨x, hx, ?_⟩
     cases dx with
     | o =>
       obtain ⟨q1, q2, q3⟩ := hsm
       rw [hn]
       refine .s (flat (aC sz hz) ys) (by rw [← hl]; exact q1) (by rw [← hl]; exact q2) (by rw [eN, hl]; rfl) hr ⟨u9 _ _, fun h => absurd h (by omega)⟩ (fun hne => ?_) (fun ρ' i' j r' sv' x' h1 h2 h3 => ?_)
       ·obtain ⟨b, oo, e1, e2, e3⟩ := q3 (by intro e; apply hne; rw [← List.length_eq_zero_iff, ← hl, e]; rfl)
        exact ⟨b, oo, e1, e2, e3⟩
       ·have hlt : i' < ys.length := by
         rw [hl]
         rcases Nat.lt_or_ge i' rows.length with h | h
         ·exact h
         ·rw [List.getElem?_eq_none h] at h1; cases h1
        have hy := List.getElem?_eq_getElem hlt
        have hdl := hd' ρ' i' _ r' hy h1
        obtain ⟨y, hyj, dy⟩ := hdl.get h2
        have hfl := flat_get (aC sz hz) ys i' j _ y hy hyj
        rw [show (aC sz hz).sz = sz from rfl] at hfl
        have : y = x' := Option.some.inj (hfl.symm.trans h3)
        subst this
        exact dy
    ·rw [bX _ _ hut] at hu'
     exact hSl.val u sv hu'
theorem wJ (t : Nat) {i n T sz : Nat} {rows : List (List SV)} (hn : n = rows.length) (h : E X k ((t, .s sz rows) :: L) (G7 i (.r T sz rows) M) fs own) (hi : aF L t = some (.o i n) := by rfl) (hm : fZ M i = some (.r T sz rows) := by rfl) (hr : ∀ r ∈ rows, r.length = sz) : E X k L M fs own :=
 BH (arr := #[]) (l := []) t hn (jI h) hi hm hr |> fun h => h
theorem P1 {tb : TT} (hT : tb.Ok X.P) (m : Nat) (H : List (List SV)) {d T Te i n sz z : Nat} {x y : Operand} {rows rows2 : List (List SV)} {dT de : TD} {M2 l' L' M' φ} (hn : n = rows.length) (hz2 : rows2 ≠ [] → z = sz) (hbig : (rows.length + rows2.length) * de.by_ ≤ 140737488355328) (hk : ES X arr l' k L' M' fs own) (ho : o.op = .call ⟨.builtin .append, #[x, y], #[T, T]⟩ := by rfl) (hg : o.guard = none := by rfl) (hd : o.dst = some d := by rfl) (hdn : Nat.blt d X.n = true := by rfl)
 (hx : cO (aF L) x = some (.o i n) := by rfl) (hy : cO (aF L) y = some (.s z rows2) := by rfl) (hm : fZ M i = some (.r Te sz rows) := by rfl) (hT1 : tb.get T = some dT := by rfl) (hk1 : dT.kd = .sl Te := by rfl) (hT2 : tb.get Te = some de := by rfl) (hsz : de.sz = sz := by rfl) (hzl : Nat.beq (aN (inj de.z)).length de.sz = true := by rfl) (hby : 1 ≤ de.by_ := by decide) (ho1 : JI i M = true := by rfl) (hi1 : Nat.blt i 1000 = true := by rfl)
 (hu : fU M i (.r Te sz (rows ++ rows2)) some = some M2 := by rfl) (hr : iY tb X.n arr m H l ((d, .o i (rows ++ rows2).length) :: UP i [] L) M2 [] = some (l', L', M', φ) := by rfl) (hφ : aE φ := by first | trivial | omega | (simp +contextual [aE]; done)) : ES X arr (o :: l) k L M fs own := by
 subst hsz hn
 intro g a hE
 obtain ⟨ρ, ms, st⟩ := hE.open
 have hSl : Sl X ρ L a g := st.all _ (.tail _ (.head _))
 have hw : Region.wanted o (yielded arr a.tmps) = true := aX (L := []) st.kn (cA hg)
 have hi1 : i < 1000 := by simpa [Nat.blt_eq] using hi1
 have hM : aR g ρ M ms := st.all _ (.head _)
 obtain ⟨r, m1, m2, rfl, hB, hup⟩ := hM.setU ho1 hm
 obtain ⟨M3, hK, hM3⟩ := hup hu
 cases hK
 have dx := dJ hSl.val hx
 have dy := dJ hSl.val hy
 generalize hvx : a.eval x = vx at dx
 generalize hvy : a.eval y = vy at dy
 have u := (TT.get_ok hT hT1).kd
 rw [hk1] at u
 have hti := (TT.get_ok hT hT2).ti
 have hzs : de.z.cells.size = de.sz := mE (Nat.eq_of_beq_eq_true hzl)
 cases hB with
 | r hz ys hl hdd =>
   cases dx with
   | o =>
     cases dy with
     | s xs h1 h2 hxl hxr hxo hne hxd =>
       rename_i ad2 c2
       have hxl2 : xs.length = rows2.length * de.sz := by
        by_cases he : rows2 = []
        ·rw [he] at hxl ⊢; simpa using hxl
        ·rw [← hz2 he]; exact hxl
       obtain ⟨ys2, hyl2, hyf⟩ := chunks hz rows2.length xs hxl2 hxo.1
       have hp : (m1 ++ aH.arr (aC de.sz hz) Te (ρ i).ad (ρ i).c ys :: m2 ++ own).Perm (aH.arr (aC de.sz hz) Te (ρ i).ad (ρ i).c ys :: (m1 ++ m2 ++ own)) := by
        simp only [List.append_assoc, List.cons_append]
        exact List.perm_middle
       have stp0 := st.perm hp
       have stp : St X.toCx [] (gP ys rows :: gP ys2 rows2 :: F1 ρ M _ :: F2 X ρ L a :: fs) _ g a := ⟨stp0.kn, dF.cons hdd (dF.cons (fun ρ' k x r hk hr => by
        have hrl : r.length = de.sz := by
         have hne2 : rows2 ≠ [] := by intro e; subst e; simp at hr
         rw [← hz2 hne2]; exact hxr r (List.mem_of_getElem? hr)
        refine ⟨by rw [x.2.1, hrl], fun j sv v hj hv => ?_⟩
        have hf := flat_get (aC de.sz hz) ys2 k j x v hk hv
        rw [hyf] at hf
        have hne2 : rows2 ≠ [] := by intro e; subst e; simp at hr
        exact hxd ρ' k j r sv v hr hj (by rw [hz2 hne2]; exact hf)) stp0.all), stp0.own, stp0.ext, stp0.new⟩
       have hown : g.w.ownsRow 0 Te de.sz (.slice (ρ i).ad ys.length (ρ i).c) ys.length (flat (aC de.sz hz) ys) := stp.own.p _ (.head _)
       have hbig' : (ys.length + rows2.length) * de.by_ ≤ 140737488355328 := by rw [hl]; exact hbig
       have h63 : ys.length + rows2.length ≤ maxLen := by
        have : ys.length + rows2.length ≤ (ys.length + rows2.length) * de.by_ := Nat.le_mul_of_pos_right _ hby
        simp only [maxLen]; omega
       have hrun : ∃ v' w', (Builtin.append_ #[T, T] o.type #[.slice (ρ i).ad ys.length (ρ i).c, .slice ad2 rows2.length c2]).run X.P g.w = .ok v' w' ∧ vA g.w w' Te de.sz (.slice (ρ i).ad ys.length (ρ i).c) v' (ys ++ ys2).length (flat (aC de.sz hz) (ys ++ ys2)) := by
        rw [List.length_append, tP, hyl2, hyf]
        cases ad2 with
        | none =>
          have hr2 : rows2 = [] := by
           rcases rows2 with _ | ⟨q, qs⟩
           ·rfl
           ·obtain ⟨_, _, he, _⟩ := hne (by simp); cases he
          subst hr2
          have hx0 : xs = [] := List.eq_nil_of_length_eq_zero (by simpa using hxl)
          subst hx0
          obtain ⟨i0, hi0, hs0, hb0, hz0⟩ := hti
          refine ⟨.slice (ρ i).ad ys.length (ρ i).c, g.w, ?_, by simpa using hown, ⟨rfl, rfl, rfl, Nat.le_refl _, fun _ _ _ => rfl⟩, fun b hb => .inl hb⟩
          rcases hown.2 with ⟨hv, _⟩ | ⟨gg, cap, cur, hv, _, _, hnc, _⟩
          ·injection hv with e1 e2 e3
           simp [Builtin.append_, run_underlying u, sizeOf, typeInfo, hi0, Builtin.lenOf, Builtin.firstCells, e1, e2, e3]
          ·injection hv with e1 e2 e3
           subst e3
           simp [Builtin.append_, run_underlying u, sizeOf, typeInfo, hi0, Builtin.lenOf, Builtin.firstCells, e1, hnc, storeCells]
        | some ad2 =>
          exact IW u hti hzs hz hown hxl2 (fun j v hv => by
           have hne2 : rows2 ≠ [] := by intro e; subst e; simp at hxl2; subst hxl2; simp at hv
           obtain ⟨b, oo, he, _, hc⟩ := hne hne2
           cases he
           rw [addr_add]
           exact hc j v hv) hxo.1 h63 hbig'
       obtain ⟨v', w', hr0, h1'⟩ := hrun
       obtain ⟨ad', c', g', rfl, rfl, s'⟩ := stp.appd .head h1'
       have hre : (execOp a.eval o).run X.P g.w = .ok (.value (.slice ad' (ys ++ ys2).length c')) g'.w := by
        simp only [execOp, ho, resolve]
        simp only [List.map_toArray, List.map_cons, List.map_nil, hvx, hvy, ← hl]
        simp [invoke, builtin, hr0]
       simp only [wl, hw, if_true, wn, hre, hd]
       let y : Lc := ⟨(ρ i).b, ad', c'⟩
       have hd1 : (gP ys rows).p g' := s'.all _ (.head _)
       have hd2 : (gP ys2 rows2).p g' := s'.all _ (.tail _ (.head _))
       have hSl' : Sl X ρ L a g' := s'.all (F2 X ρ L a) (.tail _ (.tail _ (.tail _ (.head _))))
       have hM' : aR g' ρ M (m1 ++ _ :: m2) := s'.all (F1 ρ M _) (.tail _ (.tail _ (.head _)))
       have hBn : bQ g' (fun j => if j = i then y else ρ j) i (.r Te de.sz (rows ++ rows2)) (aH.arr (aC de.sz hz) Te ((fun j => if j = i then y else ρ j) i).ad ((fun j => if j = i then y else ρ j) i).c (ys ++ ys2)) := .r hz (ys ++ ys2) (by simp [hl, hyl2]) (fun ρ' k x r hk hr => by
        rw [List.getElem?_append] at hk hr
        rw [hl] at hk
        split at hr
        ·rename_i hlt; rw [if_pos hlt] at hk; exact hd1 ρ' k x r hk hr
        ·rename_i hlt; rw [if_neg hlt] at hk; exact hd2 ρ' _ x r hk hr)
       simp only [if_pos] at hBn
       have hMn := hM3 g' y _ hM' (by simpa using hBn)
       have hp2 : (aH.arr (aC de.sz hz) Te ad' c' (ys ++ ys2) :: (m1 ++ m2 ++ own)).Perm (m1 ++ aH.arr (aC de.sz hz) Te ad' c' (ys ++ ys2) :: m2 ++ own) := by
        simp only [List.append_assoc, List.cons_append]
        exact List.perm_middle.symm
       have s2 := s'.perm hp2
       have s3 : St X.toCx [] (F1 (fun j => if j = i then y else ρ j) M2 (m1 ++ aH.arr (aC de.sz hz) Te ad' c' (ys ++ ys2) :: m2) :: F2 X (fun j => if j = i then y else ρ j) (UP i [] L) a :: fs) (m1 ++ aH.arr (aC de.sz hz) Te ad' c' (ys ++ ys2) :: m2 ++ own) g' a := ⟨s2.kn, dF.cons hMn (dF.cons ⟨fun j hj => by
        have : j ≠ i := by omega
        simp only [if_neg this]; exact hSl'.pin j hj, fun t sv ht => by
        obtain ⟨_, h3, h4⟩ := wI ht
        obtain ⟨x, hx, dx⟩ := hSl'.val t sv h3
        exact ⟨x, hx, dx.upd h4⟩⟩ (fun f hf => s2.all f (.tail _ (.tail _ (.tail _ (.tail _ hf)))))), s2.own, s2.ext, s2.new⟩
       refine go hT m H hk hr hφ g' _ (cV.put s3 hdn ?_)
       have hlen : (ys ++ ys2).length = (rows ++ rows2).length := by simp [hl, hyl2]
       rw [hlen]
       have : bC g' (fun j => if j = i then y else ρ j) (.o i (rows ++ rows2).length) (.slice ((fun j => if j = i then y else ρ j) i).ad (rows ++ rows2).length ((fun j => if j = i then y else ρ j) i).c) := .o
       simpa [y] using this
end
abbrev gQ (l : List Bytes) : List (List SV) := l.map fun s => [.str s]
theorem P2 {g : GW} {ys : List (Row 1)} {l : List Bytes} (hl : ys.length = (gQ l).length) (hd : ∀ (ρ' : Nat → Lc) (k : Nat) x r, ys[k]? = some x → (gQ l)[k]? = some r → aI g ρ' r x.1) : flat (aC 1 (by decide)) ys = l.map str := by
 apply List.ext_getElem?
 intro k
 have hfl : (flat (aC 1 (by decide)) ys).length = ys.length := by rw [eN]; simp [aC]
 by_cases hk : k < ys.length
 ·have hkl : k < l.length := by rw [hl] at hk; simpa using hk
  have hy := List.getElem?_eq_getElem hk
  have hr : (gQ l)[k]? = some [.str l[k]] := by simp [hkl]
  have := hd (fun _ => ⟨0, none, 0⟩) k _ _ hy hr
  obtain ⟨x, r, hx, dx, hr2⟩ := this.uncons
  have hx0 : (ys[k]).1[0]? = some x := by rw [hx]; rfl
  have hf := flat_get (aC 1 (by decide)) ys k 0 _ x hy hx0
  rw [show (aC 1 (by decide)).sz = 1 from rfl, Nat.mul_one, Nat.add_zero] at hf
  rw [hf, eS dx]
  simp [hkl]
 ·have hyl : ys.length = l.length := by simpa using hl
  rw [List.getElem?_eq_none (by omega), List.getElem?_eq_none (by simp; omega)]
def rowOf (s : Bytes) : Row 1 := ⟨[str s], rfl, fun u hu => by simp at hu; subst hu; rfl⟩
theorem HS (l : List Bytes) : flat (aC 1 (by decide)) (l.map rowOf) = l.map str := by
 induction l with
 | nil => rfl
 | cons s r ih =>
   simp only [flat, List.map_cons, List.flatMap_cons] at ih ⊢
   rw [ih]
   rfl
theorem MK {g : GW} {l : List Bytes} : ∀ (ρ' : Nat → Lc) (k : Nat) x r, (l.map rowOf)[k]? = some x → (gQ l)[k]? = some r → aI g ρ' r x.1 := by
 intro ρ' k x r hx hr
 simp only [List.getElem?_map, Option.map_eq_some_iff] at hx hr
 obtain ⟨s, hs, rfl⟩ := hx
 obtain ⟨s', hs', rfl⟩ := hr
 rw [hs] at hs'
 cases hs'
 exact aI.cons .str aI.nil
abbrev f4 (l : List Bytes) : List Bytes := l.mergeSort fun x y => decide (x ≤ y)
theorem lV (l : List Bytes) : (f4 l).length = l.length := (List.mergeSort_perm l _).length_eq
theorem HT {l : List Bytes} {a : Bytes} (j : Nat) : Lib.keeps (a :: l).toArray (j + 1) = decide (l[j]! ≠ (a :: l)[j]!) := by simp [Lib.keeps]
def BI : Bytes → List Bytes → List Bytes
 | _, [] => []
 | a, b :: r => if b = a then BI b r else b :: BI b r
def mJ : List Bytes → List Bytes
 | [] => []
 | a :: r => a :: BI a r
theorem JJ : ∀ (r : List Bytes) (a : Bytes), ((List.range r.length).filter (fun j => decide (r[j]! ≠ (a :: r)[j]!))).map (r[·]!) = BI a r
 | [], _ => rfl
 | b :: r, a => by
   have ih := JJ r b
   simp only [List.length_cons, List.range_succ_eq_map, List.filter_cons, List.filter_map, Function.comp_def, Nat.succ_eq_add_one]
   simp only [List.getElem!_cons_succ, List.getElem!_cons_zero] at ih ⊢
   unfold BI
   by_cases h : b = a
   ·simp only [h, ne_eq, not_true_eq_false, decide_false, Bool.false_eq_true, if_false, if_true]
    rw [h] at ih
    simp only [List.map_map, Function.comp_def, Nat.succ_eq_add_one, List.getElem!_cons_succ]
    exact ih
   ·simp only [h, ne_eq, not_false_eq_true, decide_true, if_true, if_false, List.map_cons, List.map_map, Function.comp_def, List.getElem!_cons_succ, List.getElem!_cons_zero]
    exact congrArg (b :: ·) ih
theorem EP (l : List Bytes) : Lib.compact l = mJ l := by
 cases l with
 | nil => rfl
 | cons a r =>
   have ih := JJ r a
   simp only [Lib.compact, Lib.compactUpTo, List.length_cons, List.range_succ_eq_map, List.filter_cons, List.filter_map, Function.comp_def, Nat.succ_eq_add_one]
   have h0 : Lib.keeps (a :: r).toArray 0 = true := by simp [Lib.keeps]
   simp only [h0, HT, if_true, List.map_cons, List.map_map, Function.comp_def]
   show _ = a :: BI a r
   rw [← ih]
   simp
theorem EQ : ∀ (r : List Bytes) (a : Bytes), (BI a r).length ≤ r.length
 | [], _ => Nat.le_refl _
 | b :: r, a => by
   have := EQ r b
   unfold BI
   split <;> simp <;> omega
theorem wK (l : List Bytes) : (mJ l).length ≤ l.length := by
 cases l with
 | nil => exact Nat.le_refl _
 | cons a r => have := EQ r a; simp [mJ]; exact this
end Go.KX
namespace Go.Proofs.YtomkgfdigldhcaaGreatDoor
open Go.KX Go.RowKit Go.Sort
theorem JK {f : FuncId} (hc : iV Tryz.prog f) {l l' : List Bytes} {res : SV} (hll : l'.length ≤ l.length)
 (h0 : l = [] → ∀ w, ∀ c, Calls Tryz.prog f #[.slice none 0 c] w fun e w' => ∃ v, e = .returned v ∧ w' = w ∧ ∀ g ρ, (ρ 1000).ad = none → (ρ 1000).c = c → bC g ρ res v)
 (h1 : ∀ (g : GW) gg c (cur : Array Value), g.w.heap[gg]? = some (.cells cur 9 (0, 0)) → l.length ≤ c → c ≤ maxLen → cur.size = c → cur.toList.take l.length = l.map encStr → Calls Tryz.prog f #[.slice (some ⟨gg, 0, none⟩) l.length c] g.w fun e w' => ∃ v, e = .returned v ∧ (∀ g ρ, (ρ 1000).ad = some ⟨gg, 0, none⟩ → (ρ 1000).c = c → bC g ρ res v) ∧ g.w.grownBy w' (some gg) ∧ ∃ cur', w'.heap[gg]? = some (.cells cur' 9 (0, 0)) ∧ cur'.size = c ∧ cur'.toList.take l'.length = l'.map encStr) :
 Fp Tryz.prog gT f [.o 1000 l.length] (.r 9 1 (gQ l)) res (.r 9 1 (gQ l')) := by
 refine ⟨hc, fun ρ g vs ms hf ha hM ho => ?_⟩
 obtain ⟨v0, r0, rfl, dv, dr⟩ := ha.uncons
 obtain rfl := dr.unnil
 cases hM with
 | cons hB ht =>
   cases ht
   cases hB with
   | r hz ys hl hd =>
     cases dv with
     | o =>
       have hfl := P2 hl hd
       obtain ⟨q1, q2⟩ := ho.p _ (.head _)
       have hyl : ys.length = l.length := by simpa using hl
       have hzz : hz = (by decide) := rfl
       rcases q2 with ⟨hv, hn⟩ | ⟨gg, cap, cur, hv, hbase, hgg, r1, r2, r3, r4⟩
       ·injection hv with e1 e2 e3
        have hl0 : l = [] := List.eq_nil_of_length_eq_zero (by omega)
        have hl'0 : l' = [] := List.eq_nil_of_length_eq_zero (by rw [hl0] at hll; simpa using hll)
        have ea : (#[.slice (ρ 1000).ad l.length (ρ 1000).c] : Array Value) = #[.slice none 0 (ρ 1000).c] := by rw [e1, hl0]; rfl
        show Calls _ _ #[.slice (ρ 1000).ad l.length (ρ 1000).c] _ _
        rw [ea]
        refine (h0 hl0 g.w (ρ 1000).c).mono ?_
        rintro e w' ⟨v, rfl, rfl, hden⟩
        refine ⟨v, g, res, [(1000, .r 9 1 (gQ l'))], _, rfl, rfl, oK.refl _ g, ⟨rfl, rfl⟩, hden g ρ e1 rfl, .cons (.r hz ys ?_ ?_) .nil, ho, fun _ h => .inl h⟩
        ·rw [hl, hl0, hl'0]
        ·rw [hl'0]; intro ρ' k x r hx hr; simp at hr
       ·injection hv with e1 e2 e3
        have ea : (#[.slice (ρ 1000).ad l.length (ρ 1000).c] : Array Value) = #[.slice (some ⟨gg, 0, none⟩) l.length cap] := by rw [e1, e3]
        show Calls _ _ #[.slice (ρ 1000).ad l.length (ρ 1000).c] _ _
        rw [ea]
        have r4' : cur.toList.take l.length = l.map encStr := by
         have h5 := r4
         rw [hfl, hyl] at h5
         have h6 : cur.toList.take l.length = l.map str := by simpa [aC] using h5
         exact h6
        refine (h1 g gg cap cur hgg (by omega) r2 (by simpa [aC] using r3) r4').mono ?_
        rintro e w' ⟨v, rfl, hden, hg, cur', hc1, hc2, hc3⟩
        have hbs : (aH.arr (aC 1 hz) 9 (ρ 1000).ad (ρ 1000).c ys).bs = [gg] := by simp [aH.arr, yD, e1]
        have hlt : gg < g.w.heap.size := ho.lt gg (by simp [hbs])
        have hnf : ¬ g.fz gg := ho.nfz gg (by simp [hbs])
        let g' : GW := ⟨w', g.fz, fun x hx => Nat.lt_of_lt_of_le (g.lt x hx) hg.size⟩
        have hE : oK (bV [aH.arr (aC 1 hz) 9 (ρ 1000).ad (ρ 1000).c ys]) g g' := ⟨⟨hg.os, hg.tape, hg.output, hg.size, fun _ h => h, fun x hf => hg.block x (g.lt x hf) (fun e => hnf (by cases e; exact hf))⟩, fun x h hn => hg.block x h (fun e => hn (by cases e; simp [hbs])), fun _ _ _ h => h⟩
        have hbs' : (aH.arr (aC 1 hz) 9 (ρ 1000).ad (ρ 1000).c (l'.map rowOf)).bs = [gg] := by simp [aH.arr, yD, e1]
        refine ⟨v, g', res, [(1000, .r 9 1 (gQ l'))], [aH.arr (aC 1 hz) 9 (ρ 1000).ad (ρ 1000).c (l'.map rowOf)], rfl, rfl, hE, ⟨rfl, rfl⟩, hden g' ρ e1 e3, .cons (.r hz _ (by simp) MK) .nil, ⟨fun x hx => ?_, by simp [hbs'], fun x hx => ?_, fun x hx => ?_⟩, fun x hx => .inl (by simpa [hbs, hbs'] using hx)⟩
        ·rcases List.mem_singleton.1 hx with rfl
         refine ⟨by rw [eN], .inr ⟨gg, cap, cur', by rw [e1, e3], Nat.zero_le _, hc1, by simp; omega, r2, by simpa [aC] using hc2, ?_⟩⟩
         have := HS l'
         show cur'.toList.take ((l'.map rowOf).length * 1) = flat (aC 1 hz) (l'.map rowOf)
         rw [this, Nat.mul_one, List.length_map]
         exact hc3
        ·have : x = gg := by simpa [hbs'] using hx
         subst this; exact Nat.lt_of_lt_of_le hlt hg.size
        ·have : x = gg := by simpa [hbs'] using hx
         subst this; exact hnf
theorem P3 {l : List Bytes} (hl : l.length ≤ 100000000000) : Fp Tryz.prog gT 68 [.o 1000 l.length] (.r 9 1 (gQ l)) (.t []) (.r 9 1 (gQ (f4 l))) := by
 refine JK ⟨_, Tryz.func68, rfl, by kernel_rfl⟩ (by rw [lV]; exact Nat.le_refl _) (fun h0 w c => ?_) (fun g gg c cur hgg r1 r2 r3 r4 => ?_)
 ·refine (Tryz.slices_Sort_string_none none c w).mono ?_
  rintro e w' ⟨rfl, rfl⟩
  exact ⟨_, rfl, rfl, fun g ρ _ _ => .t [] rfl (fun j sv x h => by simp at h)⟩
 ·have hH : Holds encStr g.w gg 0 l.toArray := holds_of_block hgg r4
  have hlt := (Array.getElem?_eq_some_iff.1 hgg).1
  refine (Tryz.slices_Sort_string gg 0 c l g.w hH hlt (by omega)).mono ?_
  rintro e w' ⟨rfl, k, os, rfl⟩
  refine ⟨_, rfl, fun g ρ _ _ => .t [] rfl (fun j sv x h => by simp at h), grownBy_sorted _, putCells encStr 0 (f4 l).toArray cur, heap_sorted _ hgg, by simp [putCells, r3], take_putCells cur (f4 l) (by rw [lV]; omega)⟩
theorem ER {l : List Bytes} (hl : l.length ≤ 100000000000) : Fp Tryz.prog gT 69 [.o 1000 l.length] (.r 9 1 (gQ l)) (.o 1000 (mJ l).length) (.r 9 1 (gQ (mJ l))) := by
 refine JK ⟨_, Tryz.func69, rfl, by kernel_rfl⟩ (wK l) (fun h0 w c => ?_) (fun g gg c cur hgg r1 r2 r3 r4 => ?_)
 ·refine (Tryz.slices_Compact_string_empty none c w).mono ?_
  rintro e w' ⟨rfl, rfl⟩
  refine ⟨_, rfl, rfl, fun g ρ h1 h2 => ?_⟩
  rw [h0, ← h1, ← h2]
  exact .o
 ·have hH : Holds encStr g.w gg 0 l.toArray := holds_of_block hgg r4
  refine (Tryz.slices_Compact_string gg 0 c l g.w hH (by omega) r1).mono ?_
  rintro e w' ⟨rfl, q, rfl⟩
  rw [EP]
  have hcl := wK l
  obtain ⟨ts, hts⟩ : ∃ ts, mJ l ++ List.replicate (l.length - (mJ l).length) [] = ts := ⟨_, rfl⟩
  have htl : ts.length = l.length := by rw [← hts]; simp; omega
  rw [hts]
  have hg0 : grow (putRow encStr (Sort.ahead g.w q) gg 0 ts.toArray) #[] = putRow encStr (Sort.ahead g.w q) gg 0 ts.toArray := by
   unfold grow
   simp only [Array.append_empty]
  refine ⟨_, rfl, fun g ρ h1 h2 => by rw [← h1, ← h2]; exact .o, ?_, putCells encStr 0 ts.toArray cur, ?_, by simp [putCells, r3], ?_⟩
  ·have := grownBy_sorted (w := g.w) (g := gg) (n := q) (os := #[]) ts.toArray
   rw [hg0] at this
   exact this
  ·have := heap_sorted (n := q) (os := #[]) ts.toArray hgg
   rw [hg0] at this
   exact this
  ·have h12 := congrArg (List.take (mJ l).length) (take_putCells cur ts (by omega))
   rw [List.take_take, Nat.min_eq_left (by omega), ← hts, List.map_append] at h12
   rw [← hts, h12]
   exact List.take_left' (by simp)
end Go.Proofs.YtomkgfdigldhcaaGreatDoor
namespace Go.KX
section
variable {X : Kx} {k : List It} {L : SL} {M : SM} {fs : List MF} {own : List aH} {arr : Array Oper} {l : List Oper} {o : Oper}
theorem dsq {tb : TT} (hT : tb.Ok X.P) (m : Nat) (H : List (List SV)) (ne : Bool) {un i : Nat} {D rr π' : List Nat} {Ms Ms' : List SM} {b : Bool} {d T yT : Nat} {x y : Operand} {svs cs ds : List SV} {xs ys : List Value} {fl : Array Field} {G : Option Bool} {L' M' φ ψ} (hu : X.P.underlying T = some (.struct fl)) (hp : X.P.stoodInHeld T = false)
 (hr : ∀ w, (Op.eqFields 9999 xs.toArray ys.toArray fl.toList).run X.P w = .ok b w) (hk : ED X arr k fs own un D π' L' M' Ms') (hi : arr[i]? = some o := by rfl) (hun : un.testBit i = false := by rfl) (hG : gS arr (aF L) o = some G := by rfl) (hd : o.dst = some d := by rfl) (hn : Nat.blt d X.n = true := by rfl) (ho : o.op = .binOp (O7 ne) T x y yT := by rfl)
 (hev : evs (aF L) [x, y] = some svs := by rfl) (hst : svs.map st1 = [.a cs, .a ds] := by rfl) (v1 : nH cs = some xs := by rfl) (v2 : nH ds = some ys := by rfl)
 (hm : ∀ w, (eqGuard (O7 ne) T x y (.agg xs.toArray) (.agg ys.toArray)).run X.P w = .ok () w := by intro w; kernel_rfl)
 (hc : wq G (svs.flatMap pB) = ψ := by rfl) (hψ : aE ψ := by first | trivial | exact id | exact ⟨id, id⟩ | (simp +contextual [aE]; done) | simp_all [aE])
 (hrn : f9 tb X.n arr un D m H rr ((d, wr G (.v (.bool (N4 ne b)))) :: L) M Ms [] = some (π', L', M', Ms', φ) := by rfl) (hφ : aE φ := by first | trivial | omega | (simp +contextual [aE]; done) | (simp +contextual [aE, *]; done) | (simp +contextual [aE, *] <;> omega)) : ED X arr k fs own un D (i :: rr) L M Ms := by
 refine ⟨o, wr G (.v (.bool (N4 ne b))), hi, ?_⟩
 rw [hun]
 refine ⟨.inr (fun M' => I8 (ne := ne) hG hd hn ho hev hst (by rw [hc]; exact gC hψ) v1 v2 hu hp hm hr), ?_⟩
 rw [hd]
 exact xd hT m H hk hrn hφ
end
mutual
def only (i : Nat) : SV → Bool
 | .l j _ => Nat.beq j i
 | .o j _ => Nat.beq j i
 | .e j _ => Nat.beq j i
 | .mp j => Nat.beq j i
 | .fm _ => true
 | .ni => true
 | .a cs => wL i cs
 | .f _ x y => wL i x && wL i y
 | .t vs => wL i vs
 | .g _ x => only i x
 | .v _ => true
 | .str _ => true
 | .s _ _ => true
 | .p _ => true
def wL (i : Nat) : List SV → Bool
 | [] => true
 | x :: r => only i x && wL i r
end
theorem lW {i : Nat} : ∀ {l : List SV}, wL i l = true → ∀ (j : Nat) sv, l[j]? = some sv → only i sv = true
 | [], _, j, sv, h => by simp at h
 | x :: r, hc, j, sv, h => by
   simp only [wL, Bool.and_eq_true] at hc
   cases j with
   | zero => simp at h; exact h ▸ hc.1
   | succ j => exact lW hc.2 j sv (by simpa using h)
theorem bC.only {g : GW} {ρ sv x} (h : bC g ρ sv x) {i : Nat} : Go.KX.only i sv = true → ∀ ρ', ρ' i = ρ i → bC g ρ' sv x := by
 have key : ∀ {i j : Nat}, Nat.beq j i = true → j = i := fun h => Nat.eq_of_beq_eq_true h
 induction h with
 | v => exact fun _ _ _ => .v
 | str => exact fun _ _ _ => .str
 | s xs h1 h2 hl hr ho hne hd _ => exact fun _ _ _ => .s xs h1 h2 hl hr ho hne hd
 | p xs hl hf hc hd _ => exact fun _ _ _ => .p xs hl hf hc hd
 | l => intro h ρ' e; obtain rfl := key h; rw [← e]; exact .l
 | a xs hl _ ih => exact fun hc ρ' e => .a xs hl (fun j sv x h1 h2 => ih j sv x h1 h2 (lW hc j sv h1) ρ' e)
 | f xs ys hl _ hl2 _ ih ih2 =>
   intro hc ρ' e
   simp only [Go.KX.only, Bool.and_eq_true] at hc
   exact .f xs ys hl (fun j sv x h1 h2 => ih j sv x h1 h2 (lW hc.1 j sv h1) ρ' e) hl2 (fun j sv x h1 h2 => ih2 j sv x h1 h2 (lW hc.2 j sv h1) ρ' e)
 | t xs hl _ ih => exact fun hc ρ' e => .t xs hl (fun j sv x h1 h2 => ih j sv x h1 h2 (lW hc j sv h1) ρ' e)
 | gt _ ih => exact fun hc ρ' e => .gt (ih hc ρ' e)
 | gf => exact fun _ _ _ => .gf
 | o => intro h ρ' e; obtain rfl := key h; rw [← e]; exact .o
 | e h' => intro h ρ' e; obtain rfl := key h; exact .e (by rw [e]; exact h')
 | fm raw ms clk hf hh he hk hd _ => exact fun _ _ _ => .fm raw ms clk hf hh he hk hd
 | mp => intro h ρ' e; obtain rfl := key h; rw [← e]; exact .mp
 | ni => exact fun _ _ _ => .ni
def P4 (P : Program) (fs : List MF) (f : FuncId) (args : List SV) (res : SV) (i : Nat) (mb : MB) : Prop :=
 iV P f ∧ ∀ ρ g vs, dF fs g → aI g ρ args vs → Calls P f vs.toArray g.w fun e w' => ∃ v g' r ρ', e = .returned v ∧ g'.w = w' ∧ oK [] g g' ∧ bC g' ρ' res v ∧ bQ g' ρ' i mb r ∧ Own [r] g' ∧ ∀ b ∈ bV [r], g.w.heap.size ≤ b
structure Rn (X : Kx) (fs : List MF) (tb : TT) (rs : List ResultVar) (res : SV) (i : Nat) (mb : MB) : Prop where
 ret : ∀ {k L M svs}, fV tb L M rs = some svs → bB svs = res → b9 (Nat.beq i) M = [(i, mb)] → E X (.code .ret :: k) L M fs []
theorem fnb {P : Program} {fs : List MF} {tb : TT} (hT : tb.Ok P) {f : FuncId} {fn : Func} {c : Code} {args : List SV} {res : SV} {i : Nat} {mb : MB} (n : Nat) (rs : List ResultVar) (hf : P.funcs[f]? = some fn) (hrs : fn.results = rs.toArray)
 (h : ∀ g0 B0 Q ρ0, Rn ⟨⟨P, n, g0, B0, Q, none, []⟩, ρ0⟩ fs tb rs res i mb → E ⟨⟨P, n, g0, B0, Q, none, []⟩, ρ0⟩ [.code c] (mT args 0) [] fs []) (hb : fn.body = some c := by rfl) (hname : (fn.name == "runtime.NumGoroutine") = false := by kernel_rfl) (hn : fn.ntmps = n := by rfl) (hle : args.length ≤ n := by exact Nat.le_of_ble_eq_true rfl) : P4 P fs f args res i mb := by
 refine ⟨⟨fn, hf, by simp [hb], hname⟩, fun ρ g vs hfs ha => ?_⟩
 refine calls_of_wp hf hb (wpIn_wide (n := 0) |>.1 ?_)
 have hpost : ∀ (a : Act) (g' : GW) L M' svs, fV tb L M' rs = some svs → bB svs = res → b9 (Nat.beq i) M' = [(i, mb)] → cV ⟨⟨P, n, g, [], bodyPost P fn (fun e w' => ∃ v g' r ρ', e = .returned v ∧ g'.w = w' ∧ oK [] g g' ∧ bC g' ρ' res v ∧ bQ g' ρ' i mb r ∧ Own [r] g' ∧ ∀ b ∈ bV [r], g.w.heap.size ≤ b), none, []⟩, ρ⟩ L M' fs [] g' a →
  a.defers = [] ∧ ∃ v, (results fn a.tmps).run P g'.w = .ok v g'.w ∧ ∃ v2 g2 r ρ', Ending.returned v = .returned v2 ∧ g2.w = g'.w ∧ oK [] g g2 ∧ bC g2 ρ' res v2 ∧ bQ g2 ρ' i mb r ∧ Own [r] g2 ∧ ∀ b ∈ bV [r], g.w.heap.size ≤ b := by
  intro a g' L M' svs h1 h2 h3 hst
  obtain ⟨ρ', ms', s1, s2, s3⟩ := hst
  obtain ⟨v, hv, dv⟩ := iG (X := ⟨⟨P, n, g, [], _, none, []⟩, ρ⟩) hT s1 s2 s3 hrs h1
  obtain ⟨m1, m2, h5, h6⟩ := s2.keep (Nat.beq i)
  have s4 := (s1.perm (by simpa using h6)).drop
  rw [h3] at h5
  cases h5 with
  | cons hB ht =>
    cases ht
    exact ⟨s1.kn.defers, v, hv, v, g', _, ρ', rfl, rfl, s1.ext, h2 ▸ dv, hB, s4.own, fun b hb => (s4.new b hb).resolve_left (fun hx => by cases hx)⟩
 refine h g [] (bodyPost P fn (fun e w' => ∃ v g' r ρ', e = .returned v ∧ g'.w = w' ∧ oK [] g g' ∧ bC g' ρ' res v ∧ bQ g' ρ' i mb r ∧ Own [r] g' ∧ ∀ b ∈ bV [r], g.w.heap.size ≤ b)) ρ ⟨?_⟩ g _ ?_
 ·intro k L M' svs h1 h2 h3 g' a hst
  refine wpIn_ret ?_
  rw [dU]
  exact hpost a g' L M' svs h1 h2 h3 hst
 ·refine ⟨ρ, [], ⟨⟨by simp [hn, ha.1]; omega, rfl, fun i v hi => by simp [lk] at hi⟩, hfs, ⟨fun r hr => (by cases hr), List.nodup_nil, fun b hb => (by cases hb), fun b hb => (by cases hb)⟩, oK.refl _ g, fun b hb => (by cases hb)⟩, .nil, fun i _ => rfl, fun t sv ht => ?_⟩
  obtain ⟨j, rfl, hj⟩ := lK args 0 t sv ht
  obtain ⟨x, hx, dx⟩ := ha.get hj
  refine ⟨x, ?_, dx⟩
  have hlt : j < vs.length := by
   rcases Nat.lt_or_ge j vs.length with h | h
   ·exact h
   ·rw [List.getElem?_eq_none h] at hx; cases hx
  simp only [Nat.zero_add]
  rw [Array.getElem?_append_left (by simpa using hlt)]
  simpa using hx
section
variable {X : Kx} {k : List It} {L : SL} {M : SM} {fs : List MF} {own : List aH} {arr : Array Oper} {l : List Oper} {o : Oper} {tb : TT} {rs : List ResultVar}
theorem ern {res : SV} {svs : List SV} {i : Nat} {mb mb' : MB} {k' : List It} (n : Nat) (R : Rn X fs tb rs res i mb) (he : bB svs = res ∧ mb' = mb) (hk : cQ (aF L) 64 n k = .code .ret :: k' := by rfl) (hr : fV tb L M rs = some svs := by rfl) (hm : b9 (Nat.beq i) M = [(i, mb')] := by rfl) : E X k L M fs [] :=
 dK 64 n (hk ▸ R.ret hr he.1 (by rw [hm, he.2]))
theorem TK {res : SV} {svs : List SV} {i : Nat} {mb mb' : MB} {k' : List It} (n : Nat) (R : Rn X fs tb rs res i mb) (he : bB svs = res ∧ mb' = mb) (hk : cQ (aF L) 64 n k = .code .ret :: k' := by rfl) (hr : fV tb L M rs = some svs := by rfl) (hm : b9 (Nat.beq i) M = [(i, mb')] := by rfl) : ES X arr [] k L M fs [] := ern n R he hk hr hm
theorem TL (hT : tb.Ok X.P) (m : Nat) (H : List (List SV)) {d i : Nat} {f : FuncId} {fo : Operand} {az : Array Operand} {ts : Array TypeId} {svs args : List SV} {res : SV} {mb : MB} {l' L' M' φ} (hs : P4 X.P fs f args res i mb) (hk : ES X arr l' k L' M' fs own) (hg : o.guard = none := by rfl) (hd : o.dst = some d := by rfl) (ho : o.op = .call ⟨.value fo, az, ts⟩ := by rfl) (hfo : cO (aF L) fo = some (.f f [] []) := by rfl)
 (ha : evs (aF L) az.toList = some svs := by rfl) (hb : svs.map st1 = args := by rfl) (hc : svs.flatMap pB = [] := by rfl) (hn : Nat.blt d X.n = true := by rfl) (hoc : (cU i L || eM i M) = false := by rfl) (hlt : Nat.blt i 1000 = true := by rfl) (hcb : vM mb = true := by rfl) (hol : only i res = true := by rfl)
 (hr : iY tb X.n arr m H l ((d, res) :: L) ((i, mb) :: M) [] = some (l', L', M', φ) := by rfl) (hφ : aE φ := by first | trivial | omega | (simp +contextual [aE]; done) | (simp +contextual [aE, *]; done) | (simp +contextual [aE, *] <;> omega)) : ES X arr (o :: l) k L M fs own := by
 intro g a hE
 obtain ⟨ρ, ms, st⟩ := hE.open
 simp only [Bool.or_eq_false_iff] at hoc
 have hlt : i < 1000 := by simpa [Nat.blt_eq] using hlt
 have h2 : ∀ t sv, aF L t = some sv → ∃ x, a.tmps[t]? = some x ∧ bC g ρ sv x := (st.all (F2 X ρ L a) (.tail _ (.head _))).val
 have hw : Region.wanted o (yielded arr a.tmps) = true := aX (L := []) st.kn (cA hg)
 have hall : evs (aF L) (fo :: az.toList) = some (.f f [] [] :: svs) := by simp only [evs, hfo, ha]
 have hden := mD (aT h2 hall) (by simp only [List.flatMap_cons, hc, pB, List.append_nil]; intro p hp; cases hp)
 obtain ⟨x, rr, e1, dx, dr⟩ := hden.uncons
 simp only [List.map_cons, List.cons.injEq] at e1
 obtain ⟨rfl, rfl⟩ := e1
 obtain ⟨xs, ys, hfe, d1, d2⟩ := vK dx
 obtain rfl := d1.unnil
 obtain rfl := d2.unnil
 rw [hb] at dr
 obtain ⟨hcl, hcall⟩ := hs
 have hrun := sG hcl (ρe := a.eval) ho hfe g.w
 simp only [List.nil_append, List.append_nil] at hrun
 simp only [wl, hw, if_true, wn, hrun]
 refine (hcall ρ g _ (fun f hf => st.all f (.tail _ (.tail _ hf))) dr).mono ?_
 rintro e w' ⟨v, g', r, ρ', rfl, rfl, hE', dv, hB, hO, hN⟩
 have s' := st.frame (r := ms ++ own) (fsc := []) (ownc := []) (fs' := []) (own' := [r]) .nil hE' (fun f hf => (by cases hf)) hO (fun b hb => .inr (hN b hb)) .nil
 simp only [List.nil_append] at s'
 let ρ2 : Nat → Lc := fun j => if j = i then ρ' i else ρ j
 have e2 : ρ2 i = ρ' i := by simp [ρ2]
 have hM : aR g' ρ M ms := s'.all _ (.head _)
 have hS : Sl X ρ L a g' := s'.all _ (.tail _ (.head _))
 have s3 : St X.toCx [] (F1 ρ2 ((i, mb) :: M) (r :: ms) :: F2 X ρ2 L a :: fs) ((r :: ms) ++ own) g' a := ⟨s'.kn, dF.cons (.cons (hB.move hcb e2) (dH hM hoc.2)) (dF.cons ⟨fun j hj => by
  have : j ≠ i := by omega
  simp only [ρ2, if_neg this]; exact hS.pin j hj, fun t sv ht => by
  obtain ⟨x, hx, dx⟩ := hS.val t sv ht
  exact ⟨x, hx, dx.upd (c8 hoc.1 t sv ht)⟩⟩ (fun f hf => s'.all f (.tail _ (.tail _ hf)))), s'.own, s'.ext, s'.new⟩
 refine ⟨v, rfl, ?_⟩
 rw [hd]
 exact go hT m H hk hr hφ g' _ (cV.put s3 hn (dv.only hol ρ2 e2))
end
end Go.KX
namespace Go.KX
mutual
def uU : SV → SV
 | .l j o => .l (j + 1000) o
 | .o j n => .o (j + 1000) n
 | .e j o => .e (j + 1000) o
 | .mp j => .mp (j + 1000)
 | .fm es => .fm es
 | .ni => .ni
 | .a cs => .a (ML cs)
 | .f n x y => .f n (ML x) (ML y)
 | .t vs => .t (ML vs)
 | .g b x => .g b (uU x)
 | .v v => .v v
 | .str s => .str s
 | .s z r => .s z r
 | .p c => .p c
def ML : List SV → List SV
 | [] => []
 | x :: r => uU x :: ML r
end
theorem uV : ∀ (l : List SV), ML l = l.map uU
 | [] => rfl
 | x :: r => by rw [ML, uV r]; rfl
theorem iT (l : List SV) : (ML l).length = l.length := by rw [uV, List.length_map]
theorem qV {l : List SV} {j : Nat} {sv : SV} (h : l[j]? = some sv) : (ML l)[j]? = some (uU sv) := by rw [uV, List.getElem?_map, h]; rfl
theorem qW {l : List SV} {j : Nat} {sv : SV} (h : (ML l)[j]? = some sv) : ∃ sv0, l[j]? = some sv0 ∧ sv = uU sv0 := by
 rw [uV, List.getElem?_map] at h
 cases hl : l[j]? with
 | none => rw [hl] at h; cases h
 | some x => rw [hl] at h; cases h; exact ⟨x, rfl, rfl⟩
theorem bC.up {g : GW} {ρ ρ' : Nat → Lc} {sv x} (h : bC g ρ sv x) (e : ∀ i, ρ' (i + 1000) = ρ i) : bC g ρ' (uU sv) x := by
 induction h with
 | v => exact .v
 | str => exact .str
 | s xs h1 h2 hl hr ho hne hd _ => exact .s xs h1 h2 hl hr ho hne hd
 | p xs hl hf hc hd _ => exact .p xs hl hf hc hd
 | @l _ i off => rw [← e i]; exact .l
 | a xs hl _ ih => exact .a xs (by rw [iT]; exact hl) (fun j sv x h1 h2 => by obtain ⟨s0, h3, rfl⟩ := qW h1; exact ih j s0 x h3 h2 e)
 | f xs ys hl _ hl2 _ ih ih2 =>
   exact .f xs ys (by rw [iT]; exact hl) (fun j sv x h1 h2 => by obtain ⟨s0, h3, rfl⟩ := qW h1; exact ih j s0 x h3 h2 e) (by rw [iT]; exact hl2) (fun j sv x h1 h2 => by obtain ⟨s0, h3, rfl⟩ := qW h1; exact ih2 j s0 x h3 h2 e)
 | t xs hl _ ih => exact .t xs (by rw [iT]; exact hl) (fun j sv x h1 h2 => by obtain ⟨s0, h3, rfl⟩ := qW h1; exact ih j s0 x h3 h2 e)
 | gt _ ih => exact .gt (ih e)
 | gf => exact .gf
 | @o _ i n => rw [← e i]; exact .o
 | @e _ i off b o0 h' => exact .e (by rw [e i]; exact h')
 | fm raw ms clk hf hh he hk hd _ => exact .fm raw ms clk hf hh he hk hd
 | @mp _ i => rw [← e i]; exact .mp
 | ni => exact .ni
theorem bC.dn {g : GW} {ρ ρ' : Nat → Lc} {sv' x} (h : bC g ρ' sv' x) (e : ∀ i, ρ' (i + 1000) = ρ i) : ∀ sv, sv' = uU sv → bC g ρ sv x := by
 induction h with
 | v => intro sv h; cases sv <;> simp only [uU, reduceCtorEq, SV.v.injEq] at h; subst h; exact .v
 | str => intro sv h; cases sv <;> simp only [uU, reduceCtorEq, SV.str.injEq] at h; subst h; exact .str
 | s xs h1 h2 hl hr ho hne hd _ => intro sv h; cases sv <;> simp only [uU, reduceCtorEq, SV.s.injEq] at h; obtain ⟨rfl, rfl⟩ := h; exact .s xs h1 h2 hl hr ho hne hd
 | p xs hl hf hc hd _ => intro sv h; cases sv <;> simp only [uU, reduceCtorEq, SV.p.injEq] at h; subst h; exact .p xs hl hf hc hd
 | l => intro sv h; cases sv <;> simp only [uU, reduceCtorEq, SV.l.injEq] at h; obtain ⟨rfl, rfl⟩ := h; rw [e]; exact .l
 | a xs hl _ ih => intro sv h; cases sv <;> simp only [uU, reduceCtorEq, SV.a.injEq] at h; subst h; exact .a xs (by rw [← iT]; exact hl) (fun j sv x h1 h2 => ih j _ x (qV h1) h2 e sv rfl)
 | f xs ys hl _ hl2 _ ih ih2 =>
   intro sv h; cases sv <;> simp only [uU, reduceCtorEq, SV.f.injEq] at h; obtain ⟨rfl, rfl, rfl⟩ := h
   exact .f xs ys (by rw [← iT]; exact hl) (fun j sv x h1 h2 => ih j _ x (qV h1) h2 e sv rfl) (by rw [← iT]; exact hl2) (fun j sv x h1 h2 => ih2 j _ x (qV h1) h2 e sv rfl)
 | t xs hl _ ih => intro sv h; cases sv <;> simp only [uU, reduceCtorEq, SV.t.injEq] at h; subst h; exact .t xs (by rw [← iT]; exact hl) (fun j sv x h1 h2 => ih j _ x (qV h1) h2 e sv rfl)
 | gt _ ih => intro sv h; cases sv <;> simp only [uU, reduceCtorEq, SV.g.injEq] at h; obtain ⟨rfl, rfl⟩ := h; exact .gt (ih e _ rfl)
 | gf => intro sv h; cases sv <;> simp only [uU, reduceCtorEq, SV.g.injEq] at h; obtain ⟨rfl, rfl⟩ := h; exact .gf
 | o => intro sv h; cases sv <;> simp only [uU, reduceCtorEq, SV.o.injEq] at h; obtain ⟨rfl, rfl⟩ := h; rw [e]; exact .o
 | e h' => intro sv h; cases sv <;> simp only [uU, reduceCtorEq, SV.e.injEq] at h; obtain ⟨rfl, rfl⟩ := h; exact .e (by rw [← e]; exact h')
 | fm raw ms clk hf hh he hk hd _ => intro sv h; cases sv <;> simp only [uU, reduceCtorEq, SV.fm.injEq] at h; subst h; exact .fm raw ms clk hf hh he hk hd
 | mp => intro sv h; cases sv <;> simp only [uU, reduceCtorEq, SV.mp.injEq] at h; subst h; rw [e]; exact .mp
 | ni => intro sv h; cases sv <;> simp only [uU, reduceCtorEq] at h; exact .ni
theorem aI.up {g : GW} {ρ ρ' : Nat → Lc} {svs xs} (h : aI g ρ svs xs) (e : ∀ i, ρ' (i + 1000) = ρ i) : aI g ρ' (ML svs) xs :=
 ⟨by rw [iT]; exact h.1, fun j sv x h1 h2 => by obtain ⟨s0, h3, rfl⟩ := qW h1; exact (h.2 j s0 x h3 h2).up e⟩
theorem aI.dn {g : GW} {ρ ρ' : Nat → Lc} {svs xs} (h : aI g ρ' (ML svs) xs) (e : ∀ i, ρ' (i + 1000) = ρ i) : aI g ρ svs xs :=
 ⟨by rw [← iT]; exact h.1, fun j sv x h1 h2 => (h.2 j _ x (qV h1) h2).dn e sv rfl⟩
def upB : MB → MB
 | .c T cs => .c T (ML cs)
 | .r T z rs => .r T z rs
 | .m es => .m es
 | .it i es js => .it (i + 1000) es js
 | .q T z rs => .q T z rs
def P5 : SM → SM
 | [] => []
 | (i, m) :: r => (i + 1000, upB m) :: P5 r
theorem bQ.up {g : GW} {ρ ρ' : Nat → Lc} {i : Nat} {mb : MB} {r : aH} (h : bQ g ρ i mb r) (e : ∀ i, ρ' (i + 1000) = ρ i) : bQ g ρ' (i + 1000) (upB mb) r := by
 cases h with
 | c xs hd h1 => rw [← e i]; exact .c xs (hd.up e) h1
 | r hz xs hl hd => rw [← e i]; exact .r hz xs hl hd
 | q hz xs hl hd => rw [← e i]; exact .q hz xs hl hd
 | m raw hk hd => rw [← e i]; exact .m raw hk hd
 | it raw hk hd => rename_i i0 es js; rw [← e i, ← e i0]; exact .it raw hk hd
theorem bQ.dn {g : GW} {ρ ρ' : Nat → Lc} {i : Nat} {mb : MB} {r : aH} (h : bQ g ρ' (i + 1000) (upB mb) r) (e : ∀ i, ρ' (i + 1000) = ρ i) : bQ g ρ i mb r := by
 cases mb with
 | c T cs => cases h with | c xs hd h1 => rw [e i]; exact .c xs (hd.dn e) h1
 | r T z rs => cases h with | r hz xs hl hd => rw [e i]; exact .r hz xs hl hd
 | q T z rs => cases h with | q hz xs hl hd => rw [e i]; exact .q hz xs hl hd
 | m es => cases h with | m raw hk hd => rw [e i]; exact .m raw hk hd
 | it i0 es js => cases h with | it raw hk hd => rw [e i, e i0]; exact .it raw hk hd
theorem aR.up {g : GW} {ρ ρ' : Nat → Lc} (e : ∀ i, ρ' (i + 1000) = ρ i) : ∀ {M : SM} {ms : List aH}, aR g ρ M ms → aR g ρ' (P5 M) ms
 | [], _, .nil => .nil
 | (_, _) :: _, _, .cons hb t => .cons (hb.up e) (aR.up e t)
theorem aR.dn {g : GW} {ρ ρ' : Nat → Lc} (e : ∀ i, ρ' (i + 1000) = ρ i) : ∀ {M : SM} {ms : List aH}, aR g ρ' (P5 M) ms → aR g ρ M ms
 | [], _, h => by cases h; exact .nil
 | (_, _) :: _, _, h => by cases h with | cons hb t => exact .cons (hb.dn e) (aR.dn e t)
def W5 : SL → SL
 | [] => []
 | (t, v) :: r => (t, uU v) :: W5 r
theorem HU : ∀ {L : SL} {t : Nat} {sv : SV}, aF (W5 L) t = some sv → ∃ s0, aF L t = some s0 ∧ sv = uU s0
 | [], t, sv, h => by cases h
 | (u, v) :: r, t, sv, h => by
  by_cases htu : t = u
  ·subst htu
   simp only [W5] at h
   rw [bF] at h ⊢
   cases h
   exact ⟨v, rfl, rfl⟩
  ·simp only [W5] at h
   rw [bX _ _ htu] at h ⊢
   exact HU h
def MM : List Nat → List SV → SL → SL
 | p :: ps, v :: vs, L => MM ps vs ((p, v) :: L)
 | _, _, L => L
theorem BJ {g : GW} {ρ : Nat → Lc} : ∀ (ps : List Nat) {svs : List SV} {xs : List Value} {L : SL} {T : Array Value}, ps.all (fun p => Nat.blt p T.size) = true → aI g ρ svs xs → (∀ t sv, aF L t = some sv → ∃ x, T[t]? = some x ∧ bC g ρ sv x) →
 ((ps.zip xs).foldl (fun t p => t.setIfInBounds p.1 p.2) T).size = T.size ∧ ∀ t sv, aF (MM ps svs L) t = some sv → ∃ x, ((ps.zip xs).foldl (fun t p => t.setIfInBounds p.1 p.2) T)[t]? = some x ∧ bC g ρ sv x
 | [], svs, xs, L, T, _, _, hL => ⟨by simp, by simpa [MM] using hL⟩
 | p :: ps, [], xs, L, T, _, hd, hL => by
   rw [hd.unnil]
   exact ⟨by simp, by simpa [MM] using hL⟩
 | p :: ps, sv :: svs, xs, L, T, hp, hd, hL => by
   obtain ⟨x, ys, rfl, dx, dr⟩ := hd.uncons
   simp only [List.all_cons, Bool.and_eq_true, Nat.blt_eq] at hp
   have hs : (T.setIfInBounds p x).size = T.size := by simp
   obtain ⟨h1, h2⟩ := BJ ps (svs := svs) (xs := ys) (L := (p, sv) :: L) (T := T.setIfInBounds p x) (by rw [hs]; exact hp.2) dr (fun t sv' ht => by
    by_cases htp : t = p
    ·subst htp
     rw [bF] at ht
     cases ht
     exact ⟨x, by simp [hp.1], dx⟩
    ·rw [bX _ _ htp] at ht
     obtain ⟨y, hy, dy⟩ := hL t sv' ht
     exact ⟨y, by rw [Array.getElem?_setIfInBounds_ne (Ne.symm htp)]; exact hy, dy⟩)
   simp only [List.zip_cons_cons, List.foldl_cons]
   exact ⟨h1.trans hs, h2⟩
end Go.KX
namespace Go.KX
theorem lI.app : ∀ (ms r : List aH), lI (ms ++ r) ms r
 | [], _ => .nil
 | _ :: ms, r => .cons .head (lI.app ms r)
structure TM where
 J : Nat → GW → List aH → Prop
 Jx : GW → List aH → Prop
 mono : ∀ {j g g' ms}, FExt g g' → J j g ms → J j g' ms
 monox : ∀ {g g' ms}, FExt g g' → Jx g ms → Jx g' ms
def TM.f (R : TM) (j : Nat) (ms : List aH) : MF := ⟨fun g => R.J j g ms, R.mono⟩
def TM.fx (R : TM) (ms : List aH) : MF := ⟨fun g => R.Jx g ms, R.monox⟩
structure RP (g : GW) (ms : List aH) (A B : GW → List aH → Prop) (e : Ending) (w' : World) : Prop where
 ex : ∃ v g' ms', e = .returned v ∧ g'.w = w' ∧ oK (bV ms) g g' ∧ Own ms' g' ∧ (∀ b ∈ bV ms', b ∈ bV ms ∨ g.w.heap.size ≤ b) ∧ ((v = .bool true ∧ A g' ms') ∨ (v = .bool false ∧ B g' ms'))
def ET (P : Program) (l : Nat) (R : TM) (args : List (List SV)) : Prop := ∀ (j : Nat) a, args[j]? = some a → ∀ g ms ρ vs, R.J j g ms → Own ms g → aI g ρ a vs →
 ∃ fn tmps assign body, (Instr.yield l vs.toArray).run P g.w = .ok (.round l fn tmps assign body) g.w ∧ RoundIn Fence.wide 0 P l fn tmps assign body g.w (RP g ms (R.J (j + 1)) R.Jx)
def Itr (P : Program) (fs : List MF) (f : FuncId) (caps : List SV) (args : List (List SV)) : Prop := iV P f ∧ ∀ l (R : TM) ρ g vs ms, dF fs g → aI g ρ caps vs → ET P l R args → R.J 0 g ms → Own ms g →
 Calls P f (#[.func (.yield l) #[] #[]] ++ vs.toArray) g.w fun e w' => ∃ v g' ms', e = .returned v ∧ g'.w = w' ∧ oK (bV ms) g g' ∧ Own ms' g' ∧ (∀ b ∈ bV ms', b ∈ bV ms ∨ g.w.heap.size ≤ b) ∧ (R.J args.length g' ms' ∨ R.Jx g' ms')
structure RtI (X : Kx) (fs : List MF) (R : TM) (n : Nat) : Prop where
 ret : ∀ {k L M ms}, E X (.code .ret :: k) L M (R.f n ms :: fs) ms
 fall : ∀ {L M ms}, E X [] L M (R.f n ms :: fs) ms
 retx : ∀ {k L M ms}, E X (.code .ret :: k) L M (R.fx ms :: fs) ms
theorem aA4 {P : Program} {fs : List MF} {tb : TT} (hT : tb.Ok P) {f : FuncId} {fn : Func} {c : Code} {caps : List SV} {args : List (List SV)} (n : Nat) (hf : P.funcs[f]? = some fn) (hrs : fn.results = #[])
 (h : ∀ l R, ET P l R args → ∀ g0 B0 Q ρ0 ms0, RtI ⟨⟨P, n, g0, B0, Q, none, []⟩, ρ0⟩ fs R args.length → E ⟨⟨P, n, g0, B0, Q, none, []⟩, ρ0⟩ [.code c] (mT (.v (.func (.yield l) #[] #[]) :: caps) 0) [] (R.f 0 ms0 :: fs) ms0) (hb : fn.body = some c := by rfl) (hname : (fn.name == "runtime.NumGoroutine") = false := by kernel_rfl) (hn : fn.ntmps = n := by rfl) (hle : caps.length + 1 ≤ n := by exact Nat.le_of_ble_eq_true rfl) : Itr P fs f caps args := by
 refine ⟨⟨fn, hf, by simp [hb], hname⟩, fun l R ρ g vs ms hfs ha hR hJ hO => ?_⟩
 refine calls_of_wp hf hb (wpIn_wide (n := 0) |>.1 ?_)
 let Post : Ending → World → Prop := fun e w' => ∃ v g' ms', e = .returned v ∧ g'.w = w' ∧ oK (bV ms) g g' ∧ Own ms' g' ∧ (∀ b ∈ bV ms', b ∈ bV ms ∨ g.w.heap.size ≤ b) ∧ (R.J args.length g' ms' ∨ R.Jx g' ms')
 have hpost : ∀ (a : Act) (g' : GW) L M' ms' (F : MF), (F.p g' → R.J args.length g' ms' ∨ R.Jx g' ms') → cV ⟨⟨P, n, g, bV ms, bodyPost P fn Post, none, []⟩, ρ⟩ L M' (F :: fs) ms' g' a →
  a.defers = [] ∧ ∃ v, (results fn a.tmps).run P g'.w = .ok v g'.w ∧ Post (.returned v) g'.w := by
  intro a g' L M' ms' F hF hst
  obtain ⟨ρ', msl, s1, s2, s3⟩ := hst
  obtain ⟨v, hv, _⟩ := iG (X := ⟨⟨P, n, g, bV ms, bodyPost P fn Post, none, []⟩, ρ⟩) (rs := []) (svs := []) hT s1 s2 s3 hrs rfl
  have s4 := (s1.perm (List.perm_append_comm (l₁ := msl) (l₂ := ms'))).drop
  exact ⟨s1.kn.defers, v, hv, v, g', ms', rfl, rfl, s1.ext, s4.own, s4.new, hF (s1.all F (.head _))⟩
 refine h l R hR g (bV ms) (bodyPost P fn Post) ρ ms ⟨?_, ?_, ?_⟩ g _ ?_
 ·intro k L M' ms' g' a hst
  refine wpIn_ret ?_
  rw [dU]
  exact hpost a g' L M' ms' _ .inl hst
 ·intro L M' ms' g' a hst
  exact hpost a g' L M' ms' _ .inl hst
 ·intro k L M' ms' g' a hst
  refine wpIn_ret ?_
  rw [dU]
  exact hpost a g' L M' ms' _ .inr hst
 ·have hd : aI g ρ (.v (.func (.yield l) #[] #[]) :: caps) (.func (.yield l) #[] #[] :: vs) := aI.cons .v ha
  refine ⟨ρ, [], ⟨⟨by simp [hn, ha.1]; omega, rfl, fun i v hi => by simp [lk] at hi⟩, dF.cons hJ hfs, by simpa using hO, oK.refl _ g, fun b hb => .inl (by simpa using hb)⟩, .nil, fun i _ => rfl, fun t sv ht => ?_⟩
  obtain ⟨j, rfl, hj⟩ := lK _ 0 t sv ht
  obtain ⟨x, hx, dx⟩ := hd.get hj
  refine ⟨x, ?_, dx⟩
  have hlt : j < (Value.func (.yield l) #[] #[] :: vs).length := by
   rcases Nat.lt_or_ge j (Value.func (.yield l) #[] #[] :: vs).length with h | h
   ·exact h
   ·rw [List.getElem?_eq_none h] at hx; cases hx
  simp only [Nat.zero_add]
  rw [Array.getElem?_append_left (by simp at hlt ⊢; omega)]
  have e : (#[Value.func (.yield l) #[] #[]] ++ vs.toArray) = (Value.func (.yield l) #[] #[] :: vs).toArray := by simp
  rw [e]
  simpa using hx
section
variable {X : Kx} {k : List It} {L : SL} {M : SM} {fs : List MF} {own : List aH} {arr : Array Oper} {l : List Oper} {o : Oper}
theorem JL {σ : Type} (I : σ → Prop) (μ : σ → Nat) (Ls : σ → SL) (Fs : σ → List MF) (Os : σ → List aH) {body : Code} (s0 : σ) (h0 : I s0)
 (round : ∀ (J : Act → World → Prop) s, I s → (∀ s' {L' M'}, I s' → μ s' < μ s → (_ : A1 L' (Ls s') := by (repeat (first | exact trivial | refine ⟨rfl, ?_⟩ | refine ⟨vO (by omega), ?_⟩ | refine ⟨vO (by simp; done), ?_⟩ | refine ⟨vO (by simp <;> omega), ?_⟩))) → E X (.lp J :: k) L' M' (Fs s') (Os s')) → E X (.code body :: .lp J :: k) (Ls s) [] (Fs s) (Os s))
 (hL : A1 L (Ls s0) := by (repeat (first | exact trivial | refine ⟨rfl, ?_⟩ | refine ⟨vO (by omega), ?_⟩ | refine ⟨vO (by simp; done), ?_⟩ | refine ⟨vO (by simp <;> omega), ?_⟩))) : E X (.code (.loop body) :: k) L M (Fs s0) (Os s0) := by
 intro g a hs
 have none_ : ∀ M : SM, b9 (fun _ => false) M = [] := by
  intro M
  induction M with
  | nil => rfl
  | cons p M ih => obtain ⟨i, m⟩ := p; simp [b9, ih]
 exact tO (fun s a w => I s ∧ ∃ g', cV X (Ls s) [] (Fs s) (Os s) g' a ∧ g'.w = w) μ (fun s a w ⟨hI, g', hst, hw⟩ => by
  subst hw
  exact round (fun a' w' => ∃ s', (I s' ∧ ∃ g', cV X (Ls s') [] (Fs s') (Os s') g' a' ∧ g'.w = w') ∧ μ s' < μ s) s hI
   (fun s' {L' M'} h1 h2 h3 g2 a' hst' => ⟨s', ⟨h1, g2, hst'.weak h3 _ (none_ _), rfl⟩, h2⟩) g' a hst) s0 a g.w
  ⟨h0, g, hs.weak hL _ (none_ _), rfl⟩
theorem yw {R : TM} {lp j d : Nat} {ms : List aH} {args : List (List SV)} {av : List SV} {fo : Operand} {az : Array Operand} {ts : Array TypeId} {svs : List SV} (hR : ET X.P lp R args) (hj : args[j]? = some av)
 (ht : ∀ ms', ES X arr l k ((d, .v (.bool true)) :: L) M (R.f (j + 1) ms' :: fs) ms') (hf : ∀ ms', ES X arr l k ((d, .v (.bool false)) :: L) M (R.fx ms' :: fs) ms') (hg : o.guard = none := by rfl) (hd : o.dst = some d := by rfl) (ho : o.op = .call ⟨.value fo, az, ts⟩ := by rfl) (hfo : cO (aF L) fo = some (.v (.func (.yield lp) #[] #[])) := by rfl)
 (ha : evs (aF L) az.toList = some svs := by rfl) (hb : svs.map st1 = av := by rfl) (hc : svs.flatMap pB = [] := by rfl) (hn : Nat.blt d X.n = true := by rfl) : ES X arr (o :: l) k L M (R.f j ms :: fs) ms := by
 intro g a hE
 obtain ⟨ρ, msl, st⟩ := hE.open
 have hSl : Sl X ρ L a g := st.all _ (.tail _ (.head _))
 have hw : Region.wanted o (yielded arr a.tmps) = true := aX (L := []) st.kn (cA hg)
 have hfe : a.eval fo = .func (.yield lp) #[] #[] := by
  have := dJ hSl.val hfo
  generalize a.eval fo = x at this
  cases this; rfl
 have hden := mD (aT hSl.val ha) (by simp only [hc]; intro p hp; cases hp)
 rw [hb] at hden
 have st2 := st.perm (List.perm_append_comm (l₁ := msl) (l₂ := ms))
 have hJ : R.J j g ms := st2.all (R.f j ms) (.tail _ (.tail _ (.head _)))
 obtain ⟨fn, tmps, assign, body, hy, hr⟩ := hR j av hj g ms ρ _ hJ st2.own.left hden
 have hrun : (execOp a.eval o).run X.P g.w = .ok (.round lp fn tmps assign body) g.w := by
  have e : (az.toList.map a.eval).toArray = az.map a.eval := Array.ext' (by simp)
  rw [e] at hy
  simp only [execOp, ho, resolve, hfe]
  simpa [invoke, go_sem] using hy
 simp only [wl, hw, if_true, wn, hrun]
 refine RoundIn.mono hr ?_
 rintro e w' ⟨v, g', ms', rfl, rfl, hE', hO', hN', hv⟩
 refine ⟨v, rfl, ?_⟩
 rw [hd]
 have s' := st2.frame (fsc := []) (fs' := []) (lI.app ms msl) hE' (fun f hf => (by cases hf)) hO' hN' .nil
 have s3 := s'.perm (List.perm_append_comm (l₁ := ms') (l₂ := msl))
 simp only [List.nil_append] at s3
 rcases hv with ⟨rfl, hA⟩ | ⟨rfl, hB⟩
 ·have s4 : St X.toCx [] (F1 ρ M msl :: F2 X ρ L a :: R.f (j + 1) ms' :: fs) (msl ++ ms') g' a := ⟨s3.kn, dF.cons (s3.all _ (.head _)) (dF.cons (s3.all _ (.tail _ (.head _))) (dF.cons hA (fun f hf => s3.all f (.tail _ (.tail _ (.tail _ hf)))))), s3.own, s3.ext, s3.new⟩
  exact ht ms' g' _ (cV.put s4 hn .v)
 ·have s4 : St X.toCx [] (F1 ρ M msl :: F2 X ρ L a :: R.fx ms' :: fs) (msl ++ ms') g' a := ⟨s3.kn, dF.cons (s3.all _ (.head _)) (dF.cons (s3.all _ (.tail _ (.head _))) (dF.cons hB (fun f hf => s3.all f (.tail _ (.tail _ (.tail _ hf)))))), s3.own, s3.ext, s3.new⟩
  exact hf ms' g' _ (cV.put s4 hn .v)
end
end Go.KX
