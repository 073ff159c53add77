/- SH GT XV GS YD YE YF YG XW YH. -/
import Derived.Test.YtomkgfdigldhcaaGreatDoorLEE
import Derived.Shelf.Strings.Trim
import Derived.Shelf.Small.Bits
import Derived.Shelf.Small.Strs
import Derived.Shelf.Small.Wraps
import Derived.Shelf.Strconv.Itoa3
import Derived.Shelf.Strconv.Itoa4
import Derived.Shelf.Strings.Cut
import Derived.Shelf.Sort.Plain
import Derived.Shelf.Strings.Prefix
import Derived.Shelf.Strings.Runes
import Derived.Shelf.Bits.Mul64
import Derived.Shelf.Strings.Repeat
import Derived.Shelf.Slices.Turned
import Derived.Shelf.Slices.CompactS
import Derived.Shelf.Slices.In.SortNone
import Derived.Test.YtomkgfdigldhcaaGreatDoorProg
import Derived.Shelf.Pu.Lays
import Derived.Sort.OwnSorted
namespace Go.Proofs
open Go.Shelf
def Tryz.lays162_ren : Go.Shelf.Ren := ⟨fun | 162 => 119 | 232 => 172 | 227 => 173 | 234 => 174 | 236 => 175 | 228 => 263 | 271 => 264 | 151 => 265 | 120 => 306 | 197 => 307 | 152 => 308 | 260 => 323 | 137 => 170 | 119 => 324 | 224 => 325 | 225 => 326 | 217 => 258 | 266 => 301 | n => n, fun | 9 => 9 | 4 => 4 | 3 => 3 | 5 => 5 | 117 => 218 | 116 => 217 | 0 => 0 | 124 => 221 | 21 => 21 | 105 => 269 | 46 => 172 | 119 => 331 | 139 => 334 | 138 => 333 | n => n, fun | 3 => 8 | 4 => 9 | n => n⟩
theorem Tryz.lays162 : Go.Proofs.Lays.n162 Tryz.prog Tryz.lays162_ren := {
  mixed := by kernel_rfl
  f119 := Tryz.func324.trans (congrArg some (by kernel_rfl))
  f120 := Tryz.func306.trans (congrArg some (by kernel_rfl))
  f137 := Tryz.func170.trans (congrArg some (by kernel_rfl))
  f151 := Tryz.func265.trans (congrArg some (by kernel_rfl))
  f152 := Tryz.func308.trans (congrArg some (by kernel_rfl))
  f162 := Tryz.func119.trans (congrArg some (by kernel_rfl))
  f197 := Tryz.func307.trans (congrArg some (by kernel_rfl))
  f217 := Tryz.func258.trans (congrArg some (by kernel_rfl))
  f224 := Tryz.func325.trans (congrArg some (by kernel_rfl))
  f225 := Tryz.func326.trans (congrArg some (by kernel_rfl))
  f227 := Tryz.func173.trans (congrArg some (by kernel_rfl))
  f228 := Tryz.func263.trans (congrArg some (by kernel_rfl))
  f232 := Tryz.func172.trans (congrArg some (by kernel_rfl))
  f234 := Tryz.func174.trans (congrArg some (by kernel_rfl))
  f236 := Tryz.func175.trans (congrArg some (by kernel_rfl))
  f260 := Tryz.func323.trans (congrArg some (by kernel_rfl))
  f266 := Tryz.func301.trans (congrArg some (by kernel_rfl))
  f271 := Tryz.func264.trans (congrArg some (by kernel_rfl))
  t0 := Tryz.underlying0
  a0 := Tryz.isAgg0
  z0 := Tryz.sizeOf0
  v0 := Tryz.zeroValue0
  t3 := Tryz.underlying3
  a3 := Tryz.isAgg3
  z3 := Tryz.sizeOf3
  v3 := Tryz.zeroValue3
  t4 := Tryz.underlying4
  a4 := Tryz.isAgg4
  z4 := Tryz.sizeOf4
  v4 := Tryz.zeroValue4
  t5 := Tryz.underlying5
  a5 := Tryz.isAgg5
  z5 := Tryz.sizeOf5
  v5 := Tryz.zeroValue5
  t9 := Tryz.underlying9
  a9 := Tryz.isAgg9
  z9 := Tryz.sizeOf9
  v9 := Tryz.zeroValue9
  t21 := Tryz.underlying21
  a21 := Tryz.isAgg21
  z21 := Tryz.sizeOf21
  v21 := Tryz.zeroValue21
  t46 := Tryz.underlying172
  a46 := Tryz.isAgg172
  z46 := Tryz.sizeOf172
  v46 := Tryz.zeroValue172
  t105 := Tryz.underlying269
  a105 := Tryz.isAgg269
  z105 := Tryz.sizeOf269
  v105 := Tryz.zeroValue269
  t116 := Tryz.underlying217
  a116 := Tryz.isAgg217
  z116 := Tryz.sizeOf217
  t117 := Tryz.underlying218
  a117 := Tryz.isAgg218
  z117 := Tryz.sizeOf218
  v117 := Tryz.zeroValue218
  t119 := Tryz.underlying331
  a119 := Tryz.isAgg331
  z119 := Tryz.sizeOf331
  t124 := Tryz.underlying221
  a124 := Tryz.isAgg221
  z124 := Tryz.sizeOf221
  v124 := Tryz.zeroValue221
  t138 := Tryz.underlying333
  a138 := Tryz.isAgg333
  z138 := Tryz.sizeOf333
  v138 := Tryz.zeroValue333
  t139 := Tryz.underlying334
  a139 := Tryz.isAgg334
  z139 := Tryz.sizeOf334
  v139 := Tryz.zeroValue334
  g3 := by kernel_rfl
  g4 := by kernel_rfl }
open Go.RowKit in
theorem Tryz.strings_TrimRight_one (s : ByteArray) (c : UInt8) (hc : c.toNat < 128) (w : World) (hs : s.size ≤ 9223372036854775807) :
    Calls Tryz.prog 119 #[.string s, .string ⟨#[c]⟩] w fun e w' => e = .returned (.string ⟨(Lib.trimRightB s.data.toList c).toArray⟩) ∧ w' = w := Any.strings_TrimRight_one Tryz.lays162 s c hc w hs
open Go.RowKit in
def Tryz.lays137_ren : Go.Shelf.Ren := ⟨fun | 137 => 170 | 217 => 258 | 266 => 301 | n => n, fun | 9 => 9 | 5 => 5 | 3 => 3 | n => n, fun | n => n⟩
theorem Tryz.lays137 : Go.Proofs.Lays.n137 Tryz.prog Tryz.lays137_ren := {
  mixed := by kernel_rfl
  f137 := Tryz.func170.trans (congrArg some (by kernel_rfl))
  f217 := Tryz.func258.trans (congrArg some (by kernel_rfl))
  f266 := Tryz.func301.trans (congrArg some (by kernel_rfl))
  t3 := Tryz.underlying3
  a3 := Tryz.isAgg3
  z3 := Tryz.sizeOf3
  v3 := Tryz.zeroValue3
  t5 := Tryz.underlying5
  a5 := Tryz.isAgg5
  z5 := Tryz.sizeOf5
  v5 := Tryz.zeroValue5
  t9 := Tryz.underlying9
  a9 := Tryz.isAgg9
  z9 := Tryz.sizeOf9
  v9 := Tryz.zeroValue9 }
open Go.RowKit in
theorem Tryz.strings_IndexByte (s : ByteArray) (c : Int) (w : World) :
    Calls Tryz.prog 170 #[.string s, .int .u8 c] w fun e w' => e = .returned (.int .i64 (Lib.indexByte s.data.toList c.toNat.toUInt8)) ∧ w' = w := Any.strings_IndexByte Tryz.lays137 s c w
def Tryz.lays103_ren : Go.Shelf.Ren := ⟨fun | 103 => 332 | 210 => 343 | 206 => 300 | n => n, fun | 9 => 9 | 4 => 4 | 24 => 210 | 3 => 3 | n => n, fun | n => n⟩
theorem Tryz.lays103 : Go.Proofs.Lays.n103 Tryz.prog Tryz.lays103_ren := {
  mixed := by kernel_rfl
  f103 := Tryz.func332.trans (congrArg some (by kernel_rfl))
  f206 := Tryz.func300.trans (congrArg some (by kernel_rfl))
  f210 := Tryz.func343.trans (congrArg some (by kernel_rfl))
  t3 := Tryz.underlying3
  a3 := Tryz.isAgg3
  z3 := Tryz.sizeOf3
  v3 := Tryz.zeroValue3
  t4 := Tryz.underlying4
  a4 := Tryz.isAgg4
  z4 := Tryz.sizeOf4
  v4 := Tryz.zeroValue4
  t9 := Tryz.underlying9
  a9 := Tryz.isAgg9
  z9 := Tryz.sizeOf9
  v9 := Tryz.zeroValue9
  t24 := Tryz.underlying210
  a24 := Tryz.isAgg210
  z24 := Tryz.sizeOf210
  v24 := Tryz.zeroValue210 }
open Go.RowKit in
theorem Tryz.strings_CutPrefix (s p : ByteArray) (w : World) :
    Calls Tryz.prog 332 #[.string s, .string p] w fun e w' => e = .returned (.tuple #[.string ⟨(Lib.trimPrefix s.data.toList p.data.toList).toArray⟩, .bool (Lib.hasPrefix s.data.toList p.data.toList)]) ∧ w' = w := Any.strings_CutPrefix Tryz.lays103 s p w
open Go.RowKit Go.Sort Go.Lib in
def Tryz.laysM173_ren : Go.Shelf.Ren := ⟨fun | 173 => 118 | 246 => 171 | 283 => 259 | 284 => 260 | 285 => 261 | 286 => 262 | 129 => 186 | 317 => 302 | 318 => 303 | 319 => 304 | 320 => 305 | 337 => 321 | 338 => 322 | n => n, fun | 2 => 2 | 3 => 3 | 9 => 9 | 4 => 4 | 171 => 264 | 0 => 0 | 53 => 234 | 37 => 266 | 5 => 5 | 173 => 267 | 212 => 304 | 51 => 232 | 20 => 20 | 213 => 305 | 46 => 172 | 232 => 329 | 233 => 330 | n => n, fun | 17 => 3 | 18 => 6 | 19 => 7 | n => n⟩
theorem Tryz.laysM173 : Go.Proofs.LaysM.n173 Tryz.prog Tryz.laysM173_ren := {
  mixed := by kernel_rfl
  f129 := Tryz.func186.trans (congrArg some (by kernel_rfl))
  f173 := Tryz.func118.trans (congrArg some (by kernel_rfl))
  f246 := Tryz.func171.trans (congrArg some (by kernel_rfl))
  f283 := Tryz.func259.trans (congrArg some (by kernel_rfl))
  f284 := Tryz.func260.trans (congrArg some (by kernel_rfl))
  f285 := Tryz.func261.trans (congrArg some (by kernel_rfl))
  f286 := Tryz.func262.trans (congrArg some (by kernel_rfl))
  f317 := Tryz.func302.trans (congrArg some (by kernel_rfl))
  f318 := Tryz.func303.trans (congrArg some (by kernel_rfl))
  f319 := Tryz.func304.trans (congrArg some (by kernel_rfl))
  f320 := Tryz.func305.trans (congrArg some (by kernel_rfl))
  f337 := Tryz.func321.trans (congrArg some (by kernel_rfl))
  f338 := Tryz.func322.trans (congrArg some (by kernel_rfl))
  t0 := Tryz.underlying0
  a0 := Tryz.isAgg0
  z0 := Tryz.sizeOf0
  v0 := Tryz.zeroValue0
  t2 := Tryz.underlying2
  a2 := Tryz.isAgg2
  z2 := Tryz.sizeOf2
  v2 := Tryz.zeroValue2
  t3 := Tryz.underlying3
  a3 := Tryz.isAgg3
  z3 := Tryz.sizeOf3
  v3 := Tryz.zeroValue3
  t4 := Tryz.underlying4
  a4 := Tryz.isAgg4
  z4 := Tryz.sizeOf4
  v4 := Tryz.zeroValue4
  t5 := Tryz.underlying5
  a5 := Tryz.isAgg5
  z5 := Tryz.sizeOf5
  v5 := Tryz.zeroValue5
  t9 := Tryz.underlying9
  a9 := Tryz.isAgg9
  z9 := Tryz.sizeOf9
  v9 := Tryz.zeroValue9
  t20 := Tryz.underlying20
  a20 := Tryz.isAgg20
  z20 := Tryz.sizeOf20
  v20 := Tryz.zeroValue20
  t37 := Tryz.underlying266
  a37 := Tryz.isAgg266
  z37 := Tryz.sizeOf266
  v37 := Tryz.zeroValue266
  t46 := Tryz.underlying172
  a46 := Tryz.isAgg172
  z46 := Tryz.sizeOf172
  v46 := Tryz.zeroValue172
  t51 := Tryz.underlying232
  a51 := Tryz.isAgg232
  z51 := Tryz.sizeOf232
  v51 := Tryz.zeroValue232
  t53 := Tryz.underlying234
  a53 := Tryz.isAgg234
  z53 := Tryz.sizeOf234
  v53 := Tryz.zeroValue234
  t171 := Tryz.underlying264
  a171 := Tryz.isAgg264
  z171 := Tryz.sizeOf264
  v171 := Tryz.zeroValue264
  t173 := Tryz.underlying267
  a173 := Tryz.isAgg267
  z173 := Tryz.sizeOf267
  v173 := Tryz.zeroValue267
  t212 := Tryz.underlying304
  a212 := Tryz.isAgg304
  z212 := Tryz.sizeOf304
  v212 := Tryz.zeroValue304
  t213 := Tryz.underlying305
  a213 := Tryz.isAgg305
  z213 := Tryz.sizeOf305
  t232 := Tryz.underlying329
  a232 := Tryz.isAgg329
  z232 := Tryz.sizeOf329
  v232 := Tryz.zeroValue329
  t233 := Tryz.underlying330
  a233 := Tryz.isAgg330
  z233 := Tryz.sizeOf330
  v233 := Tryz.zeroValue330
  g17 := by kernel_rfl
  g18 := by kernel_rfl
  g19 := by kernel_rfl
  i0 := by kernel_rfl
  i2 := by kernel_rfl
  i3 := by kernel_rfl
  i4 := by kernel_rfl
  i5 := by kernel_rfl
  i9 := by kernel_rfl
  i20 := by kernel_rfl
  i37 := by kernel_rfl
  i46 := by kernel_rfl
  i51 := by kernel_rfl
  i53 := by kernel_rfl
  i171 := by kernel_rfl
  i173 := by kernel_rfl
  i212 := by kernel_rfl
  i232 := by kernel_rfl
  i233 := by kernel_rfl
  m17 := by kernel_rfl
  m18 := by kernel_rfl
  m19 := by kernel_rfl }
open Go.RowKit Go.Sort Go.Lib in
theorem Tryz.strconv_FormatInt_10 (n : Int) (h0 : -9223372036854775808 ≤ n) (h1 : n ≤ 9223372036854775807) (w : World) (htab : Lib.TabIs Tryz.prog w "internal/strconv.uint64pow10" .u64 Lib.pow10Tab) :
    Calls Tryz.prog 118 #[.int .i64 n, .int .i64 10] w fun e w' => e = .returned (.string ⟨(Lib.itoa n).toArray⟩) ∧ ∃ k os, w' = grow (w.drewN k) os := Any.strconv_FormatInt_10 Tryz.laysM173 n h0 h1 w htab
def Tryz.laysPu14_ren : Go.Shelf.Ren := ⟨fun | 14 => 334 | 16 => 345 | 17 => 346 | 19 => 353 | 20 => 354 | 21 => 355 | 22 => 356 | 23 => 357 | 24 => 358 | 25 => 363 | 27 => 365 | 26 => 364 | 28 => 369 | 29 => 171 | 30 => 259 | 31 => 260 | 32 => 261 | 33 => 262 | 35 => 186 | 34 => 302 | 36 => 303 | 37 => 304 | 38 => 305 | 39 => 321 | 40 => 322 | n => n, fun | 9 => 9 | 3 => 3 | 22 => 234 | 24 => 318 | 25 => 326 | 4 => 4 | 34 => 345 | 5 => 5 | 36 => 172 | 37 => 266 | 0 => 0 | 39 => 347 | 21 => 21 | 44 => 353 | 47 => 350 | 50 => 361 | 48 => 359 | 2 => 2 | 52 => 264 | 55 => 267 | 59 => 304 | 60 => 232 | 20 => 20 | 61 => 305 | 65 => 329 | 66 => 330 | 67 => 118 | n => n, fun | 0 => 10 | 1 => 11 | 2 => 3 | 3 => 6 | 4 => 7 | n => n⟩
theorem Tryz.laysPu14 : Go.Proofs.LaysPu.n14 Tryz.prog Tryz.laysPu14_ren := {
  mixed := by kernel_rfl
  f14 := Tryz.func334.trans (congrArg some (by kernel_rfl))
  f16 := Tryz.func345.trans (congrArg some (by kernel_rfl))
  f17 := Tryz.func346.trans (congrArg some (by kernel_rfl))
  f19 := Tryz.func353.trans (congrArg some (by kernel_rfl))
  f20 := Tryz.func354.trans (congrArg some (by kernel_rfl))
  f21 := Tryz.func355.trans (congrArg some (by kernel_rfl))
  f22 := Tryz.func356.trans (congrArg some (by kernel_rfl))
  f23 := Tryz.func357.trans (congrArg some (by kernel_rfl))
  f24 := Tryz.func358.trans (congrArg some (by kernel_rfl))
  f25 := Tryz.func363.trans (congrArg some (by kernel_rfl))
  f26 := Tryz.func364.trans (congrArg some (by kernel_rfl))
  f27 := Tryz.func365.trans (congrArg some (by kernel_rfl))
  f28 := Tryz.func369.trans (congrArg some (by kernel_rfl))
  f29 := Tryz.func171.trans (congrArg some (by kernel_rfl))
  f30 := Tryz.func259.trans (congrArg some (by kernel_rfl))
  f31 := Tryz.func260.trans (congrArg some (by kernel_rfl))
  f32 := Tryz.func261.trans (congrArg some (by kernel_rfl))
  f33 := Tryz.func262.trans (congrArg some (by kernel_rfl))
  f34 := Tryz.func302.trans (congrArg some (by kernel_rfl))
  f35 := Tryz.func186.trans (congrArg some (by kernel_rfl))
  f36 := Tryz.func303.trans (congrArg some (by kernel_rfl))
  f37 := Tryz.func304.trans (congrArg some (by kernel_rfl))
  f38 := Tryz.func305.trans (congrArg some (by kernel_rfl))
  f39 := Tryz.func321.trans (congrArg some (by kernel_rfl))
  f40 := Tryz.func322.trans (congrArg some (by kernel_rfl))
  t0 := Tryz.underlying0
  a0 := Tryz.isAgg0
  z0 := Tryz.sizeOf0
  v0 := Tryz.zeroValue0
  i0 := by kernel_rfl
  t2 := Tryz.underlying2
  a2 := Tryz.isAgg2
  z2 := Tryz.sizeOf2
  v2 := Tryz.zeroValue2
  i2 := by kernel_rfl
  t3 := Tryz.underlying3
  a3 := Tryz.isAgg3
  z3 := Tryz.sizeOf3
  v3 := Tryz.zeroValue3
  i3 := by kernel_rfl
  t4 := Tryz.underlying4
  a4 := Tryz.isAgg4
  z4 := Tryz.sizeOf4
  v4 := Tryz.zeroValue4
  i4 := by kernel_rfl
  t5 := Tryz.underlying5
  a5 := Tryz.isAgg5
  z5 := Tryz.sizeOf5
  v5 := Tryz.zeroValue5
  i5 := by kernel_rfl
  t9 := Tryz.underlying9
  a9 := Tryz.isAgg9
  z9 := Tryz.sizeOf9
  v9 := Tryz.zeroValue9
  i9 := by kernel_rfl
  t20 := Tryz.underlying20
  a20 := Tryz.isAgg20
  z20 := Tryz.sizeOf20
  v20 := Tryz.zeroValue20
  i20 := by kernel_rfl
  t21 := Tryz.underlying21
  a21 := Tryz.isAgg21
  z21 := Tryz.sizeOf21
  v21 := Tryz.zeroValue21
  i21 := by kernel_rfl
  t22 := Tryz.underlying234
  a22 := Tryz.isAgg234
  z22 := Tryz.sizeOf234
  v22 := Tryz.zeroValue234
  i22 := by kernel_rfl
  t24 := Tryz.underlying318
  a24 := Tryz.isAgg318
  z24 := Tryz.sizeOf318
  v24 := Tryz.zeroValue318
  i24 := by kernel_rfl
  t25 := Tryz.underlying326
  a25 := Tryz.isAgg326
  z25 := Tryz.sizeOf326
  v25 := Tryz.zeroValue326
  i25 := by kernel_rfl
  t34 := Tryz.underlying345
  a34 := Tryz.isAgg345
  z34 := Tryz.sizeOf345
  v34 := Tryz.zeroValue345
  i34 := by kernel_rfl
  c34 := by kernel_rfl
  t36 := Tryz.underlying172
  a36 := Tryz.isAgg172
  z36 := Tryz.sizeOf172
  v36 := Tryz.zeroValue172
  i36 := by kernel_rfl
  t37 := Tryz.underlying266
  a37 := Tryz.isAgg266
  z37 := Tryz.sizeOf266
  v37 := Tryz.zeroValue266
  i37 := by kernel_rfl
  t39 := Tryz.underlying347
  a39 := Tryz.isAgg347
  z39 := Tryz.sizeOf347
  v39 := Tryz.zeroValue347
  i39 := by kernel_rfl
  t44 := Tryz.underlying353
  a44 := Tryz.isAgg353
  z44 := Tryz.sizeOf353
  v44 := Tryz.zeroValue353
  i44 := by kernel_rfl
  t47 := Tryz.underlying350
  a47 := Tryz.isAgg350
  z47 := Tryz.sizeOf350
  v47 := Tryz.zeroValue350
  i47 := by kernel_rfl
  t48 := Tryz.underlying359
  a48 := Tryz.isAgg359
  z48 := Tryz.sizeOf359
  v48 := Tryz.zeroValue359
  i48 := by kernel_rfl
  t50 := Tryz.underlying361
  a50 := Tryz.isAgg361
  z50 := Tryz.sizeOf361
  v50 := Tryz.zeroValue361
  i50 := by kernel_rfl
  t52 := Tryz.underlying264
  a52 := Tryz.isAgg264
  z52 := Tryz.sizeOf264
  v52 := Tryz.zeroValue264
  i52 := by kernel_rfl
  t55 := Tryz.underlying267
  a55 := Tryz.isAgg267
  z55 := Tryz.sizeOf267
  v55 := Tryz.zeroValue267
  i55 := by kernel_rfl
  t59 := Tryz.underlying304
  a59 := Tryz.isAgg304
  z59 := Tryz.sizeOf304
  v59 := Tryz.zeroValue304
  i59 := by kernel_rfl
  t60 := Tryz.underlying232
  a60 := Tryz.isAgg232
  z60 := Tryz.sizeOf232
  v60 := Tryz.zeroValue232
  i60 := by kernel_rfl
  t61 := Tryz.underlying305
  a61 := Tryz.isAgg305
  z61 := Tryz.sizeOf305
  t65 := Tryz.underlying329
  a65 := Tryz.isAgg329
  z65 := Tryz.sizeOf329
  v65 := Tryz.zeroValue329
  i65 := by kernel_rfl
  t66 := Tryz.underlying330
  a66 := Tryz.isAgg330
  z66 := Tryz.sizeOf330
  v66 := Tryz.zeroValue330
  i66 := by kernel_rfl
  t67 := Tryz.underlying118
  a67 := Tryz.isAgg118
  z67 := Tryz.sizeOf118
  v67 := Tryz.zeroValue118
  i67 := by kernel_rfl
  g0 := by kernel_rfl
  m0 := by kernel_rfl
  g1 := by kernel_rfl
  m1 := by kernel_rfl
  g2 := by kernel_rfl
  m2 := by kernel_rfl
  g3 := by kernel_rfl
  m3 := by kernel_rfl
  g4 := by kernel_rfl
  m4 := by kernel_rfl }
def Tryz.lays145_ren : Go.Shelf.Ren := ⟨fun | 145 => 333 | 220 => 344 | 219 => 352 | 217 => 258 | 225 => 326 | 224 => 325 | 267 => 362 | 266 => 301 | 314 => 368 | n => n, fun | 9 => 9 | 4 => 4 | 59 => 324 | 3 => 3 | 5 => 5 | 46 => 172 | 146 => 292 | 51 => 232 | n => n, fun | 1 => 2 | n => n⟩
theorem Tryz.lays145 : Go.Proofs.Lays.n145 Tryz.prog Tryz.lays145_ren := {
  mixed := by kernel_rfl
  f145 := Tryz.func333.trans (congrArg some (by kernel_rfl))
  f217 := Tryz.func258.trans (congrArg some (by kernel_rfl))
  f219 := Tryz.func352.trans (congrArg some (by kernel_rfl))
  f220 := Tryz.func344.trans (congrArg some (by kernel_rfl))
  f224 := Tryz.func325.trans (congrArg some (by kernel_rfl))
  f225 := Tryz.func326.trans (congrArg some (by kernel_rfl))
  f266 := Tryz.func301.trans (congrArg some (by kernel_rfl))
  f267 := Tryz.func362.trans (congrArg some (by kernel_rfl))
  f314 := Tryz.func368.trans (congrArg some (by kernel_rfl))
  t3 := Tryz.underlying3
  a3 := Tryz.isAgg3
  z3 := Tryz.sizeOf3
  v3 := Tryz.zeroValue3
  t4 := Tryz.underlying4
  a4 := Tryz.isAgg4
  z4 := Tryz.sizeOf4
  v4 := Tryz.zeroValue4
  t5 := Tryz.underlying5
  a5 := Tryz.isAgg5
  z5 := Tryz.sizeOf5
  v5 := Tryz.zeroValue5
  t9 := Tryz.underlying9
  a9 := Tryz.isAgg9
  z9 := Tryz.sizeOf9
  v9 := Tryz.zeroValue9
  t46 := Tryz.underlying172
  a46 := Tryz.isAgg172
  z46 := Tryz.sizeOf172
  v46 := Tryz.zeroValue172
  t51 := Tryz.underlying232
  a51 := Tryz.isAgg232
  z51 := Tryz.sizeOf232
  v51 := Tryz.zeroValue232
  t59 := Tryz.underlying324
  a59 := Tryz.isAgg324
  z59 := Tryz.sizeOf324
  v59 := Tryz.zeroValue324
  t146 := Tryz.underlying292
  a146 := Tryz.isAgg292
  z146 := Tryz.sizeOf292
  v146 := Tryz.zeroValue292
  g1 := by kernel_rfl }
open Go.RowKit Go.Lib in
theorem Tryz.strings_Cut (s sep : ByteArray) (m : Int) (w : World) (hs : s.size < 4294967281) (hm : w.cell? ⟨2, 0, none⟩ = some (.int .i64 m)) :
    Calls Tryz.prog 333 #[.string s, .string sep] w fun e w' => e = .returned (.tuple #[.string ⟨(Lib.cut s.data.toList sep.data.toList).1.toArray⟩, .string ⟨(Lib.cut s.data.toList sep.data.toList).2.1.toArray⟩, .bool (Lib.cut s.data.toList sep.data.toList).2.2]) ∧ ∃ n, w' = w.drewN n := Any.strings_Cut Tryz.lays145 s sep m w hs hm
def Tryz.lays190_ren : Go.Shelf.Ren := ⟨fun | 190 => 68 | 125 => 121 | 258 => 120 | 128 => 185 | 129 => 186 | 302 => 176 | 303 => 177 | 304 => 178 | 305 => 179 | 306 => 180 | 307 => 181 | 308 => 182 | 309 => 183 | 310 => 184 | 333 => 266 | 329 => 267 | 330 => 268 | 334 => 269 | 335 => 270 | 336 => 271 | 344 => 309 | n => n, fun | 31 => 48 | 9 => 9 | 3 => 3 | 46 => 172 | 0 => 0 | 51 => 232 | 53 => 234 | 4 => 4 | 183 => 224 | 182 => 223 | 131 => 229 | 5 => 5 | 218 => 272 | 222 => 276 | 228 => 308 | 229 => 309 | n => n, fun | n => n⟩
theorem Tryz.lays190 : Go.Proofs.Lays.n190 Tryz.prog Tryz.lays190_ren := {
  mixed := by kernel_rfl
  f125 := Tryz.func121.trans (congrArg some (by kernel_rfl))
  f128 := Tryz.func185.trans (congrArg some (by kernel_rfl))
  f129 := Tryz.func186.trans (congrArg some (by kernel_rfl))
  f190 := Tryz.func68.trans (congrArg some (by kernel_rfl))
  f258 := Tryz.func120.trans (congrArg some (by kernel_rfl))
  f302 := Tryz.func176.trans (congrArg some (by kernel_rfl))
  f303 := Tryz.func177.trans (congrArg some (by kernel_rfl))
  f304 := Tryz.func178.trans (congrArg some (by kernel_rfl))
  f305 := Tryz.func179.trans (congrArg some (by kernel_rfl))
  f306 := Tryz.func180.trans (congrArg some (by kernel_rfl))
  f307 := Tryz.func181.trans (congrArg some (by kernel_rfl))
  f308 := Tryz.func182.trans (congrArg some (by kernel_rfl))
  f309 := Tryz.func183.trans (congrArg some (by kernel_rfl))
  f310 := Tryz.func184.trans (congrArg some (by kernel_rfl))
  f329 := Tryz.func267.trans (congrArg some (by kernel_rfl))
  f330 := Tryz.func268.trans (congrArg some (by kernel_rfl))
  f333 := Tryz.func266.trans (congrArg some (by kernel_rfl))
  f334 := Tryz.func269.trans (congrArg some (by kernel_rfl))
  f335 := Tryz.func270.trans (congrArg some (by kernel_rfl))
  f336 := Tryz.func271.trans (congrArg some (by kernel_rfl))
  f344 := Tryz.func309.trans (congrArg some (by kernel_rfl))
  t0 := Tryz.underlying0
  a0 := Tryz.isAgg0
  z0 := Tryz.sizeOf0
  v0 := Tryz.zeroValue0
  t3 := Tryz.underlying3
  a3 := Tryz.isAgg3
  z3 := Tryz.sizeOf3
  v3 := Tryz.zeroValue3
  t4 := Tryz.underlying4
  a4 := Tryz.isAgg4
  z4 := Tryz.sizeOf4
  v4 := Tryz.zeroValue4
  t5 := Tryz.underlying5
  a5 := Tryz.isAgg5
  z5 := Tryz.sizeOf5
  v5 := Tryz.zeroValue5
  t9 := Tryz.underlying9
  a9 := Tryz.isAgg9
  z9 := Tryz.sizeOf9
  v9 := Tryz.zeroValue9
  t31 := Tryz.underlying48
  a31 := Tryz.isAgg48
  z31 := Tryz.sizeOf48
  v31 := Tryz.zeroValue48
  t46 := Tryz.underlying172
  a46 := Tryz.isAgg172
  z46 := Tryz.sizeOf172
  v46 := Tryz.zeroValue172
  t51 := Tryz.underlying232
  a51 := Tryz.isAgg232
  z51 := Tryz.sizeOf232
  v51 := Tryz.zeroValue232
  t53 := Tryz.underlying234
  a53 := Tryz.isAgg234
  z53 := Tryz.sizeOf234
  v53 := Tryz.zeroValue234
  t131 := Tryz.underlying229
  a131 := Tryz.isAgg229
  z131 := Tryz.sizeOf229
  v131 := Tryz.zeroValue229
  t182 := Tryz.underlying223
  a182 := Tryz.isAgg223
  z182 := Tryz.sizeOf223
  v182 := Tryz.zeroValue223
  t183 := Tryz.underlying224
  a183 := Tryz.isAgg224
  z183 := Tryz.sizeOf224
  v183 := Tryz.zeroValue224
  t218 := Tryz.underlying272
  a218 := Tryz.isAgg272
  z218 := Tryz.sizeOf272
  v218 := Tryz.zeroValue272
  t222 := Tryz.underlying276
  a222 := Tryz.isAgg276
  z222 := Tryz.sizeOf276
  v222 := Tryz.zeroValue276
  t228 := Tryz.underlying308
  a228 := Tryz.isAgg308
  z228 := Tryz.sizeOf308
  v228 := Tryz.zeroValue308
  t229 := Tryz.underlying309
  a229 := Tryz.isAgg309
  z229 := Tryz.sizeOf309
  v229 := Tryz.zeroValue309 }
open Go.Sort Go.RowKit in
theorem Tryz.slices_Sort_string (blk off cap : Nat) (ss : List (List UInt8)) (w : World) (hH : Holds encStr w blk off ss.toArray) (hblk : blk < w.heap.size) (hsz : ss.length < 4611686018427387904) :
    Calls Tryz.prog 68 #[.slice (some ⟨blk, off, none⟩) ss.length cap] w fun e w' =>
      e = .returned (.tuple #[]) ∧ ∃ n os, w' = grow (putRow encStr (Sort.ahead w n) blk off (ss.mergeSort fun x y => decide (x ≤ y)).toArray) os := Any.slices_Sort_string Tryz.lays190 blk off cap ss w hH hblk hsz
def Tryz.lays99_ren : Go.Shelf.Ren := ⟨fun | 99 => 257 | 206 => 300 | n => n, fun | 9 => 9 | 4 => 4 | 3 => 3 | n => n, fun | n => n⟩
theorem Tryz.lays99 : Go.Proofs.Lays.n99 Tryz.prog Tryz.lays99_ren := {
  mixed := by kernel_rfl
  f99 := Tryz.func257.trans (congrArg some (by kernel_rfl))
  f206 := Tryz.func300.trans (congrArg some (by kernel_rfl))
  t3 := Tryz.underlying3
  a3 := Tryz.isAgg3
  z3 := Tryz.sizeOf3
  v3 := Tryz.zeroValue3
  t4 := Tryz.underlying4
  a4 := Tryz.isAgg4
  z4 := Tryz.sizeOf4
  v4 := Tryz.zeroValue4
  t9 := Tryz.underlying9
  a9 := Tryz.isAgg9
  z9 := Tryz.sizeOf9
  v9 := Tryz.zeroValue9 }
open Go.RowKit Go.Lib in
theorem Tryz.strings_HasPrefix (s p : ByteArray) (w : World) :
    Calls Tryz.prog 257 #[.string s, .string p] w fun e w' => e = .returned (.bool (Lib.hasPrefix s.data.toList p.data.toList)) ∧ w' = w := Any.strings_HasPrefix Tryz.lays99 s p w
open Go.RowKit Go.Lib in
open Go.RowKit Go.Lib in
def Tryz.lays105_ren : Go.Shelf.Ren := ⟨fun | 105 => 335 | 212 => 225 | 99 => 257 | 165 => 347 | 166 => 348 | 170 => 349 | 169 => 350 | 263 => 287 | 264 => 288 | 206 => 300 | 240 => 359 | 241 => 360 | 276 => 366 | 277 => 367 | n => n, fun | 9 => 9 | 3 => 3 | 4 => 4 | 20 => 20 | 0 => 0 | 46 => 172 | 109 => 251 | 5 => 5 | 72 => 341 | 76 => 342 | 51 => 232 | 146 => 292 | 53 => 234 | 148 => 294 | 70 => 339 | 37 => 266 | 75 => 318 | 127 => 350 | 164 => 355 | 80 => 118 | n => n, fun | n => n⟩
theorem Tryz.lays105 : Go.Proofs.Lays.n105 Tryz.prog Tryz.lays105_ren := {
  mixed := by kernel_rfl
  f99 := Tryz.func257.trans (congrArg some (by kernel_rfl))
  f105 := Tryz.func335.trans (congrArg some (by kernel_rfl))
  f165 := Tryz.func347.trans (congrArg some (by kernel_rfl))
  f166 := Tryz.func348.trans (congrArg some (by kernel_rfl))
  f169 := Tryz.func350.trans (congrArg some (by kernel_rfl))
  f170 := Tryz.func349.trans (congrArg some (by kernel_rfl))
  f206 := Tryz.func300.trans (congrArg some (by kernel_rfl))
  f212 := Tryz.func225.trans (congrArg some (by kernel_rfl))
  f240 := Tryz.func359.trans (congrArg some (by kernel_rfl))
  f241 := Tryz.func360.trans (congrArg some (by kernel_rfl))
  f263 := Tryz.func287.trans (congrArg some (by kernel_rfl))
  f264 := Tryz.func288.trans (congrArg some (by kernel_rfl))
  f276 := Tryz.func366.trans (congrArg some (by kernel_rfl))
  f277 := Tryz.func367.trans (congrArg some (by kernel_rfl))
  t0 := Tryz.underlying0
  a0 := Tryz.isAgg0
  z0 := Tryz.sizeOf0
  v0 := Tryz.zeroValue0
  t3 := Tryz.underlying3
  a3 := Tryz.isAgg3
  z3 := Tryz.sizeOf3
  v3 := Tryz.zeroValue3
  t4 := Tryz.underlying4
  a4 := Tryz.isAgg4
  z4 := Tryz.sizeOf4
  v4 := Tryz.zeroValue4
  t5 := Tryz.underlying5
  a5 := Tryz.isAgg5
  z5 := Tryz.sizeOf5
  v5 := Tryz.zeroValue5
  t9 := Tryz.underlying9
  a9 := Tryz.isAgg9
  z9 := Tryz.sizeOf9
  v9 := Tryz.zeroValue9
  t20 := Tryz.underlying20
  a20 := Tryz.isAgg20
  z20 := Tryz.sizeOf20
  v20 := Tryz.zeroValue20
  t37 := Tryz.underlying266
  a37 := Tryz.isAgg266
  z37 := Tryz.sizeOf266
  v37 := Tryz.zeroValue266
  t46 := Tryz.underlying172
  a46 := Tryz.isAgg172
  z46 := Tryz.sizeOf172
  v46 := Tryz.zeroValue172
  t51 := Tryz.underlying232
  a51 := Tryz.isAgg232
  z51 := Tryz.sizeOf232
  v51 := Tryz.zeroValue232
  t53 := Tryz.underlying234
  a53 := Tryz.isAgg234
  z53 := Tryz.sizeOf234
  v53 := Tryz.zeroValue234
  t70 := Tryz.underlying339
  a70 := Tryz.isAgg339
  z70 := Tryz.sizeOf339
  v70 := Tryz.zeroValue339
  t72 := Tryz.underlying341
  a72 := Tryz.isAgg341
  z72 := Tryz.sizeOf341
  v72 := Tryz.zeroValue341
  t75 := Tryz.underlying318
  a75 := Tryz.isAgg318
  z75 := Tryz.sizeOf318
  v75 := Tryz.zeroValue318
  t76 := Tryz.underlying342
  a76 := Tryz.isAgg342
  z76 := Tryz.sizeOf342
  v76 := Tryz.zeroValue342
  t109 := Tryz.underlying251
  a109 := Tryz.isAgg251
  z109 := Tryz.sizeOf251
  v109 := Tryz.zeroValue251
  t127 := Tryz.underlying350
  a127 := Tryz.isAgg350
  z127 := Tryz.sizeOf350
  v127 := Tryz.zeroValue350
  t146 := Tryz.underlying292
  a146 := Tryz.isAgg292
  z146 := Tryz.sizeOf292
  v146 := Tryz.zeroValue292
  t148 := Tryz.underlying294
  a148 := Tryz.isAgg294
  z148 := Tryz.sizeOf294
  v148 := Tryz.zeroValue294
  t164 := Tryz.underlying355
  a164 := Tryz.isAgg355
  z164 := Tryz.sizeOf355
  v164 := Tryz.zeroValue355 }
theorem Tryz.Builder_Extra_105 : Builder.Extra Tryz.prog Tryz.lays105_ren := {
  sizeBuilder := by kernel_rfl
  liesBuilder := by kernel_rfl
  t5 := Tryz.underlying5
  a5 := Tryz.isAgg5
  z5 := Tryz.sizeOf5
  v5 := Tryz.zeroValue5
  infoByte := by kernel_rfl
  cellsByte := by kernel_rfl
  sizeByte := by kernel_rfl
  neB5 := by decide }
open Go.RowKit Go.Lib in
theorem Tryz.strings_Repeat_main (s : ByteArray) (c : Nat) (w : World) (hc2 : 2 ≤ c) (hc : c ≤ 9223372036854775807) (hlen : s.size * c ≤ 140737488355328) (h0 : 0 < s.size) :
    Calls Tryz.prog 335 #[.string s, .int .i64 c] w fun e w' => e = .returned (.string ⟨(Lib.repeatL s.data.toList c).toArray⟩) ∧ Below w.heap.size w w' := Any.strings_Repeat_main Tryz.lays105 Tryz.Builder_Extra_105 s c w hc2 hc hlen h0
open Go.RowKit Go.Lib in
theorem Tryz.strings_Repeat_zero (s : ByteArray) (w : World) :
    Calls Tryz.prog 335 #[.string s, .int .i64 0] w fun e w' => e = .returned (.string ⟨#[]⟩) ∧ w' = w := Any.strings_Repeat_zero Tryz.lays105 s w
open Go.RowKit Go.Lib in
theorem Tryz.strings_Repeat_one (s : ByteArray) (w : World) :
    Calls Tryz.prog 335 #[.string s, .int .i64 1] w fun e w' => e = .returned (.string s) ∧ w' = w := Any.strings_Repeat_one Tryz.lays105 s w
open Go.Lib in
open Go.Lib in
open Go.Lib in
def Tryz.lays194_ren : Go.Shelf.Ren := ⟨fun | 194 => 69 | n => n, fun | 31 => 48 | 9 => 9 | 3 => 3 | 4 => 4 | 0 => 0 | n => n, fun | n => n⟩
theorem Tryz.lays194 : Go.Proofs.Lays.n194 Tryz.prog Tryz.lays194_ren := {
  mixed := by kernel_rfl
  f194 := Tryz.func69.trans (congrArg some (by kernel_rfl))
  t0 := Tryz.underlying0
  a0 := Tryz.isAgg0
  z0 := Tryz.sizeOf0
  v0 := Tryz.zeroValue0
  t3 := Tryz.underlying3
  a3 := Tryz.isAgg3
  z3 := Tryz.sizeOf3
  v3 := Tryz.zeroValue3
  t4 := Tryz.underlying4
  a4 := Tryz.isAgg4
  z4 := Tryz.sizeOf4
  v4 := Tryz.zeroValue4
  t9 := Tryz.underlying9
  a9 := Tryz.isAgg9
  z9 := Tryz.sizeOf9
  v9 := Tryz.zeroValue9
  t31 := Tryz.underlying48
  a31 := Tryz.isAgg48
  z31 := Tryz.sizeOf48
  v31 := Tryz.zeroValue48 }
open Go.RowKit Go.Lib Go.Sort in
theorem Tryz.slices_Compact_string (blk off cap : Nat) (zs : List (List UInt8)) (w : World) (hH : Holds encStr w blk off zs.toArray) (hsz : zs.length ≤ 9223372036854775807) (hcap : zs.length ≤ cap) :
    Calls Tryz.prog 69 #[.slice (some ⟨blk, off, none⟩) zs.length cap] w fun e w' => e = .returned (.slice (some ⟨blk, off, none⟩) (Lib.compact zs).length cap) ∧ ∃ q, w' = putRow encStr (Sort.ahead w q) blk off (Lib.compact zs ++ List.replicate (zs.length - (Lib.compact zs).length) []).toArray := Any.slices_Compact_string Tryz.lays194 blk off cap zs w hH hsz hcap
open Go.RowKit Go.Lib Go.Sort in
theorem Tryz.slices_Compact_string_empty (a : Option Addr) (cap : Nat) (w : World) :
    Calls Tryz.prog 69 #[.slice a 0 cap] w fun e w' => e = .returned (.slice a 0 cap) ∧ w' = w := Any.slices_Compact_string_empty Tryz.lays194 a cap w
open Go.RowKit Go.Sort in
theorem Tryz.slices_Sort_string_none (p : Option Addr) (cap : Nat) (w : World) :
    Calls Tryz.prog 68 #[.slice p 0 cap] w fun e w' => e = .returned (.tuple #[]) ∧ w' = w := Any.slices_Sort_string_none Tryz.lays190 p cap w
end Go.Proofs
namespace Go.Proofs.YtomkgfdigldhcaaGreatDoor
open Go.KX Go.RowKit Go.Sort
structure GlF (w : World) : Prop where
  pow10 : Lib.TabIs Tryz.prog w "internal/strconv.uint64pow10" .u64 Lib.pow10Tab
  maxlen : ∃ m, w.cell? ⟨2, 0, none⟩ = some (.int .i64 m)
  esyn : ∃ ev, w.cell? ⟨10, 0, none⟩ = some ev ∧ (ev = .nilIface ∨ ∃ te pe, ev = .iface te pe)
  signs : ∀ (j : Nat) x, signsT[j]? = some x → w.cell? ⟨1, j, none⟩ = some (str x)
  levels : ∀ (j : Nat) ls, levelsT[j]? = some ls → ∃ b o c, w.cell? ⟨0, j, none⟩ = some (.slice (some ⟨b, o, none⟩) ls.length c) ∧ ls.length ≤ c ∧ ∀ (k : Nat) x, ls[k]? = some x → w.cell? ⟨b, o + k, none⟩ = some (str x)
theorem GlF.below {w w' : World} (h : GlF w) (hb : Below w.heap.size w w') : GlF w' :=
  ⟨tab_below (b := 3) (by kernel_rfl) h.pow10 hb, h.maxlen.elim fun m hm => ⟨m, KX.cell_below hb hm⟩, h.esyn.elim fun ev he => ⟨ev, KX.cell_below hb he.1, he.2⟩,
    fun j x hj => KX.cell_below hb (h.signs j x hj), fun j ls hj => by
      obtain ⟨b, o, c, h1, h2, h3⟩ := h.levels j ls hj
      exact ⟨b, o, c, KX.cell_below hb h1, h2, fun k x hk => KX.cell_below hb (h3 k x hk)⟩⟩
abbrev gT : List MF := [factF GlF]
theorem glf {g : GW} (h : All gT g) : GlF g.w := factF_at (fun _ _ => GlF.below) (h _ (.head _))
theorem fmt_ok {n : Int} (h0 : -9223372036854775808 ≤ n) (h1 : n ≤ 9223372036854775807) : Fc Tryz.prog gT 118 [nI n, nI 10] (.str (Lib.itoa n)) :=
  Fc_lib ⟨_, Tryz.func118, rfl, by kernel_rfl⟩ fun ρ g vs hf ha => by
    rw [args_v (xs := [.int .i64 n, .int .i64 10]) rfl ha]
    refine (Tryz.strconv_FormatInt_10 n h0 h1 g.w (glf hf).pow10).mono ?_
    rintro e w' ⟨rfl, k, os, rfl⟩
    exact ⟨_, rfl, (below_drewN _ k).trans (show Below g.w.heap.size _ _ from below_grow (g.w.drewN k) os), fun _ _ => .str⟩
theorem fmtI {p : Int} {x : Nat} (hp : p = x) (hx : x < 10000000000000000) : Fc Tryz.prog gT 118 [nI p, nI 10] (.str (Lib.decDigits x)) := by
  subst hp
  rw [← Lib.itoa_nonneg]
  exact fmt_ok (by omega) (by omega)
theorem trim0_ok {s : Bytes} (hs : s.length ≤ 9223372036854775807) : Fc Tryz.prog gT 119 [.str s, .str [48]] (.str (Lib.trimRightB s 48)) :=
  Fc_lib ⟨_, Tryz.func119, rfl, by kernel_rfl⟩ fun ρ g vs hf ha => by
    rw [args_v (xs := [str s, str [48]]) rfl ha]
    refine (Tryz.strings_TrimRight_one ⟨s.toArray⟩ 48 (by decide) g.w (by simpa [ByteArray.size] using hs)).mono ?_
    rintro e w' ⟨rfl, rfl⟩
    exact ⟨_, rfl, Below.refl _ _, fun _ _ => .str⟩
theorem cutp_ok {s p : Bytes} : Fc Tryz.prog gT 332 [.str s, .str p] (.t [.str (Lib.trimPrefix s p), bS (Lib.hasPrefix s p)]) :=
  Fc_lib ⟨_, Tryz.func332, rfl, by kernel_rfl⟩ fun ρ g vs hf ha => by
    rw [args_v (xs := [str s, str p]) rfl ha]
    refine (Tryz.strings_CutPrefix ⟨s.toArray⟩ ⟨p.toArray⟩ g.w).mono ?_
    rintro e w' ⟨rfl, rfl⟩
    exact ⟨_, rfl, Below.refl _ _, fun _ _ => .t [_, _] rfl (DenL.cons .str (DenL.cons .v DenL.nil)).2⟩
theorem cut_ok {s p : Bytes} (hs : s.length < 4294967281) : Fc Tryz.prog gT 333 [.str s, .str p] (.t [.str (Lib.cut s p).1, .str (Lib.cut s p).2.1, bS (Lib.cut s p).2.2]) :=
  Fc_lib ⟨_, Tryz.func333, rfl, by kernel_rfl⟩ fun ρ g vs hf ha => by
    rw [args_v (xs := [str s, str p]) rfl ha]
    obtain ⟨m, hm⟩ := (glf hf).maxlen
    refine (Tryz.strings_Cut ⟨s.toArray⟩ ⟨p.toArray⟩ m g.w (by simpa [ByteArray.size] using hs) hm).mono ?_
    rintro e w' ⟨rfl, n, rfl⟩
    exact ⟨_, rfl, below_drewN _ n, fun _ _ => .t [_, _, _] rfl (DenL.cons .str (DenL.cons .str (DenL.cons .v DenL.nil))).2⟩
abbrev nU (n : Int) : SV := .v (.int .u64 n)
theorem rep_ok {s : Bytes} {c : Nat} (hlen : s.length * c ≤ 140737488355328) (hc : c ≤ 9223372036854775807) (h0 : 0 < s.length) : Fc Tryz.prog gT 335 [.str s, nI c] (.str (Lib.repeatL s c)) :=
  Fc_lib ⟨_, Tryz.func335, rfl, by kernel_rfl⟩ fun ρ g vs hf ha => by
    rw [args_v (xs := [str s, .int .i64 c]) rfl ha]
    rcases c with _ | _ | c
    · refine (Tryz.strings_Repeat_zero ⟨s.toArray⟩ g.w).mono ?_
      rintro e w' ⟨rfl, rfl⟩
      exact ⟨_, rfl, Below.refl _ _, fun _ _ => .str⟩
    · refine (Tryz.strings_Repeat_one ⟨s.toArray⟩ g.w).mono ?_
      rintro e w' ⟨rfl, rfl⟩
      exact ⟨_, rfl, Below.refl _ _, fun _ _ => by rw [show Lib.repeatL s (0 + 1) = s by simp [Lib.repeatL]]; exact .str⟩
    · refine (Tryz.strings_Repeat_main ⟨s.toArray⟩ (c + 2) g.w (by omega) hc (by simpa [ByteArray.size] using hlen) (by simpa [ByteArray.size] using h0)).mono ?_
      rintro e w' ⟨rfl, hb⟩
      exact ⟨_, rfl, hb, fun _ _ => .str⟩
/-- A package-level variable's block is never written. -/
theorem glfz {g : GW} (h : All gT g) {b o : Nat} (hc : ∀ w, GlF w → ∃ v, w.cell? ⟨b, o, none⟩ = some v) : g.fz b := by
  obtain ⟨w0, h1, h2, h3⟩ := h (factF GlF) (.head _)
  obtain ⟨v, hv⟩ := hc w0 h1
  exact h3 b (World.block_lt_of_cell? w0 _ hv)
theorem signs_den : ∀ g ρ, All gT g → Den g ρ (.p (signsT.map .str)) (.pointer (some ⟨1, 0, none⟩)) := fun g ρ h => by
  refine .p (signsT.map str) (by simp) (glfz (o := 0) h fun w hw => ⟨_, hw.signs 0 _ rfl⟩) (fun k x hk => ?_) (fun ρ' j sv x h1 h2 => ?_)
  · simp only [List.getElem?_map, Option.map_eq_some_iff] at hk
    obtain ⟨s, hs, rfl⟩ := hk
    have := (glf h).signs k s hs
    simpa using this
  · simp only [List.getElem?_map, Option.map_eq_some_iff] at h1 h2
    obtain ⟨s, hs, rfl⟩ := h1
    obtain ⟨s', hs', rfl⟩ := h2
    rw [hs] at hs'
    cases hs'
    exact .str
theorem levels_den : ∀ g ρ, All gT g → Den g ρ (.p (levelsT.map rB)) (.pointer (some ⟨0, 0, none⟩)) := fun g ρ h => by
  obtain ⟨w0, h1, h2, h3⟩ := h (factF GlF) (.head _)
  have key : ∀ (j : Nat) ls, levelsT[j]? = some ls → ∃ v, g.w.cell? ⟨0, j, none⟩ = some v ∧ ∀ ρ', Den g ρ' (rB ls) v := by
    intro j ls hj
    obtain ⟨b, o, c, e1, e2, e3⟩ := h1.levels j ls hj
    have hlen : ls.length ≤ 6 ∧ ls ≠ [] := by
      have : ∀ ls ∈ levelsT, ls.length ≤ 6 ∧ ls ≠ [] := by decide
      exact this ls (List.mem_of_getElem? hj)
    obtain ⟨s0, hs0⟩ : ∃ s0, ls[0]? = some s0 := by
      cases ls with
      | nil => exact absurd rfl hlen.2
      | cons a _ => exact ⟨a, rfl⟩
    have hfz : g.fz b := h3 b (World.block_lt_of_cell? w0 _ (e3 0 s0 hs0))
    refine ⟨_, KX.cell_below h2 e1, fun ρ' => ?_⟩
    have : Den g ρ' (.s 1 (ls.map fun s => [.str s])) (.slice (some ⟨b, o, none⟩) (ls.map fun s => [SV.str s]).length c) := .s (ls.map str) (by simp [maxLen]; omega) (by simpa using e2) (by simp) (fun r hr => by
        obtain ⟨s, _, rfl⟩ := List.mem_map.1 hr
        rfl) ⟨fun u hu => by
        obtain ⟨s, _, rfl⟩ := List.mem_map.1 hu
        rfl, fun h => absurd h (by decide)⟩ (fun _ => ⟨b, o, rfl, hfz, fun k x hk => ?_⟩) (fun ρ'' i j r sv x hi hj hx => ?_)
    · simpa using this
    · simp only [List.getElem?_map, Option.map_eq_some_iff] at hk
      obtain ⟨s, hs, rfl⟩ := hk
      exact KX.cell_below h2 (e3 k s hs)
    · simp only [List.getElem?_map, Option.map_eq_some_iff] at hi
      obtain ⟨s, hs, rfl⟩ := hi
      cases j with
      | zero =>
        simp only [List.getElem?_cons_zero, Option.some.injEq] at hj
        subst hj
        simp only [Nat.mul_one, Nat.add_zero, List.getElem?_map, hs, Option.map_some, Option.some.injEq] at hx
        subst hx
        exact .str
      | succ j => simp at hj
  have hx : ∃ xs : List Value, xs.length = 5 ∧ ∀ (j : Nat) ls x, levelsT[j]? = some ls → xs[j]? = some x → g.w.cell? ⟨0, j, none⟩ = some x ∧ ∀ ρ', Den g ρ' (rB ls) x := by
    obtain ⟨v0, a0, b0⟩ := key 0 _ rfl
    obtain ⟨v1, a1, b1⟩ := key 1 _ rfl
    obtain ⟨v2, a2, b2⟩ := key 2 _ rfl
    obtain ⟨v3, a3, b3⟩ := key 3 _ rfl
    obtain ⟨v4, a4, b4⟩ := key 4 _ rfl
    refine ⟨[v0, v1, v2, v3, v4], rfl, fun j ls x hj hx => ?_⟩
    match j, hj, hx with
    | 0, hj, hx => cases hj; cases hx; exact ⟨a0, b0⟩
    | 1, hj, hx => cases hj; cases hx; exact ⟨a1, b1⟩
    | 2, hj, hx => cases hj; cases hx; exact ⟨a2, b2⟩
    | 3, hj, hx => cases hj; cases hx; exact ⟨a3, b3⟩
    | 4, hj, hx => cases hj; cases hx; exact ⟨a4, b4⟩
    | n + 5, hj, hx => simp at hx
  obtain ⟨xs, hxl, hxs⟩ := hx
  have at5 : ∀ {j : Nat} {x : Value}, xs[j]? = some x → ∃ ls, levelsT[j]? = some ls := by
    intro j x hj
    have : j < xs.length := by
      rcases Nat.lt_or_ge j xs.length with h | h
      · exact h
      · rw [List.getElem?_eq_none h] at hj; cases hj
    have h5 : j < levelsT.length := by rw [hxl] at this; exact this
    exact ⟨levelsT[j], List.getElem?_eq_getElem h5⟩
  refine .p xs (by rw [hxl]; rfl) (glfz (o := 0) h fun w hw => (hw.levels 0 _ rfl).elim fun b hb => hb.elim fun o ho => ho.elim fun c hc => ⟨_, hc.1⟩) (fun k x hk => ?_) (fun ρ' j sv x h1 h2 => ?_)
  · obtain ⟨ls, hls⟩ := at5 hk
    have := (hxs k ls x hls hk).1
    simpa using this
  · simp only [List.getElem?_map, Option.map_eq_some_iff] at h1
    obtain ⟨ls, hls, rfl⟩ := h1
    exact (hxs j ls x hls h2).2 ρ'
theorem ib_ok {g : Bytes} {n : Int} {c : UInt8} (hn : n = c.toNat) : Fc Tryz.prog gT 170 [.str g, .v (.int .u8 n)] (nI (Lib.indexByte g c)) :=
  Fc_lib ⟨_, Tryz.func170, rfl, by kernel_rfl⟩ fun ρ w vs hf ha => by
    rw [args_v (xs := [str g, .int .u8 n]) rfl ha]
    refine (Tryz.strings_IndexByte ⟨g.toArray⟩ n w.w).mono ?_
    rintro e w' ⟨rfl, rfl⟩
    exact ⟨_, rfl, Below.refl _ _, fun _ _ => by rw [hn, show ((c.toNat : Int)).toNat.toUInt8 = c by simp]; exact .v⟩
theorem hp_ok {s p : Bytes} : Fc Tryz.prog gT 257 [.str s, .str p] (bS (Lib.hasPrefix s p)) :=
  Fc_lib ⟨_, Tryz.func257, rfl, by kernel_rfl⟩ fun ρ w vs hf ha => by
    rw [args_v (xs := [str s, str p]) rfl ha]
    refine (Tryz.strings_HasPrefix ⟨s.toArray⟩ ⟨p.toArray⟩ w.w).mono ?_
    rintro e w' ⟨rfl, rfl⟩
    exact ⟨_, rfl, Below.refl _ _, fun _ _ => .v⟩
theorem uintG_ok {t : Bytes} {n : Nat} (h0 : t ≠ []) (h16 : t.length ≤ 16) (h : Lib.parseUintM M62 0 t = .ok n) : Fc Tryz.prog gT 334 [.str t, nI 10, nI 62] (.t [nU n, .v .nilIface]) :=
  Fc_lib ⟨_, Tryz.func334, rfl, by kernel_rfl⟩ fun ρ w vs hf ha => by
    rw [args_v (xs := [str t, .int .i64 10, .int .i64 62]) rfl ha]
    refine (uint_ok Tryz.laysPu14 ⟨t.toArray⟩ (by simpa [ByteArray.size] using h0) (by simpa [ByteArray.size] using h16) n (by simpa using h) w.w).mono ?_
    rintro e w' ⟨rfl, rfl⟩
    exact ⟨_, rfl, Lib.bytesWorld_below _ _ _, fun _ _ => .t [_, _] rfl (DenL.cons .v (DenL.cons .v DenL.nil)).2⟩
theorem uintG_bad {t : Bytes} (h0 : t ≠ []) (h16 : t.length ≤ 16) (h : Lib.parseUintM M62 0 t = synU) : Fc Tryz.prog gT 334 [.str t, nI 10, nI 62] (.t [nU 0, .ni]) :=
  Fc_lib ⟨_, Tryz.func334, rfl, by kernel_rfl⟩ fun ρ w vs hf ha => by
    rw [args_v (xs := [str t, .int .i64 10, .int .i64 62]) rfl ha]
    obtain ⟨ev, hv, hev⟩ := (glf hf).esyn
    refine (uint_bad Tryz.laysPu14 ⟨t.toArray⟩ (by simpa [ByteArray.size] using h0) (by simpa [ByteArray.size] using h16) (by simpa using h) ev w.w hv hev).mono ?_
    rintro e w' ⟨v, rfl, hb⟩
    exact ⟨_, rfl, hb, fun _ _ => .t [_, _] rfl (DenL.cons .v (DenL.cons .ni DenL.nil)).2⟩
end Go.Proofs.YtomkgfdigldhcaaGreatDoor
namespace Go.KX
/-- Slots that do not speak of the local thing i; what is covered is dropped. -/
def cln (i : Nat) : List Nat → SL → SL
  | _, [] => []
  | seen, (t, sv) :: r => match seen.elem t with
    | true => cln i seen r
    | false => match occ i sv with
      | true => cln i (t :: seen) r
      | false => (t, sv) :: cln i (t :: seen) r
theorem cln_lk {i : Nat} : ∀ {L : SL} {seen : List Nat} {t : Nat} {sv : SV}, lkS (cln i seen L) t = some sv → seen.elem t = false ∧ lkS L t = some sv ∧ occ i sv = false
  | [], seen, t, sv, h => by simp [cln, lkS] at h
  | (u, x) :: r, seen, t, sv, h => by
    unfold cln at h
    cases hs : seen.elem u with
    | true =>
      rw [hs] at h
      obtain ⟨h1, h2, h3⟩ := cln_lk (L := r) h
      have htu : t ≠ u := by rintro rfl; rw [hs] at h1; cases h1
      exact ⟨h1, by rw [lkS_ne _ _ htu]; exact h2, h3⟩
    | false =>
      rw [hs] at h
      cases ho : occ i x with
      | true =>
        rw [ho] at h
        obtain ⟨h1, h2, h3⟩ := cln_lk (L := r) h
        have htu : t ≠ u := by rintro rfl; simp at h1
        have h4 : seen.elem t = false := by simp at h1 ⊢; exact h1.2
        exact ⟨h4, by rw [lkS_ne _ _ htu]; exact h2, h3⟩
      | false =>
        rw [ho] at h
        by_cases htu : t = u
        · subst htu
          simp only [lkS_same] at h
          cases h
          exact ⟨hs, lkS_same _ _ _, ho⟩
        · simp only at h
          rw [lkS_ne _ _ htu] at h
          obtain ⟨h1, h2, h3⟩ := cln_lk (L := r) h
          have h4 : seen.elem t = false := by simp at h1 ⊢; exact h1.2
          exact ⟨h4, by rw [lkS_ne _ _ htu]; exact h2, h3⟩
/-- The block i is there once, and nowhere else spoken of. -/
def onceM (i : Nat) : SM → Bool
  | [] => false
  | (j, m) :: r => match Nat.beq i j with
    | true => !(occM i r)
    | false => !(occM i [(j, m)]) && onceM i r
theorem DenM.setU {g : GW} {ρ : Nat → Lc} : ∀ {M : SM} {ms : List Res} {i : Nat} {mb : MB}, onceM i M = true → DenM g ρ M ms → lkM M i = some mb → ∃ r m1 m2, ms = m1 ++ r :: m2 ∧ DenB g ρ i mb r ∧
    ∀ {β : Type} {mb' : MB} {K : SM → Option β} {res : β}, updK M i mb' K = some res → ∃ M', K M' = some res ∧ ∀ g' y r', DenM g' ρ M (m1 ++ r :: m2) → DenB g' (fun j => if j = i then y else ρ j) i mb' r' → DenM g' (fun j => if j = i then y else ρ j) M' (m1 ++ r' :: m2)
  | [], _, _, _, ho, _, _ => by cases ho
  | (j, m) :: M, _, i, mb, ho, @DenM.cons _ _ _ _ _ r0 ms0 hb t, h => by
    unfold lkM at h
    unfold onceM at ho
    cases hij : Nat.beq i j with
    | true =>
      rw [hij] at h ho
      simp only [Option.some.injEq] at h
      subst h
      have hj := Nat.eq_of_beq_eq_true hij
      subst hj
      refine ⟨r0, [], ms0, rfl, hb, fun {β mb' K res} hu => ?_⟩
      simp only [updK, hij] at hu
      exact ⟨_, hu, fun g' y r' hM hB => by
        cases hM with
        | cons _ t' => exact .cons hB (occ_upd t' (by simpa using ho))⟩
    | false =>
      rw [hij] at h ho
      simp only [Bool.and_eq_true, Bool.not_eq_true'] at ho
      obtain ⟨r, m1, m2, rfl, hB, hu⟩ := DenM.setU (M := M) ho.2 t h
      refine ⟨r, r0 :: m1, m2, rfl, hB, fun {β mb' K res} hu' => ?_⟩
      simp only [updK, hij] at hu'
      obtain ⟨M', h1, h2⟩ := hu hu'
      exact ⟨_, h1, fun g' y r' hM hB => by
        cases hM with
        | cons hb' t' =>
          have := occ_upd (y := y) (.cons hb' .nil : DenM g' ρ [(j, m)] [r0]) ho.1
          cases this with
          | cons hb2 _ => exact .cons hb2 (h2 g' y r' t' hB)⟩
theorem chunks {sz : Nat} (hz : 0 < sz) : ∀ (n : Nat) (xs : List Value), xs.length = n * sz → (∀ u ∈ xs, u.oneCell' = true) → ∃ ys : List (Row sz), ys.length = n ∧ flat (elRow sz hz) ys = xs
  | 0, xs, hl, _ => ⟨[], rfl, by
      have : xs = [] := List.eq_nil_of_length_eq_zero (by simpa using hl)
      rw [this]; rfl⟩
  | n + 1, xs, hl, h1 => by
    have hs : (n + 1) * sz = n * sz + sz := Nat.succ_mul n sz
    obtain ⟨ys, h2, h3⟩ := chunks hz n (xs.drop sz) (by rw [List.length_drop]; omega) (fun u hu => h1 u (List.mem_of_mem_drop hu))
    refine ⟨⟨xs.take sz, by rw [List.length_take]; omega, fun u hu => h1 u (List.mem_of_mem_take hu)⟩ :: ys, by simp [h2], ?_⟩
    simp only [flat, List.flatMap_cons] at h3 ⊢
    rw [h3]
    exact List.take_append_drop _ _
section
variable {X : Kx} {k : List It} {L : SL} {M : SM} {fs : List MF} {own : List Res} {arr : Array Oper} {l : List Oper} {o : Oper}
/-- A nil slice, as rows that are owned. -/
theorem sonl (t i T sz : Nat) (h : ES X arr l k ((t, .o i 0) :: L) ((i, .r T sz []) :: M) fs own) (hi : lkS L t = some (.s 0 []) := by rfl) (hoc : (occSL i L || occM i M) = false := by rfl) (hlt : Nat.blt i 1000 = true := by rfl) (hz : 0 < sz := by decide) : ES X arr l k L M fs own := by
  intro g a s
  obtain ⟨ρ, ms, h1, h2, h3⟩ := s
  simp only [Bool.or_eq_false_iff] at hoc
  have hlt : i < 1000 := by simpa [Nat.blt_eq] using hlt
  let y : Lc := ⟨0, none, 0⟩
  have hB : DenB g (fun j => if j = i then y else ρ j) i (.r T sz []) (Res.arr (elRow sz hz) T ((fun j => if j = i then y else ρ j) i).ad ((fun j => if j = i then y else ρ j) i).c []) := .r hz [] rfl (fun ρ' k x r h => by simp at h)
  simp only [if_pos] at hB
  refine h g a ⟨fun j => if j = i then y else ρ j, Res.arr (elRow sz hz) T none 0 [] :: ms, ⟨h1.kn, h1.all, h1.own.arr_nil (elRow sz hz) T, h1.ext, h1.new⟩, .cons hB (occ_upd h2 hoc.2), fun j hj => ?_, fun u sv hu => ?_⟩
  · have : j ≠ i := by omega
    simp only [if_neg this]; exact h3.pin j hj
  · by_cases hut : u = t
    · subst hut
      rw [lkS_same] at hu
      cases hu
      obtain ⟨x, hx, dx⟩ := h3.val u _ hi
      refine ⟨x, hx, ?_⟩
      cases dx with
      | s xs _ _ _ _ ho _ _ =>
        obtain ⟨rfl, rfl⟩ := ho.2 rfl
        have : Den g (fun j => if j = i then y else ρ j) (.o i 0) (.slice ((fun j => if j = i then y else ρ j) i).ad 0 ((fun j => if j = i then y else ρ j) i).c) := .o
        simpa [y] using this
    · rw [lkS_ne _ _ hut] at hu
      obtain ⟨x, hx, dx⟩ := h3.val u sv hu
      exact ⟨x, hx, dx.upd (occSL_get hoc.1 u sv hu)⟩
theorem eonl (t i T sz : Nat) (h : E X k ((t, .o i 0) :: L) ((i, .r T sz []) :: M) fs own) (hi : lkS L t = some (.s 0 []) := by rfl) (hoc : (occSL i L || occM i M) = false := by rfl) (hlt : Nat.blt i 1000 = true := by rfl) (hz : 0 < sz := by decide) : E X k L M fs own :=
  sonl (arr := #[]) (l := []) t i T sz (ES_nil h) hi hoc hlt hz |> fun h => h
/-- What the rows are. -/
def rowsD {sz : Nat} (ys : List (Row sz)) (rows : List (List SV)) : MF := ⟨fun g => ∀ (ρ' : Nat → Lc) (k : Nat) x r, ys[k]? = some x → rows[k]? = some r → DenL g ρ' r x.1, fun e h ρ' k x r h1 h2 => (h ρ' k x r h1 h2).mono e⟩
/-- Owned rows are laid open: they are never written again. -/
theorem sezo (t : Nat) {i n T sz : Nat} {rows : List (List SV)} (hn : n = rows.length) (h : ES X arr l k ((t, .s sz rows) :: L) (frM i (.r T sz rows) M) fs own) (hi : lkS L t = some (.o i n) := by rfl) (hm : lkM M i = some (.r T sz rows) := by rfl) (hr : ∀ r ∈ rows, r.length = sz) : ES X arr l k L M fs own := by
  intro g a s
  obtain ⟨ρ, ms, st⟩ := s.open
  have hM : DenM g ρ M ms := st.all _ (.head _)
  obtain ⟨r, m1, m2, rfl, hB, hu⟩ := hM.take hm
  have hp : (m1 ++ r :: m2 ++ own).Perm (r :: (m1 ++ m2 ++ own)) := by
    simp only [List.append_assoc, List.cons_append]
    exact List.perm_middle
  cases hB with
  | r hz ys hl hd =>
    have stp0 := st.perm hp
    have stp : St X.toCx [] (rowsD ys rows :: F1 ρ M _ :: F2 X ρ L a :: fs) _ g a := ⟨stp0.kn, All.cons hd stp0.all, stp0.own, stp0.ext, stp0.new⟩
    obtain ⟨g', hw, s'⟩ := stp.publish .head
    have hd' : (rowsD ys rows).p g' := s'.all _ (.tail _ (.head _))
    have hsm : (SlM (elRow sz hz) (ρ i).ad (ρ i).c ys).p g' := s'.all _ (.head _)
    have hSl : Sl X ρ L a g' := s'.all (F2 X ρ L a) (.tail _ (.tail _ (.tail _ (.head _))))
    · have hM2 : DenM g' ρ M (m1 ++ _ :: m2) := s'.all (F1 ρ M _) (.tail _ (.tail _ (.head _)))
      refine hw ▸ h g' a ⟨ρ, m1 ++ m2, ⟨s'.kn, fun f hf => s'.all f (.tail _ (.tail _ (.tail _ (.tail _ hf)))), s'.own, s'.ext, s'.new⟩, hu g' hM2, hSl.pin, fun u sv hu' => ?_⟩
      by_cases hut : u = t
      · subst hut
        rw [lkS_same] at hu'
        cases hu'
        obtain ⟨x, hx, dx⟩ := hSl.val u _ hi
        refine ⟨x, hx, ?_⟩
        cases dx with
        | o =>
          obtain ⟨q1, q2, q3⟩ := hsm
          rw [hn]
          refine .s (flat (elRow sz hz) ys) (by rw [← hl]; exact q1) (by rw [← hl]; exact q2) (by rw [flat_len, hl]; rfl) hr ⟨flat_one _ _, fun h => absurd h (by omega)⟩ (fun hne => ?_) (fun ρ' i' j r' sv' x' h1 h2 h3 => ?_)
          · obtain ⟨b, oo, e1, e2, e3⟩ := q3 (by intro e; apply hne; rw [← List.length_eq_zero_iff, ← hl, e]; rfl)
            exact ⟨b, oo, e1, e2, e3⟩
          · have hlt : i' < ys.length := by
              rw [hl]
              rcases Nat.lt_or_ge i' rows.length with h | h
              · exact h
              · rw [List.getElem?_eq_none h] at h1; cases h1
            have hy := List.getElem?_eq_getElem hlt
            have hdl := hd' ρ' i' _ r' hy h1
            obtain ⟨y, hyj, dy⟩ := hdl.get h2
            have hfl := flat_get (elRow sz hz) ys i' j _ y hy hyj
            rw [show (elRow sz hz).sz = sz from rfl] at hfl
            have : y = x' := Option.some.inj (hfl.symm.trans h3)
            subst this
            exact dy
      · rw [lkS_ne _ _ hut] at hu'
        exact hSl.val u sv hu'
theorem eezo (t : Nat) {i n T sz : Nat} {rows : List (List SV)} (hn : n = rows.length) (h : E X k ((t, .s sz rows) :: L) (frM i (.r T sz rows) M) fs own) (hi : lkS L t = some (.o i n) := by rfl) (hm : lkM M i = some (.r T sz rows) := by rfl) (hr : ∀ r ∈ rows, r.length = sz) : E X k L M fs own :=
  sezo (arr := #[]) (l := []) t hn (ES_nil h) hi hm hr |> fun h => h
/-- append(xs, ys...): xs owned, ys frozen. -/
theorem sap {tb : TT} (hT : tb.Ok X.P) (m : Nat) (H : List (List SV)) {d T Te i n sz z : Nat} {x y : Operand} {rows rows2 : List (List SV)} {dT de : TD} {M2 l' L' M' φ} (hn : n = rows.length) (hz2 : rows2 ≠ [] → z = sz) (hbig : (rows.length + rows2.length) * de.by_ ≤ 140737488355328) (hk : ES X arr l' k L' M' fs own) (ho : o.op = .call ⟨.builtin .append, #[x, y], #[T, T]⟩ := by rfl) (hg : o.guard = none := by rfl) (hd : o.dst = some d := by rfl) (hdn : Nat.blt d X.n = true := by rfl)
    (hx : evS (lkS L) x = some (.o i n) := by rfl) (hy : evS (lkS L) y = some (.s z rows2) := by rfl) (hm : lkM M i = some (.r Te sz rows) := by rfl) (hT1 : tb.get T = some dT := by rfl) (hk1 : dT.kd = .sl Te := by rfl) (hT2 : tb.get Te = some de := by rfl) (hsz : de.sz = sz := by rfl) (hzl : Nat.beq (cellsV (inj de.z)).length de.sz = true := by rfl) (hby : 1 ≤ de.by_ := by decide) (ho1 : onceM i M = true := by rfl) (hi1 : Nat.blt i 1000 = true := by rfl)
    (hu : updK M i (.r Te sz (rows ++ rows2)) some = some M2 := by rfl) (hr : xrun tb X.n arr m H l ((d, .o i (rows ++ rows2).length) :: cln i [] L) M2 [] = some (l', L', M', φ) := by rfl) (hφ : conj φ := by first | trivial | omega | (simp +contextual [conj]; done)) : ES X arr (o :: l) k L M fs own := by
  subst hsz hn
  intro g a hE
  obtain ⟨ρ, ms, st⟩ := hE.open
  have hSl : Sl X ρ L a g := st.all _ (.tail _ (.head _))
  have hw : Region.wanted o (yielded arr a.tmps) = true := live_wanted (L := []) st.kn (live_none hg)
  have hi1 : i < 1000 := by simpa [Nat.blt_eq] using hi1
  have hM : DenM g ρ M ms := st.all _ (.head _)
  obtain ⟨r, m1, m2, rfl, hB, hup⟩ := hM.setU ho1 hm
  obtain ⟨M3, hK, hM3⟩ := hup hu
  cases hK
  have dx := eval_den hSl.val hx
  have dy := eval_den hSl.val hy
  generalize hvx : a.eval x = vx at dx
  generalize hvy : a.eval y = vy at dy
  have u := (TT.get_ok hT hT1).kd
  rw [hk1] at u
  have hti := (TT.get_ok hT hT2).ti
  have hzs : de.z.cells.size = de.sz := cellsV_len (Nat.eq_of_beq_eq_true hzl)
  cases hB with
  | r hz ys hl hdd =>
    cases dx with
    | o =>
      cases dy with
      | s xs h1 h2 hxl hxr hxo hne hxd =>
        rename_i ad2 c2
        have hxl2 : xs.length = rows2.length * de.sz := by
          by_cases he : rows2 = []
          · rw [he] at hxl ⊢; simpa using hxl
          · rw [← hz2 he]; exact hxl
        obtain ⟨ys2, hyl2, hyf⟩ := chunks hz rows2.length xs hxl2 hxo.1
        have hp : (m1 ++ Res.arr (elRow de.sz hz) Te (ρ i).ad (ρ i).c ys :: m2 ++ own).Perm (Res.arr (elRow de.sz hz) Te (ρ i).ad (ρ i).c ys :: (m1 ++ m2 ++ own)) := by
          simp only [List.append_assoc, List.cons_append]
          exact List.perm_middle
        have stp0 := st.perm hp
        have stp : St X.toCx [] (rowsD ys rows :: rowsD ys2 rows2 :: F1 ρ M _ :: F2 X ρ L a :: fs) _ g a := ⟨stp0.kn, All.cons hdd (All.cons (fun ρ' k x r hk hr => by
          have hrl : r.length = de.sz := by
            have hne2 : rows2 ≠ [] := by intro e; subst e; simp at hr
            rw [← hz2 hne2]; exact hxr r (List.mem_of_getElem? hr)
          refine ⟨by rw [x.2.1, hrl], fun j sv v hj hv => ?_⟩
          have hf := flat_get (elRow de.sz hz) ys2 k j x v hk hv
          rw [hyf] at hf
          have hne2 : rows2 ≠ [] := by intro e; subst e; simp at hr
          exact hxd ρ' k j r sv v hr hj (by rw [hz2 hne2]; exact hf)) stp0.all), stp0.own, stp0.ext, stp0.new⟩
        have hown : g.w.ownsRow 0 Te de.sz (.slice (ρ i).ad ys.length (ρ i).c) ys.length (flat (elRow de.sz hz) ys) := stp.own.p _ (.head _)
        have hbig' : (ys.length + rows2.length) * de.by_ ≤ 140737488355328 := by rw [hl]; exact hbig
        have h63 : ys.length + rows2.length ≤ maxLen := by
          have : ys.length + rows2.length ≤ (ys.length + rows2.length) * de.by_ := Nat.le_mul_of_pos_right _ hby
          simp only [maxLen]; omega
        have hrun : ∃ v' w', (Builtin.append_ #[T, T] o.type #[.slice (ρ i).ad ys.length (ρ i).c, .slice ad2 rows2.length c2]).run X.P g.w = .ok v' w' ∧ AppOK g.w w' Te de.sz (.slice (ρ i).ad ys.length (ρ i).c) v' (ys ++ ys2).length (flat (elRow de.sz hz) (ys ++ ys2)) := by
          rw [List.length_append, flat_append, hyl2, hyf]
          cases ad2 with
          | none =>
            have hr2 : rows2 = [] := by
              rcases rows2 with _ | ⟨q, qs⟩
              · rfl
              · obtain ⟨_, _, he, _⟩ := hne (by simp); cases he
            subst hr2
            have hx0 : xs = [] := List.eq_nil_of_length_eq_zero (by simpa using hxl)
            subst hx0
            obtain ⟨i0, hi0, hs0, hb0, hz0⟩ := hti
            refine ⟨.slice (ρ i).ad ys.length (ρ i).c, g.w, ?_, by simpa using hown, ⟨rfl, rfl, rfl, Nat.le_refl _, fun _ _ _ => rfl⟩, fun b hb => .inl hb⟩
            rcases hown.2 with ⟨hv, _⟩ | ⟨gg, cap, cur, hv, _, _, hnc, _⟩
            · injection hv with e1 e2 e3
              simp [Builtin.append_, run_underlying u, sizeOf, typeInfo, hi0, Builtin.lenOf, Builtin.firstCells, e1, e2, e3]
            · injection hv with e1 e2 e3
              subst e3
              simp [Builtin.append_, run_underlying u, sizeOf, typeInfo, hi0, Builtin.lenOf, Builtin.firstCells, e1, hnc, storeCells]
          | some ad2 =>
            exact run_app u hti hzs hz hown hxl2 (fun j v hv => by
              have hne2 : rows2 ≠ [] := by intro e; subst e; simp at hxl2; subst hxl2; simp at hv
              obtain ⟨b, oo, he, _, hc⟩ := hne hne2
              cases he
              rw [addr_add]
              exact hc j v hv) hxo.1 h63 hbig'
        obtain ⟨v', w', hr0, h1'⟩ := hrun
        obtain ⟨ad', c', g', rfl, rfl, s'⟩ := stp.appd .head h1'
        have hre : (execOp a.eval o).run X.P g.w = .ok (.value (.slice ad' (ys ++ ys2).length c')) g'.w := by
          simp only [execOp, ho, resolve]
          simp only [List.map_toArray, List.map_cons, List.map_nil, hvx, hvy, ← hl]
          simp [invoke, builtin, hr0]
        simp only [wl, hw, if_true, wn, hre, hd]
        let y : Lc := ⟨(ρ i).b, ad', c'⟩
        have hd1 : (rowsD ys rows).p g' := s'.all _ (.head _)
        have hd2 : (rowsD ys2 rows2).p g' := s'.all _ (.tail _ (.head _))
        have hSl' : Sl X ρ L a g' := s'.all (F2 X ρ L a) (.tail _ (.tail _ (.tail _ (.head _))))
        have hM' : DenM g' ρ M (m1 ++ _ :: m2) := s'.all (F1 ρ M _) (.tail _ (.tail _ (.head _)))
        have hBn : DenB g' (fun j => if j = i then y else ρ j) i (.r Te de.sz (rows ++ rows2)) (Res.arr (elRow de.sz hz) Te ((fun j => if j = i then y else ρ j) i).ad ((fun j => if j = i then y else ρ j) i).c (ys ++ ys2)) := .r hz (ys ++ ys2) (by simp [hl, hyl2]) (fun ρ' k x r hk hr => by
          rw [List.getElem?_append] at hk hr
          rw [hl] at hk
          split at hr
          · rename_i hlt; rw [if_pos hlt] at hk; exact hd1 ρ' k x r hk hr
          · rename_i hlt; rw [if_neg hlt] at hk; exact hd2 ρ' _ x r hk hr)
        simp only [if_pos] at hBn
        have hMn := hM3 g' y _ hM' (by simpa using hBn)
        have hp2 : (Res.arr (elRow de.sz hz) Te ad' c' (ys ++ ys2) :: (m1 ++ m2 ++ own)).Perm (m1 ++ Res.arr (elRow de.sz hz) Te ad' c' (ys ++ ys2) :: m2 ++ own) := by
          simp only [List.append_assoc, List.cons_append]
          exact List.perm_middle.symm
        have s2 := s'.perm hp2
        have s3 : St X.toCx [] (F1 (fun j => if j = i then y else ρ j) M2 (m1 ++ Res.arr (elRow de.sz hz) Te ad' c' (ys ++ ys2) :: m2) :: F2 X (fun j => if j = i then y else ρ j) (cln i [] L) a :: fs) (m1 ++ Res.arr (elRow de.sz hz) Te ad' c' (ys ++ ys2) :: m2 ++ own) g' a := ⟨s2.kn, All.cons hMn (All.cons ⟨fun j hj => by
            have : j ≠ i := by omega
            simp only [if_neg this]; exact hSl'.pin j hj, fun t sv ht => by
            obtain ⟨_, h3, h4⟩ := cln_lk ht
            obtain ⟨x, hx, dx⟩ := hSl'.val t sv h3
            exact ⟨x, hx, dx.upd h4⟩⟩ (fun f hf => s2.all f (.tail _ (.tail _ (.tail _ (.tail _ hf)))))), s2.own, s2.ext, s2.new⟩
        refine go hT m H hk hr hφ g' _ (ESt.put s3 hdn ?_)
        have hlen : (ys ++ ys2).length = (rows ++ rows2).length := by simp [hl, hyl2]
        rw [hlen]
        have : Den g' (fun j => if j = i then y else ρ j) (.o i (rows ++ rows2).length) (.slice ((fun j => if j = i then y else ρ j) i).ad (rows ++ rows2).length ((fun j => if j = i then y else ρ j) i).c) := .o
        simpa [y] using this
end
end Go.KX
namespace Go.KX
abbrev rowsB (l : List Bytes) : List (List SV) := l.map fun s => [.str s]
theorem rowsB_ys {g : GW} {ys : List (Row 1)} {l : List Bytes} (hl : ys.length = (rowsB l).length) (hd : ∀ (ρ' : Nat → Lc) (k : Nat) x r, ys[k]? = some x → (rowsB l)[k]? = some r → DenL g ρ' r x.1) : flat (elRow 1 (by decide)) ys = l.map str := by
  apply List.ext_getElem?
  intro k
  have hfl : (flat (elRow 1 (by decide)) ys).length = ys.length := by rw [flat_len]; simp [elRow]
  by_cases hk : k < ys.length
  · have hkl : k < l.length := by rw [hl] at hk; simpa using hk
    have hy := List.getElem?_eq_getElem hk
    have hr : (rowsB l)[k]? = some [.str l[k]] := by simp [hkl]
    have := hd (fun _ => ⟨0, none, 0⟩) k _ _ hy hr
    obtain ⟨x, r, hx, dx, hr2⟩ := this.uncons
    have hx0 : (ys[k]).1[0]? = some x := by rw [hx]; rfl
    have hf := flat_get (elRow 1 (by decide)) ys k 0 _ x hy hx0
    rw [show (elRow 1 (by decide)).sz = 1 from rfl, Nat.mul_one, Nat.add_zero] at hf
    rw [hf, den_str dx]
    simp [hkl]
  · have hyl : ys.length = l.length := by simpa using hl
    rw [List.getElem?_eq_none (by omega), List.getElem?_eq_none (by simp; omega)]
/-- Texts, as rows of one cell. -/
def rowOf (s : Bytes) : Row 1 := ⟨[str s], rfl, fun u hu => by simp at hu; subst hu; rfl⟩
theorem flat_rowOf (l : List Bytes) : flat (elRow 1 (by decide)) (l.map rowOf) = l.map str := by
  induction l with
  | nil => rfl
  | cons s r ih =>
    simp only [flat, List.map_cons, List.flatMap_cons] at ih ⊢
    rw [ih]
    rfl
theorem rowOf_den {g : GW} {l : List Bytes} : ∀ (ρ' : Nat → Lc) (k : Nat) x r, (l.map rowOf)[k]? = some x → (rowsB l)[k]? = some r → DenL g ρ' r x.1 := by
  intro ρ' k x r hx hr
  simp only [List.getElem?_map, Option.map_eq_some_iff] at hx hr
  obtain ⟨s, hs, rfl⟩ := hx
  obtain ⟨s', hs', rfl⟩ := hr
  rw [hs] at hs'
  cases hs'
  exact DenL.cons .str DenL.nil
abbrev sortL (l : List Bytes) : List Bytes := l.mergeSort fun x y => decide (x ≤ y)
theorem sortL_len (l : List Bytes) : (sortL l).length = l.length := (List.mergeSort_perm l _).length_eq
theorem keeps_succ {l : List Bytes} {a : Bytes} (j : Nat) : Lib.keeps (a :: l).toArray (j + 1) = decide (l[j]! ≠ (a :: l)[j]!) := by simp [Lib.keeps]
/-- Runs of equal elements, one of each. -/
def cmpP : Bytes → List Bytes → List Bytes
  | _, [] => []
  | a, b :: r => if b = a then cmpP b r else b :: cmpP b r
def cmpB : List Bytes → List Bytes
  | [] => []
  | a :: r => a :: cmpP a r
theorem cmpP_eq : ∀ (r : List Bytes) (a : Bytes), ((List.range r.length).filter (fun j => decide (r[j]! ≠ (a :: r)[j]!))).map (r[·]!) = cmpP a r
  | [], _ => rfl
  | b :: r, a => by
    have ih := cmpP_eq r b
    simp only [List.length_cons, List.range_succ_eq_map, List.filter_cons, List.filter_map, Function.comp_def, Nat.succ_eq_add_one]
    simp only [List.getElem!_cons_succ, List.getElem!_cons_zero] at ih ⊢
    unfold cmpP
    by_cases h : b = a
    · simp only [h, ne_eq, not_true_eq_false, decide_false, Bool.false_eq_true, if_false, if_true]
      rw [h] at ih
      simp only [List.map_map, Function.comp_def, Nat.succ_eq_add_one, List.getElem!_cons_succ]
      exact ih
    · simp only [h, ne_eq, not_false_eq_true, decide_true, if_true, if_false, List.map_cons, List.map_map, Function.comp_def, List.getElem!_cons_succ, List.getElem!_cons_zero]
      exact congrArg (b :: ·) ih
theorem compactB_eq (l : List Bytes) : Lib.compact l = cmpB l := by
  cases l with
  | nil => rfl
  | cons a r =>
    have ih := cmpP_eq r a
    simp only [Lib.compact, Lib.compactUpTo, List.length_cons, List.range_succ_eq_map, List.filter_cons, List.filter_map, Function.comp_def, Nat.succ_eq_add_one]
    have h0 : Lib.keeps (a :: r).toArray 0 = true := by simp [Lib.keeps]
    simp only [h0, keeps_succ, if_true, List.map_cons, List.map_map, Function.comp_def]
    show _ = a :: cmpP a r
    rw [← ih]
    simp
theorem cmpP_len : ∀ (r : List Bytes) (a : Bytes), (cmpP a r).length ≤ r.length
  | [], _ => Nat.le_refl _
  | b :: r, a => by
    have := cmpP_len r b
    unfold cmpP
    split <;> simp <;> omega
theorem cmpB_len (l : List Bytes) : (cmpB l).length ≤ l.length := by
  cases l with
  | nil => exact Nat.le_refl _
  | cons a r => have := cmpP_len r a; simp [cmpB]; exact this
end Go.KX
namespace Go.Proofs.YtomkgfdigldhcaaGreatDoor
open Go.KX Go.RowKit Go.Sort
/-- One list that is handed over, and turned in place. -/
theorem Fp_list {f : FuncId} (hc : Callable Tryz.prog f) {l l' : List Bytes} {res : SV} (hll : l'.length ≤ l.length)
    (h0 : l = [] → ∀ w, ∀ c, Calls Tryz.prog f #[.slice none 0 c] w fun e w' => ∃ v, e = .returned v ∧ w' = w ∧ ∀ g ρ, (ρ 1000).ad = none → (ρ 1000).c = c → Den g ρ res v)
    (h1 : ∀ (g : GW) gg c (cur : Array Value), g.w.heap[gg]? = some (.cells cur 9 (0, 0)) → l.length ≤ c → c ≤ maxLen → cur.size = c → cur.toList.take l.length = l.map encStr → Calls Tryz.prog f #[.slice (some ⟨gg, 0, none⟩) l.length c] g.w fun e w' => ∃ v, e = .returned v ∧ (∀ g ρ, (ρ 1000).ad = some ⟨gg, 0, none⟩ → (ρ 1000).c = c → Den g ρ res v) ∧ g.w.grownBy w' (some gg) ∧ ∃ cur', w'.heap[gg]? = some (.cells cur' 9 (0, 0)) ∧ cur'.size = c ∧ cur'.toList.take l'.length = l'.map encStr) :
    Fp Tryz.prog gT f [.o 1000 l.length] (.r 9 1 (rowsB l)) res (.r 9 1 (rowsB l')) := by
  refine ⟨hc, fun ρ g vs ms hf ha hM ho => ?_⟩
  obtain ⟨v0, r0, rfl, dv, dr⟩ := ha.uncons
  obtain rfl := dr.unnil
  cases hM with
  | cons hB ht =>
    cases ht
    cases hB with
    | r hz ys hl hd =>
      cases dv with
      | o =>
        have hfl := rowsB_ys hl hd
        obtain ⟨q1, q2⟩ := ho.p _ (.head _)
        have hyl : ys.length = l.length := by simpa using hl
        have hzz : hz = (by decide) := rfl
        rcases q2 with ⟨hv, hn⟩ | ⟨gg, cap, cur, hv, hbase, hgg, r1, r2, r3, r4⟩
        · injection hv with e1 e2 e3
          have hl0 : l = [] := List.eq_nil_of_length_eq_zero (by omega)
          have hl'0 : l' = [] := List.eq_nil_of_length_eq_zero (by rw [hl0] at hll; simpa using hll)
          have ea : (#[.slice (ρ 1000).ad l.length (ρ 1000).c] : Array Value) = #[.slice none 0 (ρ 1000).c] := by rw [e1, hl0]; rfl
          show Calls _ _ #[.slice (ρ 1000).ad l.length (ρ 1000).c] _ _
          rw [ea]
          refine (h0 hl0 g.w (ρ 1000).c).mono ?_
          rintro e w' ⟨v, rfl, rfl, hden⟩
          refine ⟨v, g, res, [(1000, .r 9 1 (rowsB l'))], _, rfl, rfl, Ext.refl _ g, ⟨rfl, rfl⟩, hden g ρ e1 rfl, .cons (.r hz ys ?_ ?_) .nil, ho, fun _ h => .inl h⟩
          · rw [hl, hl0, hl'0]
          · rw [hl'0]; intro ρ' k x r hx hr; simp at hr
        · injection hv with e1 e2 e3
          have ea : (#[.slice (ρ 1000).ad l.length (ρ 1000).c] : Array Value) = #[.slice (some ⟨gg, 0, none⟩) l.length cap] := by rw [e1, e3]
          show Calls _ _ #[.slice (ρ 1000).ad l.length (ρ 1000).c] _ _
          rw [ea]
          have r4' : cur.toList.take l.length = l.map encStr := by
            have h5 := r4
            rw [hfl, hyl] at h5
            have h6 : cur.toList.take l.length = l.map str := by simpa [elRow] using h5
            exact h6
          refine (h1 g gg cap cur hgg (by omega) r2 (by simpa [elRow] using r3) r4').mono ?_
          rintro e w' ⟨v, rfl, hden, hg, cur', hc1, hc2, hc3⟩
          have hbs : (Res.arr (elRow 1 hz) 9 (ρ 1000).ad (ρ 1000).c ys).bs = [gg] := by simp [Res.arr, vbs, e1]
          have hlt : gg < g.w.heap.size := ho.lt gg (by simp [hbs])
          have hnf : ¬ g.fz gg := ho.nfz gg (by simp [hbs])
          let g' : GW := ⟨w', g.fz, fun x hx => Nat.lt_of_lt_of_le (g.lt x hx) hg.size⟩
          have hE : Ext (blks [Res.arr (elRow 1 hz) 9 (ρ 1000).ad (ρ 1000).c ys]) g g' := ⟨⟨hg.os, hg.tape, hg.output, hg.size, fun _ h => h, fun x hf => hg.block x (g.lt x hf) (fun e => hnf (by cases e; exact hf))⟩, fun x h hn => hg.block x h (fun e => hn (by cases e; simp [hbs])), fun _ _ _ h => h⟩
          have hbs' : (Res.arr (elRow 1 hz) 9 (ρ 1000).ad (ρ 1000).c (l'.map rowOf)).bs = [gg] := by simp [Res.arr, vbs, e1]
          refine ⟨v, g', res, [(1000, .r 9 1 (rowsB l'))], [Res.arr (elRow 1 hz) 9 (ρ 1000).ad (ρ 1000).c (l'.map rowOf)], rfl, rfl, hE, ⟨rfl, rfl⟩, hden g' ρ e1 e3, .cons (.r hz _ (by simp) rowOf_den) .nil, ⟨fun x hx => ?_, by simp [hbs'], fun x hx => ?_, fun x hx => ?_⟩, fun x hx => .inl (by simpa [hbs, hbs'] using hx)⟩
          · rcases List.mem_singleton.1 hx with rfl
            refine ⟨by rw [flat_len], .inr ⟨gg, cap, cur', by rw [e1, e3], Nat.zero_le _, hc1, by simp; omega, r2, by simpa [elRow] using hc2, ?_⟩⟩
            have := flat_rowOf l'
            show cur'.toList.take ((l'.map rowOf).length * 1) = flat (elRow 1 hz) (l'.map rowOf)
            rw [this, Nat.mul_one, List.length_map]
            exact hc3
          · have : x = gg := by simpa [hbs'] using hx
            subst this; exact Nat.lt_of_lt_of_le hlt hg.size
          · have : x = gg := by simpa [hbs'] using hx
            subst this; exact hnf
theorem sortB_ok {l : List Bytes} (hl : l.length ≤ 100000000000) : Fp Tryz.prog gT 68 [.o 1000 l.length] (.r 9 1 (rowsB l)) (.t []) (.r 9 1 (rowsB (sortL l))) := by
  refine Fp_list ⟨_, Tryz.func68, rfl, by kernel_rfl⟩ (by rw [sortL_len]; exact Nat.le_refl _) (fun h0 w c => ?_) (fun g gg c cur hgg r1 r2 r3 r4 => ?_)
  · refine (Tryz.slices_Sort_string_none none c w).mono ?_
    rintro e w' ⟨rfl, rfl⟩
    exact ⟨_, rfl, rfl, fun g ρ _ _ => .t [] rfl (fun j sv x h => by simp at h)⟩
  · have hH : Holds encStr g.w gg 0 l.toArray := holds_of_block hgg r4
    have hlt := (Array.getElem?_eq_some_iff.1 hgg).1
    refine (Tryz.slices_Sort_string gg 0 c l g.w hH hlt (by omega)).mono ?_
    rintro e w' ⟨rfl, k, os, rfl⟩
    refine ⟨_, rfl, fun g ρ _ _ => .t [] rfl (fun j sv x h => by simp at h), grownBy_sorted _, putCells encStr 0 (sortL l).toArray cur, heap_sorted _ hgg, by simp [putCells, r3], take_putCells cur (sortL l) (by rw [sortL_len]; omega)⟩
theorem compactB_ok {l : List Bytes} (hl : l.length ≤ 100000000000) : Fp Tryz.prog gT 69 [.o 1000 l.length] (.r 9 1 (rowsB l)) (.o 1000 (cmpB l).length) (.r 9 1 (rowsB (cmpB l))) := by
  refine Fp_list ⟨_, Tryz.func69, rfl, by kernel_rfl⟩ (cmpB_len l) (fun h0 w c => ?_) (fun g gg c cur hgg r1 r2 r3 r4 => ?_)
  · refine (Tryz.slices_Compact_string_empty none c w).mono ?_
    rintro e w' ⟨rfl, rfl⟩
    refine ⟨_, rfl, rfl, fun g ρ h1 h2 => ?_⟩
    rw [h0, ← h1, ← h2]
    exact .o
  · have hH : Holds encStr g.w gg 0 l.toArray := holds_of_block hgg r4
    refine (Tryz.slices_Compact_string gg 0 c l g.w hH (by omega) r1).mono ?_
    rintro e w' ⟨rfl, q, rfl⟩
    rw [compactB_eq]
    have hcl := cmpB_len l
    obtain ⟨ts, hts⟩ : ∃ ts, cmpB l ++ List.replicate (l.length - (cmpB l).length) [] = ts := ⟨_, rfl⟩
    have htl : ts.length = l.length := by rw [← hts]; simp; omega
    rw [hts]
    have hg0 : grow (putRow encStr (Sort.ahead g.w q) gg 0 ts.toArray) #[] = putRow encStr (Sort.ahead g.w q) gg 0 ts.toArray := by
      unfold grow
      simp only [Array.append_empty]
    refine ⟨_, rfl, fun g ρ h1 h2 => by rw [← h1, ← h2]; exact .o, ?_, putCells encStr 0 ts.toArray cur, ?_, by simp [putCells, r3], ?_⟩
    · have := grownBy_sorted (w := g.w) (g := gg) (n := q) (os := #[]) ts.toArray
      rw [hg0] at this
      exact this
    · have := heap_sorted (n := q) (os := #[]) ts.toArray hgg
      rw [hg0] at this
      exact this
    · have h12 := congrArg (List.take (cmpB l).length) (take_putCells cur ts (by omega))
      rw [List.take_take, Nat.min_eq_left (by omega), ← hts, List.map_append] at h12
      rw [← hts, h12]
      exact List.take_left' (by simp)
end Go.Proofs.YtomkgfdigldhcaaGreatDoor
namespace Go.KX
abbrev c4 : List Val := [nullV, nanV, plusV, minusV]
theorem parse_c4 {s : Bytes} : ∀ {j : Nat} (hj : j < c4.length), s = printV c4[j] → parseV s = (c4[j], 0)
  | 0, _, h => by subst h; rfl
  | 1, _, h => by subst h; rfl
  | 2, _, h => by subst h; rfl
  | 3, _, h => by subst h; rfl
  | n + 4, h, _ => by simp at h; omega
/-- None of the four. -/
def not4 (s : Bytes) : Prop := s ≠ [110, 117, 108, 108] ∧ s ≠ [78, 97, 78] ∧ s ≠ [43, 73, 110, 102] ∧ s ≠ [45, 73, 110, 102]
theorem not4_of {s : Bytes} (h : ∀ v ∈ c4, decide (s = printV v) = false) : not4 s := by
  have key : ∀ v ∈ c4, s ≠ printV v := fun v hv => by simpa using h v hv
  exact ⟨key nullV (by simp), key nanV (by simp), key plusV (by simp), key minusV (by simp)⟩
section
variable {s w f : Bytes} {b : Bool} {n : Nat}
theorem prog_open (h4 : not4 s) (hcut : Lib.cut (Lib.trimPrefix s [45]) [46] = (w, f, b)) : parseV s = (if f.length ≤ 3 ∧ w.length ≤ 13 then
    match Lib.parseUintM M62 0 (w ++ f ++ Lib.repeatL [48] (3 - f.length)) with
    | .ok n => if (numV (if Lib.hasPrefix s [45] then -(n : Int) else n)).k = 1 ∧ printV (numV (if Lib.hasPrefix s [45] then -(n : Int) else n)) = s then (numV (if Lib.hasPrefix s [45] then -(n : Int) else n), 0) else (zeroV, 80)
    | _ => (zeroV, 80)
  else (zeroV, 80) : Val × Int) := by
  rw [← progV_eq]
  unfold progV
  rw [if_neg h4.1, if_neg h4.2.1, if_neg h4.2.2.1, if_neg h4.2.2.2]
  simp only [hcut]
  cases Lib.parseUintM M62 0 (w ++ f ++ Lib.repeatL [48] (3 - f.length)) <;> rfl
theorem prog_ok (h4 : not4 s) (hcut : Lib.cut (Lib.trimPrefix s [45]) [46] = (w, f, b)) (hl : f.length ≤ 3 ∧ w.length ≤ 13) (hP : Lib.parseUintM M62 0 (w ++ f ++ Lib.repeatL [48] (3 - f.length)) = .ok n) {x : Int} (hx : (if Lib.hasPrefix s [45] then -(n : Int) else n) = x) : parseV s = (if (numV x).k = 1 ∧ printV (numV x) = s then (numV x, 0) else (zeroV, 80) : Val × Int) := by
  rw [prog_open h4 hcut, if_pos hl, hP]
  simp only [hx]
theorem prog_bad (h4 : not4 s) (hcut : Lib.cut (Lib.trimPrefix s [45]) [46] = (w, f, b)) (hl : f.length ≤ 3 ∧ w.length ≤ 13) (hP : Lib.parseUintM M62 0 (w ++ f ++ Lib.repeatL [48] (3 - f.length)) = Lib.parseUintM 0 0 [0]) : parseV s = (zeroV, 80) := by
  rw [prog_open h4 hcut, if_pos hl, hP]
  rfl
theorem prog_long (h4 : not4 s) (hcut : Lib.cut (Lib.trimPrefix s [45]) [46] = (w, f, b)) (hl : ¬ (f.length ≤ 3 ∧ w.length ≤ 13)) : parseV s = (zeroV, 80) := by
  rw [prog_open h4 hcut, if_neg hl]
theorem uintM_norange : ∀ (l : Bytes) (a : Nat), (a + 1) * 10 ^ l.length ≤ 10 ^ 17 → Lib.parseUintM M62 a l ≠ .range ∧ ∀ n, Lib.parseUintM M62 a l = .ok n → n < 10 ^ 17
  | [], a, h => by
    refine ⟨by simp [Lib.parseUintM], fun n hn => ?_⟩
    simp only [Lib.parseUintM] at hn
    cases hn
    simp at h; omega
  | c :: l, a, h => by
    have hp : 1 ≤ 10 ^ l.length := Nat.one_le_pow _ _ (by decide)
    rw [List.length_cons, Nat.pow_succ] at h
    have h1 : (a + 1) * 10 * 10 ^ l.length ≤ 10 ^ 17 := by rw [Nat.mul_assoc, Nat.mul_comm 10]; exact h
    have h2 : (a + 1) * 10 ≤ 10 ^ 17 := Nat.le_trans (Nat.le_mul_of_pos_right _ hp) h1
    unfold Lib.parseUintM
    split
    · rename_i hc
      rw [if_neg (by omega), if_neg (by show ¬ 4611686018427387903 < _; omega)]
      exact uintM_norange l _ (Nat.le_trans (Nat.mul_le_mul_right _ (by omega)) h1)
    · exact ⟨by simp, fun n hn => by cases hn⟩
theorem uintM_16 {l : Bytes} (h : l.length ≤ 16) : Lib.parseUintM M62 0 l ≠ .range ∧ ∀ n, Lib.parseUintM M62 0 l = .ok n → n < 10 ^ 17 :=
  uintM_norange l 0 (by rw [Nat.zero_add, Nat.one_mul]; exact Nat.pow_le_pow_right (by decide) (by omega))
end
end Go.KX
namespace Go.KX
/-- It goes forward, and not past the end. -/
def Fit (s : Bytes) (f : Ps → Ex × Ps) : Prop := ∀ p, p.i ≤ s.length → p.i ≤ (f p).2.i ∧ (f p).2.i ≤ s.length
variable {s : Bytes}
theorem rest_ge (p : Ps) : p.i ≤ (p.restP s).i := by unfold Ps.restP; split <;> simp
theorem fails_i (p : Ps) (e a : Int) : (p.fails e a).i = p.i := by unfold Ps.fails; split <;> rfl
theorem restT_len {p : Ps} (h : p.i ≤ s.length) : (p.restT s).length + (p.restP s).i ≤ s.length := by
  have := rest_le (s := s) h
  unfold Ps.restT
  split
  · simpa using this
  · simp; omega
theorem takeT_some {l : List Bytes} {p : Ps} {x : Bytes} (h : takeT s l p = some x) : x ∈ l ∧ 1 ≤ x.length ∧ x.length ≤ 2 ∧ Lib.hasPrefix (p.restT s) x = true := by
  unfold takeT at h
  split at h
  · rename_i y hy
    split at h
    · rename_i hm
      cases h
      have h1 := List.mem_of_find?_eq_some hy
      have h2 := List.find?_some hy
      have h3 : ∀ x ∈ signsT, 1 ≤ x.length ∧ x.length ≤ 2 := by decide
      exact ⟨hm, (h3 _ h1).1, (h3 _ h1).2, h2⟩
    · cases h
  · cases h
theorem prefix_len {a b : Bytes} (h : Lib.hasPrefix a b = true) : b.length ≤ a.length := by
  unfold Lib.hasPrefix at h
  exact (List.isPrefixOf_iff_prefix.1 h).length_le
theorem take_fit {l : List Bytes} {p : Ps} (h : p.i ≤ s.length) : p.i ≤ (takeP s l p).i ∧ (takeP s l p).i ≤ s.length := by
  have h1 := rest_ge (s := s) p
  have h2 := rest_le (s := s) h
  have h3 := restT_len (s := s) h
  unfold takeP
  cases ht : takeT s l p with
  | none => exact ⟨h1, h2⟩
  | some x =>
    have h4 := prefix_len (takeT_some ht).2.2.2
    exact ⟨by simp; omega, by simp; omega⟩
theorem take_more {l : List Bytes} {p : Ps} {x : Bytes} (ht : takeT s l p = some x) : p.i + 1 ≤ (takeP s l p).i := by
  have h1 := rest_ge (s := s) p
  have h4 := takeT_some ht
  unfold takeP
  rw [ht]
  simp only
  omega
theorem must_fit {x : Bytes} {p : Ps} (h : p.i ≤ s.length) : p.i ≤ (mustP s x p).i ∧ (mustP s x p).i ≤ s.length := by
  have := take_fit (l := [x]) h
  unfold mustP
  split
  · exact this
  · rw [fails_i]; exact this
theorem enter_fit {d : Nat} {p : Ps} (h : p.i ≤ s.length) : p.i ≤ (enterP s d p).i ∧ (enterP s d p).i ≤ s.length := by
  have h1 := rest_ge (s := s) p
  have h2 := rest_le (s := s) h
  unfold enterP
  split
  · rw [fails_i]; exact ⟨h1, h2⟩
  · exact ⟨h1, h2⟩
theorem loop_fit {f : Ps → Ex × Ps} (hf : Fit s f) {ops : List Bytes} {alone : Bool} : ∀ (n : Nat) (x : Ex) (p : Ps), p.i ≤ s.length → p.i ≤ (loopG (tkX s) f ops alone n x p).2.i ∧ (loopG (tkX s) f ops alone n x p).2.i ≤ s.length
  | 0, x, p, h => ⟨Nat.le_refl _, h⟩
  | n + 1, x, p, h => by
    have h1 := take_fit (l := ops) h
    have h2 := hf _ h1.2
    unfold loopG
    simp only
    split
    · exact h1
    · split
      · exact ⟨Nat.le_trans h1.1 h2.1, h2.2⟩
      · rename_i o _ _
        have h4 := loop_fit hf (ops := ops) (alone := false) n (exC o [x, (f (takeP s ops p)).1]) (f (takeP s ops p)).2 h2.2
        exact ⟨Nat.le_trans (Nat.le_trans h1.1 h2.1) h4.1, h4.2⟩
theorem lev_fit {f : Ps → Ex × Ps} (hf : Fit s f) : ∀ n, Fit s (levX s f n)
  | 0 => hf
  | n + 1 => fun p h => by
    have h1 := lev_fit hf n p h
    have h2 := loop_fit (lev_fit hf n) (ops := levelsT.getD (4 - n) []) (alone := n == 2) (s.length + 1) (levX s f n p).1 (levX s f n p).2 h1.2
    exact ⟨Nat.le_trans h1.1 h2.1, h2.2⟩
theorem expr_fit {f : Ps → Ex × Ps} (hf : Fit s f) (d : Nat) : Fit s (exprX s f d) := fun p h => by
  have h1 := enter_fit (d := d) h
  have h2 := lev_fit hf 5 _ h1.2
  exact ⟨Nat.le_trans h1.1 h2.1, h2.2⟩
theorem numLen_le (r : Bytes) : numLen r ≤ r.length := by
  unfold numLen
  have h1 := runB_le gDig r
  have h2 := runB_le gDig (r.drop (runB gDig r + 1))
  simp at h2
  split <;> omega
variable {pv : Bytes → Val × Int}
theorem par_fit {f : Ps → Ex × Ps} (hf : Fit s f) : Fit s (parX s f) := fun p h => by
  have h1 := hf p h
  have h2 := must_fit (x := oPR) h1.2
  exact ⟨Nat.le_trans h1.1 h2.1, h2.2⟩
theorem word_fit {f : Ps → Ex × Ps} (hf : Fit s f) {r : Bytes} {p : Ps} (h : p.i + r.length ≤ s.length) : p.i ≤ (wordX s f r p).2.i ∧ (wordX s f r p).2.i ≤ s.length := by
  have hr := runB_le gLD r
  have hl : (r.take (runB gLD r)).length ≤ r.length := by simp; omega
  have h1 : ({ p with i := p.i + (r.take (runB gLD r)).length } : Ps).i ≤ s.length := by show p.i + _ ≤ _; omega
  unfold wordX
  simp only
  split
  · exact ⟨by simp, h1⟩
  split
  · exact ⟨by simp, h1⟩
  split
  · exact ⟨by simp, h1⟩
  have key : ∀ q : Ps, q.i = p.i + (r.take (runB gLD r)).length → p.i ≤ (parX s f (mustP s oPL q)).2.i ∧ (parX s f (mustP s oPL q)).2.i ≤ s.length := by
    intro q hq
    have hq2 : q.i ≤ s.length := by rw [hq]; exact h1
    have h2 := must_fit (x := oPL) hq2
    have h3 := par_fit hf _ h2.2
    exact ⟨by omega, h3.2⟩
  refine key _ ?_
  split
  · rfl
  · rw [fails_i]
theorem prim_fit {f : Ps → Ex × Ps} (hf : Fit s f) : Fit s (primX pv s f) := fun p h => by
  have h1 := rest_ge (s := s) p
  have h2 := rest_le (s := s) h
  have h3 := restT_len (s := s) h
  unfold primX
  simp only
  cases p.dead with
  | true => exact ⟨h1, h2⟩
  | false =>
    cases hr : p.restT s with
    | nil => simp only; rw [fails_i]; exact ⟨h1, h2⟩
    | cons c r =>
      rw [hr] at h3
      simp only [List.length_cons] at h3
      simp only
      split
      · have := par_fit hf { p.restP s with i := (p.restP s).i + 1 } (by show (p.restP s).i + 1 ≤ _; omega)
        exact ⟨by have := this.1; simp only at this; omega, this.2⟩
      split
      · unfold refX
        have hb := runB_le gLD r
        simp only [List.drop_succ_cons, List.drop_zero, List.length_take]
        exact ⟨by omega, by omega⟩
      split
      · unfold numberX
        have hb := numLen_le (c :: r)
        simp only [List.length_cons] at hb
        exact ⟨by simp only; omega, by simp only; omega⟩
      split
      · have := word_fit hf (r := c :: r) (p := p.restP s) (by simp only [List.length_cons]; omega)
        exact ⟨by omega, this.2⟩
      · simp only; rw [fails_i]; exact ⟨h1, h2⟩
theorem un_fit : ∀ d, Fit s (unX pv s d)
  | 0 => fun p h => by
    have h1 := enter_fit (d := 33) h
    have h2 := take_fit (l := [oSub, oNot]) h1.2
    have h3 := prim_fit (pv := pv) (f := fun q => (ex0, q)) (fun q hq => ⟨Nat.le_refl _, hq⟩) _ h2.2
    unfold unX
    exact ⟨by omega, h3.2⟩
  | d + 1 => fun p h => by
    have h1 := enter_fit (d := 32 - d) h
    have h2 := take_fit (l := [oSub, oNot]) h1.2
    unfold unX
    split
    · have h3 := un_fit d _ h2.2
      exact ⟨by simp only; omega, h3.2⟩
    · have h3 := prim_fit (pv := pv) (expr_fit (un_fit d) (33 - d)) _ h2.2
      exact ⟨by omega, h3.2⟩
section
variable {ex : Ps → Ex × Ps} {p : Ps} {c : UInt8} {r : Bytes}
theorem prim_dead (hd : p.dead = true) : primX pv s ex p = (ex0, p.restP s) := by unfold primX; simp only [hd]
theorem prim_nil (hd : p.dead = false) (hr : p.restT s = []) : primX pv s ex p = (ex0, (p.restP s).fails 110 (p.restP s).i) := by unfold primX; simp only [hd, hr]
theorem prim_cons (hd : p.dead = false) (hr : p.restT s = c :: r) : primX pv s ex p = if c = 40 then parX s ex { p.restP s with i := (p.restP s).i + 1 } else if c = 36 then refX (c :: r) (p.restP s) else if c ∈ gDig then numberX pv (c :: r) (p.restP s) else if c ∈ gLet then wordX s ex (c :: r) (p.restP s) else (ex0, (p.restP s).fails 110 (p.restP s).i) := by unfold primX; simp only [hd, hr]
theorem u8_eq {k : UInt8} (h : ((c.toNat : Nat) : Int) = (k.toNat : Int)) : c = k := UInt8.toNat_inj.1 (Int.ofNat.inj h)
end
theorem nI_eq {z : Int} {n : Nat} (h : z = n) : nI z = nI n := by rw [h]
end Go.KX
namespace Go.KX
section
variable {s : Bytes} {f : Ps → Ex × Ps} {ops : List Bytes} {alone : Bool} {n : Nat} {x : Ex} {p : Ps}
theorem loop_none (h : takeT s ops p = none) : loopG (tkX s) f ops alone (n + 1) x p = (x, takeP s ops p) := by
  conv => lhs; unfold loopG
  simp only [h]
theorem loop_alone {o : Bytes} (h : takeT s ops p = some o) : loopG (tkX s) f ops true (n + 1) x p = (exC o [x, (f (takeP s ops p)).1], (f (takeP s ops p)).2) := by
  conv => lhs; unfold loopG
  simp only [h]
theorem loop_more {o : Bytes} (h : takeT s ops p = some o) : loopG (tkX s) f ops false (n + 1) x p = loopG (tkX s) f ops false n (exC o [x, (f (takeP s ops p)).1]) (f (takeP s ops p)).2 := by
  conv => lhs; unfold loopG
  simp only [h]
theorem levels_row : ∀ {n : Nat} (_ : n ≤ 4) {q : Int} (_ : q = 4 - (n : Int)), ∃ rest, (levelsT.map rB).drop (q.toNat * 1) = rB (levelsT.getD (4 - n) []) :: rest
  | 0, _, q, h => by subst h; exact ⟨_, rfl⟩
  | 1, _, q, h => by subst h; exact ⟨_, rfl⟩
  | 2, _, q, h => by subst h; exact ⟨_, rfl⟩
  | 3, _, q, h => by subst h; exact ⟨_, rfl⟩
  | 4, _, q, h => by subst h; exact ⟨_, rfl⟩
  | n + 5, h, _, _ => by omega
variable {pv : Bytes → Val × Int}
theorem un_some {d : Nat} {o : Bytes} (h : takeT s [oSub, oNot] (enterP s (32 - d) p) = some o) : unX pv s (d + 1) p = (exC o [(unX pv s d (takeP s [oSub, oNot] (enterP s (32 - d) p))).1], (unX pv s d (takeP s [oSub, oNot] (enterP s (32 - d) p))).2) := by
  conv => lhs; unfold unX
  simp only [h]
theorem un_none {d : Nat} (h : takeT s [oSub, oNot] (enterP s (32 - d) p) = none) : unX pv s (d + 1) p = primX pv s (exprX s (unX pv s d) (33 - d)) (takeP s [oSub, oNot] (enterP s (32 - d) p)) := by
  conv => lhs; unfold unX
  simp only [h]
theorem enter33 : (enterP s 33 p).dead = true := by
  unfold enterP Ps.fails
  rw [if_pos (by decide)]
  split
  · assumption
  · rfl
end
end Go.KX
namespace Go.KX
mutual
def exSize : Ex → Nat
  | .mk _ _ _ l => 1 + exSizes l
def exSizes : List Ex → Nat
  | [] => 0
  | x :: r => exSize x + exSizes r
end
theorem exSize_eq (x : Ex) : exSize x = 1 + exSizes x.kids := by cases x; rfl
theorem exSize_kid : ∀ {l : List Ex} {j : Nat} (h : j < l.length), exSize l[j] ≤ exSizes l
  | x :: r, 0, _ => by simp [exSizes]
  | x :: r, j + 1, h => by
    have := exSize_kid (l := r) (j := j) (by simpa using h)
    simp only [List.getElem_cons_succ, exSizes]
    omega
/-- A tree costs two for each byte, at most. -/
def Sz (s : Bytes) (f : Ps → Ex × Ps) : Prop := ∀ p, p.i ≤ s.length → exSize (f p).1 + 2 * p.i ≤ 2 * (f p).2.i + 1
variable {s : Bytes}
theorem exs0 : exSize ex0 = 1 := rfl
theorem exsN (v : Val) : exSize (exN v) = 1 := rfl
theorem exsR (w : Bytes) : exSize (exR w) = 1 := rfl
theorem exs1 (o : Bytes) (x : Ex) : exSize (exC o [x]) = 1 + exSize x := by simp [exSize, exSizes]
theorem exs2 (o : Bytes) (x y : Ex) : exSize (exC o [x, y]) = 1 + (exSize x + exSize y) := by simp [exSize, exSizes]
theorem loop_sz {f : Ps → Ex × Ps} (hf : Fit s f) (hs : Sz s f) {ops : List Bytes} {alone : Bool} {i0 : Nat} : ∀ (n : Nat) (x : Ex) (p : Ps), p.i ≤ s.length → exSize x + 2 * i0 ≤ 2 * p.i + 1 → exSize (loopG (tkX s) f ops alone n x p).1 + 2 * i0 ≤ 2 * (loopG (tkX s) f ops alone n x p).2.i + 1
  | 0, x, p, h, h2 => h2
  | n + 1, x, p, h, h2 => by
    have h1 := take_fit (l := ops) h
    unfold loopG
    simp only
    split
    · simp only; omega
    · rename_i o ho
      have h3 := take_more ho
      have h4 := hf _ h1.2
      have h5 := hs _ h1.2
      split
      · rw [exs2]; simp only; omega
      · exact loop_sz hf hs n _ _ h4.2 (by rw [exs2]; omega)
theorem lev_sz {f : Ps → Ex × Ps} (hf : Fit s f) (hs : Sz s f) : ∀ n, Sz s (levX s f n)
  | 0 => hs
  | n + 1 => fun p h => by
    have h1 := lev_fit hf n p h
    have h2 := lev_sz hf hs n p h
    exact loop_sz (lev_fit hf n) (lev_sz hf hs n) _ _ _ h1.2 h2
theorem expr_sz {f : Ps → Ex × Ps} (hf : Fit s f) (hs : Sz s f) (d : Nat) : Sz s (exprX s f d) := fun p h => by
  have h1 := enter_fit (d := d) h
  have h2 := lev_sz hf hs 5 _ h1.2
  show exSize (levX s f 5 (enterP s d p)).1 + 2 * p.i ≤ 2 * (levX s f 5 (enterP s d p)).2.i + 1
  omega
theorem par_sz {f : Ps → Ex × Ps} (hf : Fit s f) (hs : Sz s f) : Sz s (parX s f) := fun p h => by
  have h1 := hf p h
  have h2 := must_fit (x := oPR) h1.2
  have h3 := hs p h
  show exSize (f p).1 + 2 * p.i ≤ 2 * (mustP s oPR (f p).2).i + 1
  omega
variable {pv : Bytes → Val × Int}
theorem word_sz {f : Ps → Ex × Ps} (hf : Fit s f) (hs : Sz s f) {r : Bytes} {p : Ps} (h : p.i + r.length ≤ s.length) (h1 : 1 ≤ runB gLD r) : exSize (wordX s f r p).1 + 2 * p.i ≤ 2 * (wordX s f r p).2.i + 1 := by
  have hr := runB_le gLD r
  have hl : (r.take (runB gLD r)).length = runB gLD r := by simp; omega
  have key : ∀ (w : Bytes) (q : Ps), q.i = p.i + runB gLD r → exSize (exC w [(parX s f (mustP s oPL q)).1]) + 2 * p.i ≤ 2 * (parX s f (mustP s oPL q)).2.i + 1 := by
    intro w q hq
    have hq2 : q.i ≤ s.length := by omega
    have h2 := must_fit (x := oPL) hq2
    have h3 := par_sz hf hs _ h2.2
    rw [exs1]
    omega
  unfold wordX
  simp only [hl]
  split
  · rw [exsN]; simp only; omega
  split
  · rw [exsN]; simp only; omega
  split
  · rw [exsN]; simp only; omega
  refine key _ _ ?_
  split
  · rfl
  · rw [fails_i]
theorem let_run {c : UInt8} {r : Bytes} (h : c ∈ gLet) : 1 ≤ runB gLD (c :: r) := by
  have : c ∈ gLD := by
    have : ∀ x ∈ gLet, x ∈ gLD := by decide
    exact this c h
  unfold runB
  rw [if_pos this]
  omega
theorem prim_sz {f : Ps → Ex × Ps} (hf : Fit s f) (hs : Sz s f) : Sz s (primX pv s f) := fun p h => by
  have h1 := rest_ge (s := s) p
  have h2 := rest_le (s := s) h
  have h3 := restT_len (s := s) h
  unfold primX
  simp only
  cases p.dead with
  | true => simp only [exs0]; omega
  | false =>
    cases hr : p.restT s with
    | nil => simp only [exs0]; rw [fails_i]; omega
    | cons c r =>
      rw [hr] at h3
      simp only [List.length_cons] at h3
      simp only
      split
      · have := par_sz hf hs { p.restP s with i := (p.restP s).i + 1 } (by show (p.restP s).i + 1 ≤ _; omega)
        simp only at this
        omega
      split
      · unfold refX
        simp only [exsR]
        omega
      split
      · unfold numberX
        simp only [exsN]
        omega
      split
      · rename_i hle
        have := word_sz hf hs (r := c :: r) (p := p.restP s) (by simp only [List.length_cons]; omega) (let_run hle)
        omega
      · simp only [exs0]; rw [fails_i]; omega
theorem un_sz : ∀ d, Sz s (unX pv s d)
  | 0 => fun p h => by
    have h1 := enter_fit (d := 33) h
    have h2 := take_fit (l := [oSub, oNot]) h1.2
    have h3 := prim_sz (pv := pv) (f := fun q => (ex0, q)) (fun q hq => ⟨Nat.le_refl _, hq⟩) (fun q hq => by simp only [exs0]; omega) _ h2.2
    unfold unX
    omega
  | d + 1 => fun p h => by
    have h1 := enter_fit (d := 32 - d) h
    have h2 := take_fit (l := [oSub, oNot]) h1.2
    unfold unX
    split
    · rename_i o ho
      have h3 := un_sz d _ h2.2
      have h4 := take_more ho
      simp only [exs1]
      omega
    · have h3 := prim_sz (pv := pv) (expr_fit (un_fit d) (33 - d)) (expr_sz (un_fit d) (un_sz d) (33 - d)) _ h2.2
      omega
theorem parse_sz : exSize (parseX pv s).1 ≤ 2049 := by
  unfold parseX
  split
  · simp only [exs0]; omega
  · rename_i hs
    have h1 := expr_sz (s := s) (un_fit (pv := pv) 33) (un_sz 33) 0 ⟨0, 0, 0, false⟩ (Nat.zero_le _)
    have h2 := expr_fit (s := s) (un_fit (pv := pv) 33) 0 ⟨0, 0, 0, false⟩ (Nat.zero_le _)
    simp only at h1 h2 ⊢
    repeat' split
    all_goals first | (simp only [exs0]; omega) | omega
mutual
def refsX : Ex → List Bytes
  | .mk k n _ l => if k = 2 then [n] else cmpB (sortL (refsL l))
def refsL : List Ex → List Bytes
  | [] => []
  | x :: r => refsX x ++ refsL r
end
theorem refsX_eq (x : Ex) : refsX x = if x.kind = 2 then [x.name] else cmpB (sortL (refsL x.kids)) := by cases x; rfl
theorem refsL_app : ∀ (a b : List Ex), refsL (a ++ b) = refsL a ++ refsL b
  | [], b => rfl
  | x :: r, b => by simp [refsL, refsL_app r b]
theorem refsL_next {l : List Ex} {j : Nat} (hj : j < l.length) : refsL (l.take (j + 1)) = refsL (l.take j) ++ refsX l[j] := by
  rw [List.take_succ_eq_append_getElem hj, refsL_app]
  simp [refsL]
mutual
theorem refs_len : ∀ x : Ex, (refsX x).length ≤ exSize x
  | .mk k n v l => by
    have h := refs_lens l
    have h1 := cmpB_len (sortL (refsL l))
    rw [sortL_len] at h1
    unfold refsX exSize
    split
    · simp
    · omega
theorem refs_lens : ∀ l : List Ex, (refsL l).length ≤ exSizes l
  | [] => Nat.le_refl _
  | x :: r => by
    have h1 := refs_len x
    have h2 := refs_lens r
    simp only [refsL, exSizes, List.length_append]
    omega
end
theorem exSizes_take {l : List Ex} (j : Nat) : exSizes (l.take j) ≤ exSizes l := by
  induction l generalizing j with
  | nil => simp
  | cons x r ih =>
    cases j with
    | zero => simp [exSizes]
    | succ j =>
      have := ih j
      simp only [List.take_succ_cons, exSizes]
      omega
theorem kids_len : ∀ l : List Ex, l.length ≤ exSizes l
  | [] => Nat.le_refl _
  | x :: r => by
    have := kids_len r
    have h2 := exSize_eq x
    simp only [List.length_cons, exSizes]
    omega
theorem rowsB_len {l : List Bytes} : ∀ r ∈ rowsB l, r.length = 1 := fun r hr => by
  obtain ⟨s, _, rfl⟩ := List.mem_map.1 hr
  rfl
end Go.KX
namespace Go.KX
section
variable {X : Kx} {k : List It} {L : SL} {M : SM} {fs : List MF} {own : List Res} {arr : Array Oper} {l : List Oper} {o : Oper}
theorem dsq {tb : TT} (hT : tb.Ok X.P) (m : Nat) (H : List (List SV)) (ne : Bool) {un i : Nat} {D rr π' : List Nat} {Ms Ms' : List SM} {b : Bool} {d T yT : Nat} {x y : Operand} {svs cs ds : List SV} {xs ys : List Value} {fl : Array Field} {G : Option Bool} {L' M' φ ψ} (hu : X.P.underlying T = some (.struct fl)) (hp : X.P.stoodInHeld T = false)
    (hr : ∀ w, (Op.eqFields 9999 xs.toArray ys.toArray fl.toList).run X.P w = .ok b w) (hk : ED X arr k fs own un D π' L' M' Ms') (hi : arr[i]? = some o := by rfl) (hun : un.testBit i = false := by rfl) (hG : gS arr (lkS L) o = some G := by rfl) (hd : o.dst = some d := by rfl) (hn : Nat.blt d X.n = true := by rfl) (ho : o.op = .binOp (neO ne) T x y yT := by rfl)
    (hev : evs (lkS L) [x, y] = some svs := by rfl) (hst : svs.map st1 = [.a cs, .a ds] := by rfl) (v1 : valsL cs = some xs := by rfl) (v2 : valsL ds = some ys := by rfl)
    (hm : ∀ w, (eqGuard (neO ne) T x y (.agg xs.toArray) (.agg ys.toArray)).run X.P w = .ok () w := by intro w; kernel_rfl)
    (hc : wq G (svs.flatMap cd1) = ψ := by rfl) (hψ : conj ψ := by first | trivial | exact id | exact ⟨id, id⟩ | (simp +contextual [conj]; done) | simp_all [conj])
    (hrn : xdrw tb X.n arr un D m H rr ((d, wr G (.v (.bool (neB ne b)))) :: L) M Ms [] = some (π', L', M', Ms', φ) := by rfl) (hφ : conj φ := by first | trivial | omega | (simp +contextual [conj]; done) | (simp +contextual [conj, *]; done) | (simp +contextual [conj, *] <;> omega)) : ED X arr k fs own un D (i :: rr) L M Ms := by
  refine ⟨o, wr G (.v (.bool (neB ne b))), hi, ?_⟩
  rw [hun]
  refine ⟨.inr (fun M' => Stp_eqS (ne := ne) hG hd hn ho hev hst (by rw [hc]; exact conj_all hψ) v1 v2 hu hp hm hr), ?_⟩
  rw [hd]
  exact xd hT m H hk hrn hφ
/-- A plain value, put together with a constant. -/
theorem knc {tb : TT} (hT : tb.Ok X.P) (m : Nat) (H : List (List SV)) {d T yT : Nat} {op : BinOp} {x : Operand} {vx c : Value} (v : Value) {l' L' M' φ} (hr : ∀ w, (binOp op T vx c).run X.P w = .ok v w) (hk : ES X arr l' k L' M' fs own) (ho : o.op = .binOp op T x (.const c) yT := by rfl)
    (hx : evS (lkS L) x = some (.v vx) := by rfl) (he : ∀ w, (eqGuard op T x (.const c) vx c).run X.P w = .ok () w := by intro w; rfl)
    (hg : o.guard = none := by rfl) (hd : o.dst = some d := by rfl) (hn : Nat.blt d X.n = true := by rfl) (hrn : xrun tb X.n arr m H l ((d, .v v) :: L) M [] = some (l', L', M', φ) := by rfl)
    (hφ : conj φ := by first | trivial | omega | (simp +contextual [conj]; done)) : ES X arr (o :: l) k L M fs own := by
  have hG : gS arr (lkS L) o = some none := by unfold gS; rw [hg]
  refine ES_step (Stp_read (sv := .v v) hG hd hn (fun L' hL hon g a ρ ms st => ⟨v, ?_, .v⟩)) ?_
  · have hSl : Sl X ρ L' a g := st.all _ (.tail _ (.head _))
    have hev : evs (lkS L') [x] = some [.v vx] := by
      have h2 : o.op.operands.toList = [x, .const c] := by rw [ho]; rfl
      have h3 : evs (lkS L') [x] = evs (lkS L) [x] := evs_agree (fun t ht => hL t (by
        refine List.mem_append_left _ ?_
        rw [h2]
        cases x with
        | tmp u => simpa [tmpOf] using ht
        | _ => simp [tmpOf] at ht))
      rw [h3]
      simp only [evs, hx]
    obtain ⟨_, _, e1, dx, _⟩ := (evals_den hSl.val hev).uncons
    simp only [List.map_cons, List.cons.injEq] at e1
    obtain ⟨rfl, _⟩ := e1
    have e2 : a.eval (.const c) = c := rfl
    simp only [execOp, ho, den_v dx, e2]
    simp [hr g.w, he g.w]
  · rw [hd]
    exact go hT m H hk hrn hφ
end
theorem eqF_bool {P : Program} {w : World} {d : Nat} {xs ys : Array Value} {f : Field} {r : List Field} {p q : Bool} (hn : f.name ≠ "_") (u : P.underlying f.type = some .bool) (hx : xs[f.offset]? = some (.bool p)) (hy : ys[f.offset]? = some (.bool q)) :
    (Op.eqFields (d + 1) xs ys (f :: r)).run P w = if p = q then (Op.eqFields (d + 1) xs ys r).run P w else .ok false w := by
  simp only [Op.eqFields, hn, if_true, ne_eq, not_false_eq_true, Sem.run_bind, run_part1 u rfl hx, run_part1 u rfl hy, Result.andThen_ok, run_equalIn_bool w d f.type p q u]
  by_cases h : p = q <;> simp [h]
theorem run_partS {P : Program} {w : World} {t sz by_ : Nat} {z : Value} {d : TypeDesc} {cs : Array Value} {off : Nat} (u : P.underlying t = some d) (hd : aggD d = true) (i : TI P t sz by_ z) : (part t cs off).run P w = .ok (.agg (cs.extract off (off + sz))) w := by
  have hag := run_isAgg (P := P) (w := w) u
  rw [hd] at hag
  simp [part, hag, run_sizeOf i]
theorem eqF_st {P : Program} {w : World} {d sz by_ : Nat} {z : Value} {xs ys : Array Value} {f : Field} {r : List Field} {fl : Array Field} {b : Bool} (hn : f.name ≠ "_") (u : P.underlying f.type = some (.struct fl)) (hp : P.stoodInHeld f.type = false) (i : TI P f.type sz by_ z)
    (hb : (Op.eqFields d (xs.extract f.offset (f.offset + sz)) (ys.extract f.offset (f.offset + sz)) fl.toList).run P w = .ok b w) :
    (Op.eqFields (d + 1) xs ys (f :: r)).run P w = if b = true then (Op.eqFields (d + 1) xs ys r).run P w else .ok false w := by
  have hf : P.fieldsOf f.type = fl := by simp [Program.fieldsOf, u]
  have he := run_equalIn_struct w d f.type (xs.extract f.offset (f.offset + sz)) (ys.extract f.offset (f.offset + sz)) (by rw [hf]; exact u) hp
  rw [hf, hb] at he
  simp only [Op.eqFields, hn, if_true, ne_eq, not_false_eq_true, Sem.run_bind, run_partS u rfl i, Result.andThen_ok, he]
  cases b <;> simp
end Go.KX
namespace Go.KX
structure Nd where
  ref : Bytes
  kind : Int
  source : Bytes
  input : Bytes
  how : Bytes
  strict : Bool
  low : Val
  high : Val
  text : Bytes
  deriving DecidableEq
abbrev ndL (n : Nd) : List SV := [.str n.ref, nI n.kind, .str n.source, .str n.input, .str n.how, bS n.strict, nI n.low.k, nI n.low.n, nI n.high.k, nI n.high.n, .str n.text]
abbrev ndS (n : Nd) : SV := .a (ndL n)
abbrev rN (l : List Nd) : SV := .s 11 (l.map ndL)
def inputsN (n : Nd) : List Bytes := if n.kind = 2 then [n.input] else if n.kind = 4 then [n.input] else if n.kind = 3 then (if (parseX parseV n.text).2.1 = 0 then refsX (parseX parseV n.text).1 else []) else []
def boundV (v : Val) : Bool := isV v && decide (v.k ≠ 2) && decide (v.k ≠ 3)
abbrev hGt : Bytes := [103, 116]
abbrev hLt : Bytes := [108, 116]
abbrev hIn : Bytes := [105, 110]
abbrev hOut : Bytes := [111, 117, 116]
abbrev hCount : Bytes := [99, 111, 117, 110, 116]
def hows : List Bytes := [[108, 97, 115, 116], [109, 105, 110], [109, 97, 120], [115, 117, 109], [109, 101, 97, 110], hCount]
/-- What no points become. -/
def red0 (how : Bytes) : Val × Int := if how ∈ hows then (if how = hCount then numV 0 else nullV, 0) else (zeroV, 100)
def plainN (n : Nd) : Nd :=
  if n.kind = 1 then ⟨n.ref, n.kind, n.source, [], [], false, zeroV, zeroV, []⟩ else
  if n.kind = 2 then ⟨n.ref, n.kind, [], n.input, n.how, n.strict, zeroV, zeroV, []⟩ else
  if n.kind = 3 then ⟨n.ref, n.kind, [], [], [], false, zeroV, zeroV, n.text⟩ else
  if n.kind = 4 then (if n.how = hIn ∨ n.how = hOut then ⟨n.ref, n.kind, [], n.input, n.how, false, n.low, n.high, []⟩ else ⟨n.ref, n.kind, [], n.input, n.how, false, n.low, zeroV, []⟩) else
  ⟨n.ref, n.kind, [], [], [], false, zeroV, zeroV, []⟩
def isK (n : Nd) : Bool :=
  if n.kind = 1 then decide (n.source ≠ []) && decide (n.source.length ≤ 64) else
  if n.kind = 2 then decide (n.how ∈ hows) else
  if n.kind = 3 then decide ((parseX parseV n.text).2.1 = 0) else
  if n.kind = 4 then (if n.how = hGt ∨ n.how = hLt then boundV n.low else if n.how = hIn ∨ n.how = hOut then boundV n.low && boundV n.high else false) else false
def isN (n : Nd) : Bool := if (!refB n.ref || !decide (n = plainN n)) = true then false else isK n
section
variable {n : Nd}
theorem isK1 (h : n.kind = 1) : isK n = (decide (¬ n.source = []) && decide ((n.source.length : Int) ≤ 64)) := by
  have q : decide ((n.source.length : Int) ≤ 64) = decide (n.source.length ≤ 64) := decide_eq_decide.2 (by omega)
  unfold isK; rw [if_pos h, q]
theorem isK2 (h : n.kind = 2) : isK n = decide ((red0 n.how).2 = 0) := by
  unfold isK red0; rw [if_neg (by omega), if_pos h]
  split <;> simp_all
theorem isK3 (h : n.kind = 3) : isK n = decide ((parseX parseV n.text).2.1 = 0) := by
  unfold isK; rw [if_neg (by omega), if_neg (by omega), if_pos h]
theorem isK4a (h : n.kind = 4) (hh : n.how = hGt ∨ n.how = hLt) : isK n = boundV n.low := by
  unfold isK; rw [if_neg (by omega), if_neg (by omega), if_neg (by omega), if_pos h, if_pos hh]
theorem isK4b (h : n.kind = 4) (h1 : ¬ n.how = hGt) (h2 : ¬ n.how = hLt) (hh : n.how = hIn ∨ n.how = hOut) : isK n = (boundV n.low && boundV n.high) := by
  unfold isK; rw [if_neg (by omega), if_neg (by omega), if_neg (by omega), if_pos h, if_neg (fun q => q.elim h1 h2), if_pos hh]
theorem isK4c (h : n.kind = 4) (h1 : ¬ n.how = hGt) (h2 : ¬ n.how = hLt) (h3 : ¬ n.how = hIn) (h4 : ¬ n.how = hOut) : isK n = false := by
  unfold isK; rw [if_neg (by omega), if_neg (by omega), if_neg (by omega), if_pos h, if_neg (fun q => q.elim h1 h2), if_neg (fun q => q.elim h3 h4)]
theorem isK0 (h1 : ¬ n.kind = 1) (h2 : ¬ n.kind = 2) (h3 : ¬ n.kind = 3) (h4 : ¬ n.kind = 4) : isK n = false := by
  unfold isK; rw [if_neg h1, if_neg h2, if_neg h3, if_neg h4]
end
theorem inputs_len (n : Nd) : (inputsN n).length ≤ 2049 := by
  unfold inputsN
  have h1 := refs_len (parseX parseV n.text).1
  have h2 := parse_sz (pv := parseV) (s := n.text)
  repeat' split
  all_goals first | omega | simp
end Go.KX
